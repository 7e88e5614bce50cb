/- A statement and its own function. -/
import Derived.Test.YtapnoejokajcoaaGreatDoorX9
import Derived.Test.YtapnoejokajcoaaGreatDoorTie
import Derived.Test.YtapnoejokajcoaaGreatDoorCards
import Derived.SevenTiedAt
set_option linter.defProp false
set_option linter.unusedVariables false
set_option linter.unusedSimpArgs false
set_option maxRecDepth 100000
noncomputable section
namespace Go.Proofs.YtapnoejokajcoaaGreatDoor
open Go Go.Wk Go.Wl Go.Rx Go.ChangeShapes Go.WideShapes Go.RowKit Go.Qu Go.Re
theorem a5L(os:Os){H:Type}(enc:TypeId×Value->H):∃places,DataW.whole enc Tryz.prog ((c0y os).forCall (fun _ _=>0) ⟨#[],#[.agg #[.string ⟨#[]⟩,.string ⟨#[]⟩,.slice none 0 0,.int .i64 0,.int .i64 0,.int .i64 0,.int .i64 0,.int .i64 0,.int .i64 0,.bool false,.bool false,.string ⟨#[]⟩,.slice none 0 0,.slice none 0 0,.slice none 0 0,.slice none 0 0,.slice none 0 0,.slice none 0 0,.slice none 0 0,.slice none 0 0,.slice none 0 0,.slice none 0 0],.agg #[.int .i64 0,.int .i64 0,.int .i64 0,.int .i64 0,.int .i64 0,.int .i64 0,.bool false,.bool false],.agg #[.int .i64 0,.int .i64 0,.int .i64 0,.int .i64 0,.int .i64 0,.int .i64 0,.bool false,.bool false],.agg #[.int .i64 0,.int .i64 0,.int .i64 0,.int .i64 0,.int .i64 0,.int .i64 0,.bool false,.bool false]],[]⟩).memory Tryz.f5.params.toList Rows.queryPartsSpec.vars false #[.agg #[.string ⟨#[]⟩,.string ⟨#[]⟩,.slice none 0 0,.int .i64 0,.int .i64 0,.int .i64 0,.int .i64 0,.int .i64 0,.int .i64 0,.bool false,.bool false,.string ⟨#[]⟩,.slice none 0 0,.slice none 0 0,.slice none 0 0,.slice none 0 0,.slice none 0 0,.slice none 0 0,.slice none 0 0,.slice none 0 0,.slice none 0 0,.slice none 0 0],.agg #[.int .i64 0,.int .i64 0,.int .i64 0,.int .i64 0,.int .i64 0,.int .i64 0,.bool false,.bool false],.agg #[.int .i64 0,.int .i64 0,.int .i64 0,.int .i64 0,.int .i64 0,.int .i64 0,.bool false,.bool false],.agg #[.int .i64 0,.int .i64 0,.int .i64 0,.int .i64 0,.int .i64 0,.int .i64 0,.bool false,.bool false]].toList 12=some ([.agg [.lit (.string []),.lit (.string []),.nil,.agg [.agg [.agg [.agg [.lit (.int .i64 0),.lit (.int .i64 0),.lit (.int .i64 0)],.lit (.int .i64 0),.lit (.int .i64 0),.lit (.int .i64 0),.lit (.bool false),.lit (.bool false)],.lit (.string [])],.nil,.nil,.nil,.nil,.nil,.nil,.nil,.nil],.nil,.nil],.agg [.agg [.lit (.int .i64 0),.lit (.int .i64 0),.lit (.int .i64 0)],.lit (.int .i64 0),.lit (.int .i64 0),.lit (.int .i64 0),.lit (.bool false),.lit (.bool false)],.agg [.agg [.lit (.int .i64 0),.lit (.int .i64 0),.lit (.int .i64 0)],.lit (.int .i64 0),.lit (.int .i64 0),.lit (.int .i64 0),.lit (.bool false),.lit (.bool false)],.agg [.agg [.lit (.int .i64 0),.lit (.int .i64 0),.lit (.int .i64 0)],.lit (.int .i64 0),.lit (.int .i64 0),.lit (.int .i64 0),.lit (.bool false),.lit (.bool false)]],[],places):=
 ⟨[],by kernel_rfl⟩
theorem queryParts_lifted(os:Os)(started:os.Started)(H:Type)(enc:TypeId×Value->H)(F:Stop.Interp) :
  ReturnsInHanded {} Tryz.checked os 5 .any ((Rows.OpenSpec.upto Rows.queryPartsSpec).preRow enc Tryz.prog Tryz.f5 Rows.queryPartsUptoRow.domain false Rows.queryPartsUptoRow.laid) (((Rows.OpenSpec.upto Rows.queryPartsSpec).at F).post enc Tryz.prog Tryz.f5 false true false false):=by
 obtain⟨places,hx⟩:=a5L os enc;refine returnsInHanded_of_row (C:=Tryz.checked) (s:=Rows.OpenSpec.upto Rows.queryPartsSpec) d3Z started (by kernel_rfl) Tryz.func5
  (witness_row_atRef (enc:=enc) (C:=Tryz.checked) false (c0y os) _ rfl (by kernel_rfl) (by kernel_rfl) (by kernel_rfl)
   (OpenSpec.preRow_of_cond 12 hx (by kernel_rfl) (fun k hk=>by cases hk;kernel_rfl) (by kernel_rfl) (b7U os _))) ?_
 intro W base args ds gs before hval0 hW _ hcond _ hL ho _;have hval:∀(j:Nat) t v,Tryz.f5.params[j]?=some t->args[j]?=some v->Value.okWide Tryz.prog W .any base t v:=hval0;have hW':=hW;obtain⟨p,q,hA0,hV,rfl,_,_⟩:=hW;have hA:DataW.TrodAll enc Tryz.prog W 0 (fun _=>true) true Tryz.f5.params.toList args.toList ds p:=hA0;rw[Tryz.params5]at hA hval;obtain⟨v0,v1,v2,v3,d0,d1,d2,d3,p0,p1,p2,p3,rfl,rfl,rfl,h0,h1,h2,h3⟩:=trodAll_four hA;obtain⟨rfl,rfl⟩:=trodVars_none hV;have hb:Rows.uptoBulkAll ([d0,d1,d2,d3]++[])<=1048576:=d5t (hcond _ rfl);simp only[d5j,Rows.uptoBulkAll]at hb;obtain⟨y0,k0,b0⟩:=b0N c9B b7E (by decide) h0;obtain⟨y1,k1,b1⟩:=b0N a8A b8o (by decide) h1;obtain⟨y2,k2,b2⟩:=b0N a8A b8o (by decide) h2;obtain⟨y3,k3,b3⟩:=b0N a8A b8o (by decide) h3;obtain⟨t1,t2,t3,t4⟩:=c8h y0 y3;have hc:=G9 (an:=c63 5) Nl4v_ok (inlHN_ok Nl4v_ok H0_ok c63 2) Tryz.func5 (k:=.bool) (x:=true) (ob:=[]) trivial (kc (d4c y0 y1 y2 y3 (by omega) (by omega) (by omega) (by omega)) (by kernel_rfl)) 0 (fun b=>b<W.heap.size) W [v0,v1,v2,v3] (fun _ h=>h) (b3Z hL ho) (.I1 (cs:=[v1,v2,v3]) k0 (.I1 (cs:=[v2,v3]) k1 (.I1 (cs:=[v3]) k2 (.I1 (cs:=[]) k3 .L6))));exact b79 (tb:=4) d0r (d0E (by kernel_rfl)) rfl Tryz.underlying4 rfl rfl hW' (hc.mono fun v w' h=>⟨b6S h.2.1,h.1⟩)
theorem queryParts_upto_holds:Rows.QueryPartsUptoSaid:=
 OpenClaim.holds_of_cond 5 Tryz.f5 rfl rfl rfl rfl rfl rfl rfl ⟨rfl,rfl,rfl,rfl,rfl⟩ rfl rfl rfl rfl rfl (by kernel_rfl) Tryz.func5 lc5
  (d5t (by kernel_rfl)) (by unfold Func.isWrapper;first|(rw[if_pos (by decide +kernel)];kernel_rfl)|(rw[if_neg (by decide +kernel)];exact⟨rfl,rfl⟩))
  (fun os started H enc _ F=>by rw[OpenClaim.pre_eq_preRow];exact queryParts_lifted os started H enc F)
theorem queryParts_upto_card_holds:Rows.QueryPartsUptoCardSaid:=
 Claim7.holds_tied_plain_at .later [] [.data,.handle,.pinned] true (true, "31739205452a11ee944036a0d9ca1fd179c662e16ae3688d572143ba66e03006") true
  queryParts_upto_holds (fun _ h=>by cases h) (by kernel_rfl) (fun _ h=>by cases h) queryPartsUpto_row_tie rfl ⟨rfl,rfl⟩ (by kernel_rfl) rfl
  (fun f fn hf hfn=>by
   obtain rfl:f=5:=d5M ((show Tryz.prog.funcNamed "calends/calendslaw14.QueryParts" = some 5 by kernel_rfl).symm.trans hf) |>.symm;obtain rfl:fn=Tryz.f5:=(d5M (Tryz.func5.symm.trans hfn)).symm;exact⟨by kernel_rfl,fun j t ht=>by
    rw[Tryz.params5]at ht;have hm:t∈[38,26]:=by simpa using Array.mem_of_getElem? ht
    have hall:([38,26].all fun u=>!Tryz.prog.wantsStandIn u)=true:=by kernel_rfl
    exact(show Tryz.prog.wantsStandIn t=false by simpa using d5h.1 hall t hm)⟩)
  (by kernel_rfl)
#print axioms queryParts_upto_card_holds
end Go.Proofs.YtapnoejokajcoaaGreatDoor
