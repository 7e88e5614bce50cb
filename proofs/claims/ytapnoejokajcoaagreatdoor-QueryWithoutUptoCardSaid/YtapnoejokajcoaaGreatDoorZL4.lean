/- A statement and its own function. -/
import Derived.Test.YtapnoejokajcoaaGreatDoorW9
import Derived.Test.YtapnoejokajcoaaGreatDoorTie
import Derived.Test.YtapnoejokajcoaaGreatDoorCards
import Derived.SevenTiedAt
set_option linter.defProp false
set_option linter.unusedVariables false
set_option linter.unusedSimpArgs false
set_option maxRecDepth 100000
noncomputable section
namespace Go.Proofs.YtapnoejokajcoaaGreatDoor
open Go Go.Wk Go.Wl Go.Rx Go.ChangeShapes Go.WideShapes Go.RowKit Go.Qu Go.Re
theorem a4B(os:Os){H:Type}(enc:TypeId×Value->H):∃places,DataW.whole enc Tryz.prog ((b97 os).forCall (fun _ _=>0) ⟨#[],#[.agg #[.string ⟨#[]⟩,.string ⟨#[]⟩,.slice none 0 0,.int .i64 0,.int .i64 0,.int .i64 0,.int .i64 0,.int .i64 0,.int .i64 0,.bool false,.bool false,.string ⟨#[]⟩,.slice none 0 0,.slice none 0 0,.slice none 0 0,.slice none 0 0,.slice none 0 0,.slice none 0 0,.slice none 0 0,.slice none 0 0,.slice none 0 0,.slice none 0 0],.agg #[.int .i64 0,.int .i64 0,.int .i64 0,.int .i64 0,.int .i64 0,.int .i64 0,.bool false,.bool false],.agg #[.int .i64 0,.int .i64 0,.int .i64 0,.int .i64 0,.int .i64 0,.int .i64 0,.bool false,.bool false],.int .i64 0],[]⟩).memory Tryz.f4.params.toList Rows.queryWithoutSpec.vars false #[.agg #[.string ⟨#[]⟩,.string ⟨#[]⟩,.slice none 0 0,.int .i64 0,.int .i64 0,.int .i64 0,.int .i64 0,.int .i64 0,.int .i64 0,.bool false,.bool false,.string ⟨#[]⟩,.slice none 0 0,.slice none 0 0,.slice none 0 0,.slice none 0 0,.slice none 0 0,.slice none 0 0,.slice none 0 0,.slice none 0 0,.slice none 0 0,.slice none 0 0],.agg #[.int .i64 0,.int .i64 0,.int .i64 0,.int .i64 0,.int .i64 0,.int .i64 0,.bool false,.bool false],.agg #[.int .i64 0,.int .i64 0,.int .i64 0,.int .i64 0,.int .i64 0,.int .i64 0,.bool false,.bool false],.int .i64 0].toList 12=some ([.agg [.lit (.string []),.lit (.string []),.nil,.agg [.agg [.agg [.agg [.lit (.int .i64 0),.lit (.int .i64 0),.lit (.int .i64 0)],.lit (.int .i64 0),.lit (.int .i64 0),.lit (.int .i64 0),.lit (.bool false),.lit (.bool false)],.lit (.string [])],.nil,.nil,.nil,.nil,.nil,.nil,.nil,.nil],.nil,.nil],.agg [.agg [.lit (.int .i64 0),.lit (.int .i64 0),.lit (.int .i64 0)],.lit (.int .i64 0),.lit (.int .i64 0),.lit (.int .i64 0),.lit (.bool false),.lit (.bool false)],.agg [.agg [.lit (.int .i64 0),.lit (.int .i64 0),.lit (.int .i64 0)],.lit (.int .i64 0),.lit (.int .i64 0),.lit (.int .i64 0),.lit (.bool false),.lit (.bool false)],.lit (.int .i64 0)],[],places):=
 ⟨[],by kernel_rfl⟩
theorem queryWithout_lifted(os:Os)(started:os.Started)(H:Type)(enc:TypeId×Value->H)(F:Stop.Interp) :
  ReturnsInHanded {} Tryz.checked os 4 .any ((Rows.OpenSpec.upto Rows.queryWithoutSpec).preRow enc Tryz.prog Tryz.f4 Rows.queryWithoutUptoRow.domain false Rows.queryWithoutUptoRow.laid) (((Rows.OpenSpec.upto Rows.queryWithoutSpec).at F).post enc Tryz.prog Tryz.f4 false true false false):=by
 obtain⟨places,hx⟩:=a4B os enc;refine returnsInHanded_of_row (C:=Tryz.checked) (s:=Rows.OpenSpec.upto Rows.queryWithoutSpec) d4a started (by kernel_rfl) Tryz.func4
  (witness_row_atRef (enc:=enc) (C:=Tryz.checked) false (b97 os) _ rfl (by kernel_rfl) (by kernel_rfl) (by kernel_rfl)
   (OpenSpec.preRow_of_cond 12 hx (by kernel_rfl) (fun k hk=>by cases hk;kernel_rfl) (by kernel_rfl) (b8a os _))) ?_
 intro W base args ds gs before hval0 hW _ hcond hwt hL ho _;have hval:∀(j:Nat) t v,Tryz.f4.params[j]?=some t->args[j]?=some v->Value.okWide Tryz.prog W .any base t v:=hval0;have hW':=hW;obtain⟨p,q,hA0,hV,rfl,_,_⟩:=hW;have hA:DataW.TrodAll enc Tryz.prog W 0 (fun _=>true) true Tryz.f4.params.toList args.toList ds p:=hA0;rw[Tryz.params4]at hA hval;obtain⟨v0,v1,v2,v3,d0,d1,d2,d3,p0,p1,p2,p3,rfl,rfl,rfl,h0,h1,h2,h3⟩:=trodAll_four hA;obtain⟨rfl,rfl⟩:=trodVars_none hV;have hb:Rows.uptoBulkAll ([d0,d1,d2,d3]++[])<=1048576:=d5Q (hcond _ rfl);simp only[d5C,Rows.uptoBulkAll]at hb;obtain⟨y0,k0,b0,l0⟩:=b4t c93 b7W (by decide) h0;obtain⟨y1,k1,b1,l1⟩:=b4t b0T c1y (by decide) h1;obtain⟨y2,k2,b2,l2⟩:=b4t b0T c1y (by decide) h2;have⟨y3,k3⟩:=b4a (w7 Tryz.underlying3) (c2p Tryz.underlying3 (hval 3 3 v3 rfl rfl)) h3;obtain⟨e3,b3⟩:=k3;obtain rfl:v3=.int .i64 y3:=by simpa using e3
 obtain⟨t1,t2,t3,t4⟩:=c7H y0 y2;have hc:=I1 (an:=c4T 4) Nl4v_ok (inlHN_ok Nl4v_ok H0_ok c4T 2) Tryz.func4 (k:=.bool) (x:=true) (ob:=[]) trivial (kc (d3H y0 y1 y2 y3 (by omega) (by omega) (by omega) (by omega)) (by kernel_rfl)) 0 (fun b=>b<W.heap.size) W [v0,v1,v2,.int .i64 y3] (fun _ h=>h) (b57 hL ho) (.I8 (cs:=[v1,v2,.int .i64 y3]) k0 (.I8 (cs:=[v2,.int .i64 y3]) k1 (.I8 (cs:=[.int .i64 y3]) k2 (.I8 (cs:=[]) (.int fun _=>b3) .M0))));exact b8j (tb:=4) d1g (c9F (by kernel_rfl)) rfl Tryz.underlying4 rfl rfl hW' (hc.mono fun v w' h=>⟨b7r h.2.1,h.1⟩)
theorem queryWithout_upto_holds:Rows.QueryWithoutUptoSaid:=
 OpenClaim.holds_of_cond 4 Tryz.f4 rfl rfl rfl rfl rfl rfl rfl ⟨rfl,rfl,rfl,rfl,rfl⟩ rfl rfl rfl rfl rfl (by kernel_rfl) Tryz.func4 lc5
  (d5Q (by kernel_rfl)) (by unfold Func.isWrapper;first|(rw[if_pos (by decide +kernel)];kernel_rfl)|(rw[if_neg (by decide +kernel)];exact⟨rfl,rfl⟩))
  (fun os started H enc _ F=>by rw[OpenClaim.pre_eq_preRow];exact queryWithout_lifted os started H enc F)
theorem queryWithout_upto_card_holds:Rows.QueryWithoutUptoCardSaid:=
 Claim7.holds_tied_plain_at .later [] [.data,.handle,.pinned] true (true, "31739205452a11ee944036a0d9ca1fd179c662e16ae3688d572143ba66e03006") true
  queryWithout_upto_holds (fun _ h=>by cases h) (by kernel_rfl) (fun _ h=>by cases h) queryWithoutUpto_row_tie rfl ⟨rfl,rfl⟩ (by kernel_rfl) rfl
  (fun f fn hf hfn=>by
   obtain rfl:f=4:=d6g ((show Tryz.prog.funcNamed "calends/calendslaw14.QueryWithout" = some 4 by kernel_rfl).symm.trans hf) |>.symm;obtain rfl:fn=Tryz.f4:=(d6g (Tryz.func4.symm.trans hfn)).symm;exact⟨by kernel_rfl,fun j t ht=>by
    rw[Tryz.params4]at ht;have hm:t∈[38,26,3]:=by simpa using Array.mem_of_getElem? ht
    have hall:([38,26,3].all fun u=>!Tryz.prog.wantsStandIn u)=true:=by kernel_rfl
    exact(show Tryz.prog.wantsStandIn t=false by simpa using d5D.1 hall t hm)⟩)
  (by kernel_rfl)
#print axioms queryWithout_upto_card_holds
end Go.Proofs.YtapnoejokajcoaaGreatDoor
