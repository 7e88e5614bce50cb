/- A statement and its own function. -/
import Derived.Test.YtapnoejokajcoaaGreatDoorU9
import Derived.Test.YtapnoejokajcoaaGreatDoorTie
import Derived.Test.YtapnoejokajcoaaGreatDoorCards
import Derived.SevenTiedAt
set_option linter.defProp false
set_option linter.unusedVariables false
set_option linter.unusedSimpArgs false
set_option maxRecDepth 100000
noncomputable section
namespace Go.Proofs.YtapnoejokajcoaaGreatDoor
open Go Go.Wk Go.Wl Go.Rx Go.ChangeShapes Go.WideShapes Go.RowKit Go.Qu Go.Re
theorem a6w(os:Os){H:Type}(enc:TypeId×Value->H):∃places,DataW.whole enc Tryz.prog ((b8C os).forCall (fun _ _=>0) ⟨#[],#[.agg #[.string ⟨#[]⟩,.string ⟨#[]⟩,.slice none 0 0,.int .i64 0,.int .i64 0,.int .i64 0,.int .i64 0,.int .i64 0,.int .i64 0,.bool false,.bool false,.string ⟨#[]⟩,.slice none 0 0,.slice none 0 0,.slice none 0 0,.slice none 0 0,.slice none 0 0,.slice none 0 0,.slice none 0 0,.slice none 0 0,.slice none 0 0,.slice none 0 0],.agg #[.int .i64 0,.int .i64 0,.int .i64 0,.int .i64 0,.int .i64 0,.int .i64 0,.bool false,.bool false],.agg #[.int .i64 0,.int .i64 0,.int .i64 0,.int .i64 0,.int .i64 0,.int .i64 0,.bool false,.bool false]],[]⟩).memory Tryz.f6.params.toList Rows.queryOnceSpec.vars false #[.agg #[.string ⟨#[]⟩,.string ⟨#[]⟩,.slice none 0 0,.int .i64 0,.int .i64 0,.int .i64 0,.int .i64 0,.int .i64 0,.int .i64 0,.bool false,.bool false,.string ⟨#[]⟩,.slice none 0 0,.slice none 0 0,.slice none 0 0,.slice none 0 0,.slice none 0 0,.slice none 0 0,.slice none 0 0,.slice none 0 0,.slice none 0 0,.slice none 0 0],.agg #[.int .i64 0,.int .i64 0,.int .i64 0,.int .i64 0,.int .i64 0,.int .i64 0,.bool false,.bool false],.agg #[.int .i64 0,.int .i64 0,.int .i64 0,.int .i64 0,.int .i64 0,.int .i64 0,.bool false,.bool false]].toList 12=some ([.agg [.lit (.string []),.lit (.string []),.nil,.agg [.agg [.agg [.agg [.lit (.int .i64 0),.lit (.int .i64 0),.lit (.int .i64 0)],.lit (.int .i64 0),.lit (.int .i64 0),.lit (.int .i64 0),.lit (.bool false),.lit (.bool false)],.lit (.string [])],.nil,.nil,.nil,.nil,.nil,.nil,.nil,.nil],.nil,.nil],.agg [.agg [.lit (.int .i64 0),.lit (.int .i64 0),.lit (.int .i64 0)],.lit (.int .i64 0),.lit (.int .i64 0),.lit (.int .i64 0),.lit (.bool false),.lit (.bool false)],.agg [.agg [.lit (.int .i64 0),.lit (.int .i64 0),.lit (.int .i64 0)],.lit (.int .i64 0),.lit (.int .i64 0),.lit (.int .i64 0),.lit (.bool false),.lit (.bool false)]],[],places):=
 ⟨[],by kernel_rfl⟩
theorem queryOnce_lifted(os:Os)(started:os.Started)(H:Type)(enc:TypeId×Value->H)(F:Stop.Interp) :
  ReturnsInHanded {} Tryz.checked os 6 .any ((OpenSpec.ofChange Rows.queryOnceSpec).preRow enc Tryz.prog Tryz.f6 Rows.queryOnceRow.domain false Rows.queryOnceRow.laid) (((OpenSpec.ofChange Rows.queryOnceSpec).at F).post enc Tryz.prog Tryz.f6 false true false false):=by
 obtain⟨places,hx⟩:=a6w os enc;refine returnsInHanded_of_row (C:=Tryz.checked) (s:=OpenSpec.ofChange Rows.queryOnceSpec) d3p started (by kernel_rfl) Tryz.func6
  (witness_row_atRef (enc:=enc) (C:=Tryz.checked) false (b8C os) _ rfl (by kernel_rfl) (by kernel_rfl) (by kernel_rfl)
   (OpenSpec.preRow_of_cond 12 hx (by kernel_rfl) (fun k hk=>by cases hk) (by kernel_rfl) (b7E os _))) ?_
 intro W base args ds gs before hval0 hW _ hcond hwt hL ho _;have hval:∀(j:Nat) t v,Tryz.f6.params[j]?=some t->args[j]?=some v->Value.okWide Tryz.prog W .any base t v:=hval0;have hW':=hW;obtain⟨p,q,hA0,hV,rfl,_,_⟩:=hW;have hA:DataW.TrodAll enc Tryz.prog W 0 (fun _=>true) true Tryz.f6.params.toList args.toList ds p:=hA0;rw[Tryz.params6]at hA hval;obtain⟨v0,v1,v2,d0,d1,d2,p0,p1,p2,rfl,rfl,rfl,h0,h1,h2⟩:=trodAll_three hA;obtain⟨rfl,rfl⟩:=trodVars_none hV;obtain⟨y0,k0,b0,l0⟩:=b44 c8x d3t (by decide) h0;obtain⟨y1,k1,b1,l1⟩:=b44 b0z c0U (by decide) h1;obtain⟨y2,k2,b2,l2⟩:=b44 b0z c0U (by decide) h2;obtain⟨t3,t4⟩:=c2m h0 l0 hwt;have hc:=H6 (an:=c4n 6) Nl4v_ok (inlHN_ok Nl4v_ok H0_ok c4n 2) Tryz.func6 (k:=.bool) (x:=true) (ob:=[]) trivial (kc (d3i y0 y1 y2 t3 t4) (by kernel_rfl)) 0 (fun b=>b<W.heap.size) W [v0,v1,v2] (fun _ h=>h) (b4H hL ho) (.I6 (cs:=[v1,v2]) k0 (.I6 (cs:=[v2]) k1 (.I6 (cs:=[]) k2 .L0)));exact b7O (tb:=4) d0z (c97 (by kernel_rfl)) rfl Tryz.underlying4 rfl rfl hW' (hc.mono fun v w' h=>⟨b6X h.2.1,h.1⟩)
theorem queryOnce_holds:Rows.QueryOnceSaid:=
 OpenClaim.holds_of_cond 6 Tryz.f6 rfl rfl rfl rfl rfl rfl rfl ⟨rfl,rfl,rfl,rfl,rfl⟩ rfl rfl rfl rfl rfl (by kernel_rfl) Tryz.func6 lc5
  (d5e (by kernel_rfl)) (by unfold Func.isWrapper;first|(rw[if_pos (by decide +kernel)];kernel_rfl)|(rw[if_neg (by decide +kernel)];exact⟨rfl,rfl⟩))
  (fun os started H enc _ F=>by rw[OpenClaim.pre_eq_preRow];exact queryOnce_lifted os started H enc F)
theorem queryOnce_card_holds:Rows.QueryOnceCardSaid:=
 Claim7.holds_tied_plain_at .later [] [.data,.handle,.pinned] true (true, "31739205452a11ee944036a0d9ca1fd179c662e16ae3688d572143ba66e03006") true
  queryOnce_holds (fun _ h=>by cases h) (by kernel_rfl) (fun _ h=>by cases h) queryOnce_row_tie rfl ⟨rfl,rfl⟩ (by kernel_rfl) rfl
  (fun f fn hf hfn=>by
   obtain rfl:f=6:=d5v ((show Tryz.prog.funcNamed "calends/calendslaw14.QueryOnce" = some 6 by kernel_rfl).symm.trans hf) |>.symm;obtain rfl:fn=Tryz.f6:=(d5v (Tryz.func6.symm.trans hfn)).symm;exact⟨by kernel_rfl,fun j t ht=>by
    rw[Tryz.params6]at ht;have hm:t∈[38,26]:=by simpa using Array.mem_of_getElem? ht
    have hall:([38,26].all fun u=>!Tryz.prog.wantsStandIn u)=true:=by kernel_rfl
    exact(show Tryz.prog.wantsStandIn t=false by simpa using d4N.1 hall t hm)⟩)
  (by kernel_rfl)
#print axioms queryOnce_card_holds
end Go.Proofs.YtapnoejokajcoaaGreatDoor
