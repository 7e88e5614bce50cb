/- A statement and its own function. -/
import Derived.Test.YtckpdliipjekgaaB8
set_option linter.unusedVariables false
set_option linter.unusedSimpArgs false
set_option maxRecDepth 100000
namespace Go.Proofs.Ytckpdliipjekgaa
open Go Go.Wk Go.Wl Go.Rx Go.ChangeShapes Go.WideShapes Go.RowKit Go.Wa
theorem bool_rep {W:World} (y:Bool):Rep U eT (fun _=>none) (fun b=>b<W.heap.size) W (.bool y) (blB y):=by
 have h:Rep U eT (fun _=>none) (fun b=>b<W.heap.size) W (.bool (decide (y=true))) (blB y):=.bl
 rwa [Bool.decide_eq_true] at h
theorem walWhole_lifted (os:Os) (started:os.Started) (H:Type) (enc:TypeId×Value->H) :
  ReturnsInHanded {} Try.checked os 7 .any (Rows.walWholeSpec.pre6 enc Try.prog Try.f7 Rows.walWholeRow.domain false) (Rows.walWholeSpec.post enc Try.prog Try.f7 Rows.walWholeRow.apart Rows.walWholeRow.fresh Rows.walWholeRow.handsOn Rows.walWholeRow.again):=by
 refine returnsInHanded_of_change (C:=Try.checked) own0 started (by kernel_rfl) Try.func7
  (ChangeSpec.witness6 (enc:=enc) (C:=Try.checked) false ⟨#[],#[.slice none 0 0,.slice none 0 0,.bool false,.int .i64 0,.int .i64 0,.int .i64 0,.slice none 0 0],[]⟩ 8 (by kernel_rfl) (by kernel_rfl) (by kernel_rfl) (by kernel_rfl)) ?_
 intro W base args ds gs before hval0 hW _ _
 have hval:∀ (j:Nat) t v,Try.f7.params[j]?=some t->args[j]?=some v->Value.okWide Try.prog W .any base t v:=hval0
 have hW':=hW
 obtain ⟨p,q,hA0,hV,rfl,_,_⟩:=hW
 have hA:DataW.TrodAll enc Try.prog W 0 (fun _=>true) true Try.f7.params.toList args.toList ds p:=hA0
 rw [Try.params7] at hA hval
 obtain ⟨v0,v1,v2,v3,v4,v5,v6,d0,d1,d2,d3,d4,d5,d6,p0,p1,p2,p3,p4,p5,p6,rfl,rfl,rfl,h0,h1,h2,h3,h4,h5,h6⟩:=trodAll_7 hA
 obtain ⟨rfl,rfl⟩:=trodVars_none hV
 have ⟨y0,k0⟩:=opensD_arg (opensD_slice Try.underlying43 (by kernel_rfl) (by decide) opens_dAct) (okc_slice Try.underlying43 (hval 0 43 v0 rfl rfl)) h0
 have ⟨y1,k1⟩:=opensD_arg (opensD_slice Try.underlying29 (by kernel_rfl) (by decide) (opensD_str Try.underlying9)) (okc_slice Try.underlying29 (hval 1 29 v1 rfl rfl)) h1
 have ⟨y2,k2⟩:=opensD_arg (opensD_bool Try.underlying4) (okc_bool Try.underlying4 (hval 2 4 v2 rfl rfl)) h2
 obtain rfl:v2=.bool y2:=by simpa [dBool] using k2
 have ⟨y3,k3⟩:=opensD_arg (opensD_int Try.underlying3) (okc_int Try.underlying3 (hval 3 3 v3 rfl rfl)) h3
 obtain ⟨e3,b3⟩:=k3
 obtain rfl:v3=.int .i64 y3:=by simpa using e3
 have ⟨y4,k4⟩:=opensD_arg (opensD_int Try.underlying3) (okc_int Try.underlying3 (hval 4 3 v4 rfl rfl)) h4
 obtain ⟨e4,b4⟩:=k4
 obtain rfl:v4=.int .i64 y4:=by simpa using e4
 have ⟨y5,k5⟩:=opensD_arg (opensD_int Try.underlying3) (okc_int Try.underlying3 (hval 5 3 v5 rfl rfl)) h5
 obtain ⟨e5,b5⟩:=k5
 obtain rfl:v5=.int .i64 y5:=by simpa using e5
 have ⟨y6,k6⟩:=opensD_arg (opensD_slice Try.underlying22 (by kernel_rfl) (by decide) (opensD_int Try.underlying3)) (okc_slice Try.underlying22 (hval 6 22 v6 rfl rfl)) h6
 have hc:=clW_ok [.sl (N:=U) 46 y0,.sl (N:=U) 9 y1,blB y2,.int .i64 y3,.int .i64 y4,.int .i64 y5,.sl (N:=U) 3 y6] _ rfl trivial (fun b=>b<W.heap.size) W [v0,v1,.bool y2,.int .i64 y3,.int .i64 y4,.int .i64 y5,v6] (fun _ h=>h) trivial (.tup1 (cs:=[v1,.bool y2,.int .i64 y3,.int .i64 y4,.int .i64 y5,v6]) (rep_A k0) (.tup1 (cs:=[.bool y2,.int .i64 y3,.int .i64 y4,.int .i64 y5,v6]) (rep_S k1) (.tup1 (cs:=[.int .i64 y3,.int .i64 y4,.int .i64 y5,v6]) (bool_rep y2) (.tup1 (cs:=[.int .i64 y4,.int .i64 y5,v6]) (.int fun _=>b3) (.tup1 (cs:=[.int .i64 y5,v6]) (.int fun _=>b4) (.tup1 (cs:=[v6]) (.int fun _=>b5) (.tup1 (cs:=[]) (rep_I k6) .tup0)))))))
 exact law_calls (tb:=4) laid0 (read0 (by kernel_rfl)) rfl Try.underlying4 rfl rfl hW' (hc.mono fun v w' h=>⟨bool_true h.2.1,h.1⟩)
theorem walWhole_holds:Rows.WalWholeSaid :=
 OpenClaim.holds_of_wide 7 Try.f7 rfl rfl rfl rfl rfl rfl rfl ⟨rfl,rfl,rfl,rfl,rfl⟩ rfl rfl rfl rfl rfl (by kernel_rfl) Try.func7 (by kernel_rfl)
  (of_decide_eq_true (by kernel_rfl)) (by unfold Func.isWrapper; first | (rw [if_pos (by decide +kernel)]; kernel_rfl) | (rw [if_neg (by decide +kernel)]; exact ⟨rfl,rfl⟩))
  (fun os started H enc _=>walWhole_lifted os started H enc)
#print axioms walWhole_holds
end Go.Proofs.Ytckpdliipjekgaa
