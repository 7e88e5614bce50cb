/- A statement and its own function. -/
import Derived.Test.YtckpdliipjekgaaQ9
set_option linter.unusedVariables false
set_option linter.unusedSimpArgs false
set_option maxRecDepth 100000
namespace Go.Proofs.Ytckpdliipjekgaa
open Go Go.Wk Go.Wl Go.Rx Go.ChangeShapes Go.WideShapes Go.RowKit Go.Wa
theorem walAgain_lifted (os : Os) (started : os.Started) (H : Type) (enc : TypeId × Value -> H) :
  ReturnsInHanded {} Try.checked os 6 .any (Rows.walAgainSpec.pre6 enc Try.prog Try.f6 Rows.walAgainRow.domain false) (Rows.walAgainSpec.post enc Try.prog Try.f6 Rows.walAgainRow.apart Rows.walAgainRow.fresh Rows.walAgainRow.handsOn Rows.walAgainRow.again):=by
 refine returnsInHanded_of_change (C:=Try.checked) own0 started (by kernel_rfl) Try.func6
  (ChangeSpec.witness6 (enc:=enc) (C:=Try.checked) false ⟨#[],#[.slice none 0 0,.int .i64 0,.int .i64 0,.slice none 0 0],[]⟩ 8 (by kernel_rfl) (by kernel_rfl) (by kernel_rfl) (by kernel_rfl)) ?_
 intro W base args ds gs before hval0 hW _ _
 have hval : ∀ (j : Nat) t v,Try.f6.params[j]? = some t -> args[j]? = some v -> Value.okWide Try.prog W .any base t v:=hval0
 have hW':=hW
 obtain ⟨p,q,hA0,hV,rfl,_,_⟩:=hW
 have hA : DataW.TrodAll enc Try.prog W 0 (fun _=>true) true Try.f6.params.toList args.toList ds p:=hA0
 rw [Try.params6] at hA hval
 obtain ⟨v0,v1,v2,v3,d0,d1,d2,d3,p0,p1,p2,p3,rfl,rfl,rfl,h0,h1,h2,h3⟩:=trodAll_four hA
 obtain ⟨rfl,rfl⟩:=trodVars_none hV
 have ⟨y0,k0⟩:=opensD_arg (opensD_slice Try.underlying43 (by kernel_rfl) (by decide) opens_dAct) (okc_slice Try.underlying43 (hval 0 43 v0 rfl rfl)) h0
 have ⟨y1,k1⟩:=opensD_arg (opensD_int Try.underlying3) (okc_int Try.underlying3 (hval 1 3 v1 rfl rfl)) h1
 obtain ⟨e1,b1⟩:=k1
 obtain rfl : v1 = .int .i64 y1:=by simpa using e1
 have ⟨y2,k2⟩:=opensD_arg (opensD_int Try.underlying3) (okc_int Try.underlying3 (hval 2 3 v2 rfl rfl)) h2
 obtain ⟨e2,b2⟩:=k2
 obtain rfl : v2 = .int .i64 y2:=by simpa using e2
 have ⟨y3,k3⟩:=opensD_arg (opensD_slice Try.underlying22 (by kernel_rfl) (by decide) (opensD_int Try.underlying3)) (okc_slice Try.underlying22 (hval 3 22 v3 rfl rfl)) h3
 have hc:=clA_ok [.sl (N:=U) 46 y0,.int .i64 y1,.int .i64 y2,.sl (N:=U) 3 y3] _ rfl trivial (fun b=>b < W.heap.size) W [v0,.int .i64 y1,.int .i64 y2,v3] (fun _ h=>h) trivial (.tup1 (cs:=[.int .i64 y1,.int .i64 y2,v3]) (rep_A k0) (.tup1 (cs:=[.int .i64 y2,v3]) (.int fun _=>b1) (.tup1 (cs:=[v3]) (.int fun _=>b2) (.tup1 (cs:=[]) (rep_I k3) .tup0))))
 exact law_calls (tb:=4) laid0 (read0 (by kernel_rfl)) rfl Try.underlying4 rfl rfl hW' (hc.mono fun v w' h=>⟨bool_true h.2.1,h.1⟩)
theorem walAgain_holds : Rows.WalAgainSaid :=
 OpenClaim.holds_of_wide 6 Try.f6 rfl rfl rfl rfl rfl rfl rfl ⟨rfl,rfl,rfl,rfl,rfl⟩ rfl rfl rfl rfl rfl (by kernel_rfl) Try.func6 (by kernel_rfl)
  (of_decide_eq_true (by kernel_rfl)) (by unfold Func.isWrapper; first | (rw [if_pos (by decide +kernel)]; kernel_rfl) | (rw [if_neg (by decide +kernel)]; exact ⟨rfl,rfl⟩))
  (fun os started H enc _=>walAgain_lifted os started H enc)
#print axioms walAgain_holds
end Go.Proofs.Ytckpdliipjekgaa
