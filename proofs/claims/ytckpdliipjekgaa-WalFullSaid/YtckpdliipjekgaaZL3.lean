/- A statement and its own function. -/
import Derived.Test.YtckpdliipjekgaaH9
set_option linter.unusedVariables false
set_option linter.unusedSimpArgs false
set_option maxRecDepth 100000
namespace Go.Proofs.Ytckpdliipjekgaa
open Go Go.Wk Go.Wl Go.Rx Go.ChangeShapes Go.WideShapes Go.RowKit Go.Wa
theorem walFull_lifted (os : Os) (started : os.Started) (H : Type) (enc : TypeId × Value -> H) :
  ReturnsInHanded {} Try.checked os 3 .any (Rows.walFullSpec.pre6 enc Try.prog Try.f3 Rows.walFullRow.domain false) (Rows.walFullSpec.post enc Try.prog Try.f3 Rows.walFullRow.apart Rows.walFullRow.fresh Rows.walFullRow.handsOn Rows.walFullRow.again):=by
 refine returnsInHanded_of_change (C:=Try.checked) own0 started (by kernel_rfl) Try.func3
  (ChangeSpec.witness6 (enc:=enc) (C:=Try.checked) false ⟨#[],#[.int .i64 0,.slice none 0 0],[]⟩ 8 (by kernel_rfl) (by kernel_rfl) (by kernel_rfl) (by kernel_rfl)) ?_
 intro W base args ds gs before hval0 hW _ _
 have hval : ∀ (j : Nat) t v,Try.f3.params[j]? = some t -> args[j]? = some v -> Value.okWide Try.prog W .any base t v:=hval0
 have hW':=hW
 obtain ⟨p,q,hA0,hV,rfl,_,_⟩:=hW
 have hA : DataW.TrodAll enc Try.prog W 0 (fun _=>true) true Try.f3.params.toList args.toList ds p:=hA0
 rw [Try.params3] at hA hval
 obtain ⟨v0,v1,d0,d1,p0,p1,rfl,rfl,rfl,h0,h1⟩:=trodAll_two hA
 obtain ⟨rfl,rfl⟩:=trodVars_none hV
 have ⟨y0,k0⟩:=opensD_arg (opensD_int Try.underlying3) (okc_int Try.underlying3 (hval 0 3 v0 rfl rfl)) h0
 obtain ⟨e0,b0⟩:=k0
 obtain rfl : v0 = .int .i64 y0:=by simpa using e0
 have ⟨y1,k1⟩:=opensD_arg (opensD_slice Try.underlying22 (by kernel_rfl) (by decide) (opensD_int Try.underlying3)) (okc_slice Try.underlying22 (hval 1 22 v1 rfl rfl)) h1
 have hc:=clF_ok [.int .i64 y0,.sl (N:=U) 3 y1] _ rfl trivial (fun b=>b < W.heap.size) W [.int .i64 y0,v1] (fun _ h=>h) trivial (.tup1 (cs:=[v1]) (.int fun _=>b0) (.tup1 (cs:=[]) (rep_I k1) .tup0))
 exact law_calls (tb:=4) laid0 (read0 (by kernel_rfl)) rfl Try.underlying4 rfl rfl hW' (hc.mono fun v w' h=>⟨bool_true h.2.1,h.1⟩)
theorem walFull_holds : Rows.WalFullSaid :=
 OpenClaim.holds_of_wide 3 Try.f3 rfl rfl rfl rfl rfl rfl rfl ⟨rfl,rfl,rfl,rfl,rfl⟩ rfl rfl rfl rfl rfl (by kernel_rfl) Try.func3 (by kernel_rfl)
  (of_decide_eq_true (by kernel_rfl)) (by unfold Func.isWrapper; first | (rw [if_pos (by decide +kernel)]; kernel_rfl) | (rw [if_neg (by decide +kernel)]; exact ⟨rfl,rfl⟩))
  (fun os started H enc _=>walFull_lifted os started H enc)
#print axioms walFull_holds
end Go.Proofs.Ytckpdliipjekgaa
