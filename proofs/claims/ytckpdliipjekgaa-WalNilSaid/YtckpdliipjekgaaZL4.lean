/- A statement and its own function. -/
import Derived.Test.YtckpdliipjekgaaK8
set_option linter.unusedVariables false
set_option linter.unusedSimpArgs false
set_option maxRecDepth 100000
namespace Go.Proofs.Ytckpdliipjekgaa
open Go Go.Wk Go.Wl Go.Rx Go.ChangeShapes Go.WideShapes Go.RowKit Go.Wa
theorem walNil_lifted (os : Os) (started : os.Started) (H : Type) (enc : TypeId × Value -> H) :
  ReturnsInHanded {} Try.checked os 4 .any (Rows.walNilSpec.pre6 enc Try.prog Try.f4 Rows.walNilRow.domain false) (Rows.walNilSpec.post enc Try.prog Try.f4 Rows.walNilRow.apart Rows.walNilRow.fresh Rows.walNilRow.handsOn Rows.walNilRow.again):=by
 refine returnsInHanded_of_change (C:=Try.checked) own0 started (by kernel_rfl) Try.func4
  (ChangeSpec.witness6 (enc:=enc) (C:=Try.checked) false ⟨#[],#[.string ⟨#[]⟩],[]⟩ 8 (by kernel_rfl) (by kernel_rfl) (by kernel_rfl) (by kernel_rfl)) ?_
 intro W base args ds gs before hval0 hW _ _
 have hval : ∀ (j : Nat) t v,Try.f4.params[j]? = some t -> args[j]? = some v -> Value.okWide Try.prog W .any base t v:=hval0
 have hW':=hW
 obtain ⟨p,q,hA0,hV,rfl,_,_⟩:=hW
 have hA : DataW.TrodAll enc Try.prog W 0 (fun _=>true) true Try.f4.params.toList args.toList ds p:=hA0
 rw [Try.params4] at hA hval
 obtain ⟨v0,d0,rfl,rfl,h0⟩:=trodAll_one hA
 obtain ⟨rfl,rfl⟩:=trodVars_none hV
 have ⟨y0,k0⟩:=opensD_arg (opensD_str Try.underlying9) (okc_str Try.underlying9 (hval 0 9 v0 rfl rfl)) h0
 obtain ⟨e0,b0⟩:=k0
 obtain rfl : v0 = Wk.sv y0:=by simpa using e0
 have hc:=clN_ok [.str y0] _ rfl trivial (fun b=>b < W.heap.size) W [Wk.sv y0] (fun _ h=>h) trivial (.tup1 (cs:=[]) (.str b0) .tup0)
 exact law_calls (tb:=4) laid0 (read0 (by kernel_rfl)) rfl Try.underlying4 rfl rfl hW' (hc.mono fun v w' h=>⟨bool_true h.2.1,h.1⟩)
theorem walNil_holds : Rows.WalNilSaid :=
 OpenClaim.holds_of_wide 4 Try.f4 rfl rfl rfl rfl rfl rfl rfl ⟨rfl,rfl,rfl,rfl,rfl⟩ rfl rfl rfl rfl rfl (by kernel_rfl) Try.func4 (by kernel_rfl)
  (of_decide_eq_true (by kernel_rfl)) (by unfold Func.isWrapper; first | (rw [if_pos (by decide +kernel)]; kernel_rfl) | (rw [if_neg (by decide +kernel)]; exact ⟨rfl,rfl⟩))
  (fun os started H enc _=>walNil_lifted os started H enc)
#print axioms walNil_holds
end Go.Proofs.Ytckpdliipjekgaa
