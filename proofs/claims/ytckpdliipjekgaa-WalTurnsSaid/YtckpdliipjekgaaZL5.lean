/- A statement and its own function. -/
import Derived.Test.YtckpdliipjekgaaJ9
set_option linter.unusedVariables false
set_option linter.unusedSimpArgs false
set_option maxRecDepth 100000
namespace Go.Proofs.Ytckpdliipjekgaa
open Go Go.Wk Go.Wl Go.Rx Go.ChangeShapes Go.WideShapes Go.RowKit Go.Wa
theorem walTurns_lifted (os : Os) (started : os.Started) (H : Type) (enc : TypeId × Value -> H) :
  ReturnsInHanded {} Try.checked os 5 .any (Rows.walTurnsSpec.pre6 enc Try.prog Try.f5 Rows.walTurnsRow.domain false) (Rows.walTurnsSpec.post enc Try.prog Try.f5 Rows.walTurnsRow.apart Rows.walTurnsRow.fresh Rows.walTurnsRow.handsOn Rows.walTurnsRow.again):=by
 refine returnsInHanded_of_change (C:=Try.checked) own0 started (by kernel_rfl) Try.func5
  (ChangeSpec.witness6 (enc:=enc) (C:=Try.checked) false ⟨#[],#[.slice none 0 0],[]⟩ 8 (by kernel_rfl) (by kernel_rfl) (by kernel_rfl) (by kernel_rfl)) ?_
 intro W base args ds gs before hval0 hW _ _
 have hval : ∀ (j : Nat) t v,Try.f5.params[j]? = some t -> args[j]? = some v -> Value.okWide Try.prog W .any base t v:=hval0
 have hW':=hW
 obtain ⟨p,q,hA0,hV,rfl,_,_⟩:=hW
 have hA : DataW.TrodAll enc Try.prog W 0 (fun _=>true) true Try.f5.params.toList args.toList ds p:=hA0
 rw [Try.params5] at hA hval
 obtain ⟨v0,d0,rfl,rfl,h0⟩:=trodAll_one hA
 obtain ⟨rfl,rfl⟩:=trodVars_none hV
 have ⟨y0,k0⟩:=opensD_arg (opensD_slice Try.underlying43 (by kernel_rfl) (by decide) opens_dAct) (okc_slice Try.underlying43 (hval 0 43 v0 rfl rfl)) h0
 have hc:=clT_ok [.sl (N:=U) 46 y0] _ rfl trivial (fun b=>b < W.heap.size) W [v0] (fun _ h=>h) trivial (.tup1 (cs:=[]) (rep_A k0) .tup0)
 exact law_calls (tb:=4) laid0 (read0 (by kernel_rfl)) rfl Try.underlying4 rfl rfl hW' (hc.mono fun v w' h=>⟨bool_true h.2.1,h.1⟩)
theorem walTurns_holds : Rows.WalTurnsSaid :=
 OpenClaim.holds_of_wide 5 Try.f5 rfl rfl rfl rfl rfl rfl rfl ⟨rfl,rfl,rfl,rfl,rfl⟩ rfl rfl rfl rfl rfl (by kernel_rfl) Try.func5 (by kernel_rfl)
  (of_decide_eq_true (by kernel_rfl)) (by unfold Func.isWrapper; first | (rw [if_pos (by decide +kernel)]; kernel_rfl) | (rw [if_neg (by decide +kernel)]; exact ⟨rfl,rfl⟩))
  (fun os started H enc _=>walTurns_lifted os started H enc)
#print axioms walTurns_holds
end Go.Proofs.Ytckpdliipjekgaa
