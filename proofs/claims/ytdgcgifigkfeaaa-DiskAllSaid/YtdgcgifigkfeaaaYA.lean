/- The statements' rows. -/
import Derived.Test.YtdgcgifigkfeaaaY0
import Derived.Test.YtdgcgifigkfeaaaDA
import Derived.RowKit2
import Derived.Carry
import Derived.ProofKit
namespace Go.Proofs.Ytdgcgifigkfeaaa
open Go Go.Wk Go.Wl Go.ChangeShapes Go.WideShapes Go.RowKit
set_option maxRecDepth 100000 in
theorem diskAll_lifted (os : Os) (started : os.Started) (H : Type) (enc : TypeId × Value → H) :
    ReturnsInHanded {} Try.checked os 5 .any (Rows.diskAllSpec.pre6 enc Try.prog Try.f5 Rows.diskAllRow.domain false) (Rows.diskAllSpec.post enc Try.prog Try.f5 Rows.diskAllRow.apart Rows.diskAllRow.fresh Rows.diskAllRow.handsOn Rows.diskAllRow.again) := by
  refine returnsInHanded_of_change (C := Try.checked) own0 started (by kernel_rfl) Try.func5
    (ChangeSpec.witness6 (enc := enc) (C := Try.checked) false ⟨#[], #[.int .i64 0, .slice none 0 0], []⟩ 8 (by kernel_rfl) (by kernel_rfl) (by kernel_rfl) (by kernel_rfl)) ?_
  intro W base args ds gs before hval0 hW _ _
  have hval : ∀ (j : Nat) t v, Try.f5.params[j]? = some t → args[j]? = some v → Value.okWide Try.prog W .any base t v := hval0
  have hW' := hW
  obtain ⟨p, q, hA0, hV, rfl, _, _⟩ := hW
  have hA : DataW.TrodAll enc Try.prog W 0 (fun _ => true) true Try.f5.params.toList args.toList ds p := hA0
  rw [Try.params5] at hA hval
  obtain ⟨v0, v1, d0, d1, p0, p1, rfl, rfl, rfl, h0, h1⟩ := trodAll_two hA
  obtain ⟨rfl, rfl⟩ := trodVars_none hV
  have ⟨y0, k0⟩ := opensD_arg (opensD_int Try.underlying3) (okc_int Try.underlying3 (hval 0 3 v0 rfl rfl)) h0
  obtain ⟨e0, b0⟩ := k0
  obtain rfl : v0 = .int .i64 y0 := by simpa using e0
  have ⟨y1, k1⟩ := opensD_arg (opensD_slice Try.underlying22 (by kernel_rfl) (by decide) opens_dAct) (okc_slice Try.underlying22 (hval 1 22 v1 rfl rfl)) h1
  obtain ⟨A1, c1, rfl⟩ := dSlice_val k1
  exact law_calls (tb := 4) laid0 (read0 (by kernel_rfl)) rfl Try.underlying4 rfl rfl hW' (all_ok k1)
theorem diskAll_holds : Rows.DiskAllSaid :=
  OpenClaim.holds_of_wide 5 Try.f5 rfl rfl rfl rfl rfl rfl rfl ⟨rfl, rfl, rfl, rfl, rfl⟩ rfl rfl rfl rfl rfl (by kernel_rfl) Try.func5 (by kernel_rfl)
    (of_decide_eq_true (by kernel_rfl)) (by unfold Func.isWrapper; first | (rw [if_pos (by decide +kernel)]; kernel_rfl) | (rw [if_neg (by decide +kernel)]; exact ⟨rfl, rfl⟩))
    (fun os started H enc _ => diskAll_lifted os started H enc)
#print axioms diskAll_holds
end Go.Proofs.Ytdgcgifigkfeaaa
