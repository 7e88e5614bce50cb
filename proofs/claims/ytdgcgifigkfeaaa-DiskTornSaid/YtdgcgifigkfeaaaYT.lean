/- The statements' rows. -/
import Derived.Test.YtdgcgifigkfeaaaY0
import Derived.Test.YtdgcgifigkfeaaaT
import Derived.RowKit2
import Derived.Carry
import Derived.ProofKit
namespace Go.Proofs.Ytdgcgifigkfeaaa
open Go Go.Wk Go.Wl Go.ChangeShapes Go.WideShapes Go.RowKit
set_option maxRecDepth 100000 in
theorem diskTorn_lifted (os : Os) (started : os.Started) (H : Type) (enc : TypeId × Value → H) :
    ReturnsInHanded {} Try.checked os 6 .any (Rows.diskTornSpec.pre6 enc Try.prog Try.f6 Rows.diskTornRow.domain false) (Rows.diskTornSpec.post enc Try.prog Try.f6 Rows.diskTornRow.apart Rows.diskTornRow.fresh Rows.diskTornRow.handsOn Rows.diskTornRow.again) := by
  refine returnsInHanded_of_change (C := Try.checked) own0 started (by kernel_rfl) Try.func6
    (ChangeSpec.witness6 (enc := enc) (C := Try.checked) false ⟨#[], #[.int .u8 0, .int .u8 0, .int .i64 0], []⟩ 8 (by kernel_rfl) (by kernel_rfl) (by kernel_rfl) (by kernel_rfl)) ?_
  intro W base args ds gs before hval0 hW _ _
  have hval : ∀ (j : Nat) t v, Try.f6.params[j]? = some t → args[j]? = some v → Value.okWide Try.prog W .any base t v := hval0
  have hW' := hW
  obtain ⟨p, q, hA0, hV, rfl, _, _⟩ := hW
  have hA : DataW.TrodAll enc Try.prog W 0 (fun _ => true) true Try.f6.params.toList args.toList ds p := hA0
  rw [Try.params6] at hA hval
  obtain ⟨v0, v1, v2, d0, d1, d2, p0, p1, p2, rfl, rfl, rfl, h0, h1, h2⟩ := trodAll_three hA
  obtain ⟨rfl, rfl⟩ := trodVars_none hV
  have ⟨y0, k0⟩ := opensD_arg (opensD_byte Try.underlying5) (okc_int Try.underlying5 (hval 0 5 v0 rfl rfl)) h0
  obtain rfl : v0 = bv y0 := by simpa [dByte] using k0
  have ⟨y1, k1⟩ := opensD_arg (opensD_byte Try.underlying5) (okc_int Try.underlying5 (hval 1 5 v1 rfl rfl)) h1
  obtain rfl : v1 = bv y1 := by simpa [dByte] using k1
  have ⟨y2, k2⟩ := opensD_arg (opensD_int Try.underlying3) (okc_int Try.underlying3 (hval 2 3 v2 rfl rfl)) h2
  obtain ⟨e2, b2⟩ := k2
  obtain rfl : v2 = .int .i64 y2 := by simpa using e2
  exact law_calls (tb := 4) laid0 (read0 (by kernel_rfl)) rfl Try.underlying4 rfl rfl hW' (torn_ok y0 y1 y2)
theorem diskTorn_holds : Rows.DiskTornSaid :=
  OpenClaim.holds_of_wide 6 Try.f6 rfl rfl rfl rfl rfl rfl rfl ⟨rfl, rfl, rfl, rfl, rfl⟩ rfl rfl rfl rfl rfl (by kernel_rfl) Try.func6 (by kernel_rfl)
    (of_decide_eq_true (by kernel_rfl)) (by unfold Func.isWrapper; first | (rw [if_pos (by decide +kernel)]; kernel_rfl) | (rw [if_neg (by decide +kernel)]; exact ⟨rfl, rfl⟩))
    (fun os started H enc _ => diskTorn_lifted os started H enc)
#print axioms diskTorn_holds
end Go.Proofs.Ytdgcgifigkfeaaa
