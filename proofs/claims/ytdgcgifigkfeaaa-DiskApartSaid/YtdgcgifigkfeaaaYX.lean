/- The statements' rows. -/
import Derived.Test.YtdgcgifigkfeaaaY0
import Derived.Test.YtdgcgifigkfeaaaDP
import Derived.RowKit2
import Derived.Carry
import Derived.ProofKit
namespace Go.Proofs.Ytdgcgifigkfeaaa
open Go Go.Wk Go.Wl Go.ChangeShapes Go.WideShapes Go.RowKit
set_option maxRecDepth 100000 in
theorem diskApart_lifted (os : Os) (started : os.Started) (H : Type) (enc : TypeId × Value → H) :
    ReturnsInHanded {} Try.checked os 7 .any (Rows.diskApartSpec.pre6 enc Try.prog Try.f7 Rows.diskApartRow.domain false) (Rows.diskApartSpec.post enc Try.prog Try.f7 Rows.diskApartRow.apart Rows.diskApartRow.fresh Rows.diskApartRow.handsOn Rows.diskApartRow.again) := by
  refine returnsInHanded_of_change (C := Try.checked) own0 started (by kernel_rfl) Try.func7
    (ChangeSpec.witness6 (enc := enc) (C := Try.checked) false ⟨#[], #[.int .i64 0, .slice none 0 0, .int .u8 0, .int .u8 0], []⟩ 8 (by kernel_rfl) (by kernel_rfl) (by kernel_rfl) (by kernel_rfl)) ?_
  intro W base args ds gs before hval0 hW _ _
  have hval : ∀ (j : Nat) t v, Try.f7.params[j]? = some t → args[j]? = some v → Value.okWide Try.prog W .any base t v := hval0
  have hW' := hW
  obtain ⟨p, q, hA0, hV, rfl, _, _⟩ := hW
  have hA : DataW.TrodAll enc Try.prog W 0 (fun _ => true) true Try.f7.params.toList args.toList ds p := hA0
  rw [Try.params7] at hA hval
  obtain ⟨v0, v1, v2, v3, d0, d1, d2, d3, p0, p1, p2, p3, rfl, rfl, rfl, h0, h1, h2, h3⟩ := trodAll_four hA
  obtain ⟨rfl, rfl⟩ := trodVars_none hV
  have ⟨y0, k0⟩ := opensD_arg (opensD_int Try.underlying3) (okc_int Try.underlying3 (hval 0 3 v0 rfl rfl)) h0
  obtain ⟨e0, b0⟩ := k0
  obtain rfl : v0 = .int .i64 y0 := by simpa using e0
  have ⟨y1, k1⟩ := opensD_arg (opensD_slice Try.underlying22 (by kernel_rfl) (by decide) opens_dAct) (okc_slice Try.underlying22 (hval 1 22 v1 rfl rfl)) h1
  obtain ⟨A1, c1, rfl⟩ := dSlice_val k1
  have ⟨y2, k2⟩ := opensD_arg (opensD_byte Try.underlying5) (okc_int Try.underlying5 (hval 2 5 v2 rfl rfl)) h2
  obtain rfl : v2 = bv y2 := by simpa [dByte] using k2
  have ⟨y3, k3⟩ := opensD_arg (opensD_byte Try.underlying5) (okc_int Try.underlying5 (hval 3 5 v3 rfl rfl)) h3
  obtain rfl : v3 = bv y3 := by simpa [dByte] using k3
  exact law_calls (tb := 4) laid0 (read0 (by kernel_rfl)) rfl Try.underlying4 rfl rfl hW' (apart_ok k1 y2 y3)
theorem diskApart_holds : Rows.DiskApartSaid :=
  OpenClaim.holds_of_wide 7 Try.f7 rfl rfl rfl rfl rfl rfl rfl ⟨rfl, rfl, rfl, rfl, rfl⟩ rfl rfl rfl rfl rfl (by kernel_rfl) Try.func7 (by kernel_rfl)
    (of_decide_eq_true (by kernel_rfl)) (by unfold Func.isWrapper; first | (rw [if_pos (by decide +kernel)]; kernel_rfl) | (rw [if_neg (by decide +kernel)]; exact ⟨rfl, rfl⟩))
    (fun os started H enc _ => diskApart_lifted os started H enc)
#print axioms diskApart_holds
end Go.Proofs.Ytdgcgifigkfeaaa
