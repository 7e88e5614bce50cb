/- The statements' rows. -/
import Derived.Test.YtdgcgifigkfeaaaY0
import Derived.Test.YtdgcgifigkfeaaaL4
import Derived.Test.YtdgcgifigkfeaaaL5
import Derived.RowKit2
import Derived.Carry
import Derived.ProofKit
namespace Go.Proofs.Ytdgcgifigkfeaaa
open Go Go.Wk Go.Wl Go.ChangeShapes Go.WideShapes Go.RowKit
theorem plays_ok {w0 : World} {D : Nat → Prop} {A : Option Addr} {cap : Nat} {l : List Act} (h : (dSlice dAct).rd D w0 [.slice A l.length cap] l) {n : Int} : CallR Try.prog 3 [.int .i64 n, .slice A l.length cap] w0 (fun v w' => v = .bool true ∧ Ext [] w0 w') := by
  by_cases hn : n < 1 ∨ 8192 < n
  · exact plays_bad h hn
  · exact plays_good h (by omega) (by omega)
set_option maxRecDepth 100000 in
theorem diskPlays_lifted (os : Os) (started : os.Started) (H : Type) (enc : TypeId × Value → H) :
    ReturnsInHanded {} Try.checked os 3 .any (Rows.diskPlaysSpec.pre6 enc Try.prog Try.f3 Rows.diskPlaysRow.domain false) (Rows.diskPlaysSpec.post enc Try.prog Try.f3 Rows.diskPlaysRow.apart Rows.diskPlaysRow.fresh Rows.diskPlaysRow.handsOn Rows.diskPlaysRow.again) := by
  refine returnsInHanded_of_change (C := Try.checked) own0 started (by kernel_rfl) Try.func3
    (ChangeSpec.witness6 (enc := enc) (C := Try.checked) false ⟨#[], #[.int .i64 0, .slice none 0 0], []⟩ 8 (by kernel_rfl) (by kernel_rfl) (by kernel_rfl) (by kernel_rfl)) ?_
  intro W base args ds gs before hval0 hW _ _
  have hval : ∀ (j : Nat) t v, Try.f3.params[j]? = some t → args[j]? = some v → Value.okWide Try.prog W .any base t v := hval0
  have hW' := hW
  obtain ⟨p, q, hA0, hV, rfl, _, _⟩ := hW
  have hA : DataW.TrodAll enc Try.prog W 0 (fun _ => true) true Try.f3.params.toList args.toList ds p := hA0
  rw [Try.params3] at hA hval
  obtain ⟨v0, v1, d0, d1, p0, p1, rfl, rfl, rfl, h0, h1⟩ := trodAll_two hA
  obtain ⟨rfl, rfl⟩ := trodVars_none hV
  have ⟨y0, k0⟩ := opensD_arg (opensD_int Try.underlying3) (okc_int Try.underlying3 (hval 0 3 v0 rfl rfl)) h0
  obtain ⟨e0, b0⟩ := k0
  obtain rfl : v0 = .int .i64 y0 := by simpa using e0
  have ⟨y1, k1⟩ := opensD_arg (opensD_slice Try.underlying22 (by kernel_rfl) (by decide) opens_dAct) (okc_slice Try.underlying22 (hval 1 22 v1 rfl rfl)) h1
  obtain ⟨A1, c1, rfl⟩ := dSlice_val k1
  exact law_calls (tb := 4) laid0 (read0 (by kernel_rfl)) rfl Try.underlying4 rfl rfl hW' (plays_ok k1)
theorem diskPlays_holds : Rows.DiskPlaysSaid :=
  OpenClaim.holds_of_wide 3 Try.f3 rfl rfl rfl rfl rfl rfl rfl ⟨rfl, rfl, rfl, rfl, rfl⟩ rfl rfl rfl rfl rfl (by kernel_rfl) Try.func3 (by kernel_rfl)
    (of_decide_eq_true (by kernel_rfl)) (by unfold Func.isWrapper; first | (rw [if_pos (by decide +kernel)]; kernel_rfl) | (rw [if_neg (by decide +kernel)]; exact ⟨rfl, rfl⟩))
    (fun os started H enc _ => diskPlays_lifted os started H enc)
#print axioms diskPlays_holds
end Go.Proofs.Ytdgcgifigkfeaaa
