/- For any two lists of numbers and any two numbers the law DagGrows answers true, and its arguments read as they did; no condition. -/
import Derived.Test.YtpgegnmaophapaaW18
namespace Go.Proofs.Ytpgegnmaophapaa
open Go Go.Wk Go.ChangeShapes Go.WideShapes Go.ChangeAt Go.RowKit
theorem laid0 : laidOutB Try.prog = true := by kernel_rfl
theorem own0 : ownKnob Try.prog.godebug = none := by kernel_rfl
theorem read0 {P : Program} {ts : List TypeId} (h : (ts.all fun t => P.readableRec t && decide (t < P.types.size)) = true) : ∀ t ∈ ts, P.readableRec t = true ∧ t < P.types.size := fun t ht => by
  have := List.all_eq_true.1 h t ht
  rw [Bool.and_eq_true, decide_eq_true_eq] at this
  exact this
set_option maxRecDepth 100000 in
theorem dagGrows_lifted (os : Os) (started : os.Started) (H : Type) (enc : TypeId × Value → H) :
    ReturnsInHanded {} Try.checked os 7 .any (Rows.dagGrowsSpec.pre6 enc Try.prog Try.f7 Rows.dagGrowsRow.domain false) (Rows.dagGrowsSpec.post enc Try.prog Try.f7 Rows.dagGrowsRow.apart Rows.dagGrowsRow.fresh Rows.dagGrowsRow.handsOn Rows.dagGrowsRow.again) := by
  refine returnsInHanded_of_change (C := Try.checked) own0 started (by kernel_rfl) Try.func7
    (ChangeSpec.witness6 (enc := enc) (C := Try.checked) false ⟨#[], #[.slice none 0 0, .slice none 0 0, .int .i64 0, .int .i64 0], []⟩ 8 (by kernel_rfl) (by kernel_rfl) (by kernel_rfl) (by kernel_rfl)) ?_
  intro W base args ds gs before hval0 hW _ _
  have hval : ∀ (j : Nat) t v, Try.f7.params[j]? = some t → args[j]? = some v → Value.okWide Try.prog W .any base t v := hval0
  have hW' := hW
  obtain ⟨p, q, hA0, hV, rfl, _, _⟩ := hW
  have hA : DataW.TrodAll enc Try.prog W 0 (fun _ => true) true Try.f7.params.toList args.toList ds p := hA0
  rw [Try.params7] at hA hval
  obtain ⟨v0, v1, v2, v3, d0, d1, d2, d3, p0, p1, p2, p3, rfl, rfl, rfl, h0, h1, h2, h3⟩ := trodAll_four hA
  obtain ⟨rfl, rfl⟩ := trodVars_none hV
  have ⟨y0, k0⟩ := opens_arg (opens_slice Try.underlying26 (by kernel_rfl) (by decide) (opens_int Try.underlying3)) (okc_slice Try.underlying26 (hval 0 26 v0 rfl rfl)) h0
  obtain ⟨A0, c0, rfl⟩ := rSlice_val k0
  have ⟨y1, k1⟩ := opens_arg (opens_slice Try.underlying26 (by kernel_rfl) (by decide) (opens_int Try.underlying3)) (okc_slice Try.underlying26 (hval 1 26 v1 rfl rfl)) h1
  obtain ⟨A1, c1, rfl⟩ := rSlice_val k1
  have ⟨y2, k2⟩ := opens_arg (opens_int Try.underlying3) (okc_int Try.underlying3 (hval 2 3 v2 rfl rfl)) h2
  obtain ⟨e2, b2⟩ := k2
  obtain rfl : v2 = .int .i64 y2 := by simpa using e2
  have ⟨y3, k3⟩ := opens_arg (opens_int Try.underlying3) (okc_int Try.underlying3 (hval 3 3 v3 rfl rfl)) h3
  obtain ⟨e3, b3⟩ := k3
  obtain rfl : v3 = .int .i64 y3 := by simpa using e3
  exact law_calls (tb := 4) laid0 (read0 (by kernel_rfl)) rfl Try.underlying4 rfl rfl hW' (grows_law_ok mem0 k0 k1 y2 y3 b2 b3)
theorem dagGrows_holds : Rows.DagGrowsSaid :=
  OpenClaim.holds_of_wide 7 Try.f7 rfl rfl rfl rfl rfl rfl rfl ⟨rfl, rfl, rfl, rfl, rfl⟩ rfl rfl rfl rfl rfl (by kernel_rfl) Try.func7 (by kernel_rfl)
    (of_decide_eq_true (by kernel_rfl)) (by unfold Func.isWrapper; first | (rw [if_pos (by decide +kernel)]; kernel_rfl) | (rw [if_neg (by decide +kernel)]; exact ⟨rfl, rfl⟩))
    (fun os started H enc _ => dagGrows_lifted os started H enc)
#print axioms dagGrows_holds
end Go.Proofs.Ytpgegnmaophapaa
