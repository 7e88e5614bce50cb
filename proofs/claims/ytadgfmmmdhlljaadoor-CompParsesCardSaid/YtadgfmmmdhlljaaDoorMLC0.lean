/- 1 texts, one behind the other. -/
import Derived.Test.YtadgfmmmdhlljaaDoorM4
import Derived.Test.YtadgfmmmdhlljaaDoorRows
import Derived.ChangeSame
import Derived.Test.YtadgfmmmdhlljaaDoorM11
import Derived.ChangeVars
import Derived.JoinedOf
import Derived.RowKit
import GoSem.PinnedTables
import Derived.RowKitTokens
import Derived.LaidLaws
import Derived.LaidHandle
import Derived.Lay
import Derived.LaidMore
import Derived.Lib.LaidU8
import Derived.Stop.Joined
set_option linter.unusedVariables false
set_option linter.unusedSimpArgs false
section
namespace Go.Proofs.YtadgfmmmdhlljaaDoor
open Go Go.Wk Go.Wl Go.Rx Go.RowKit Go.Li Go.Co
def laidC : List (String × DataW Unit) := [("errors.errorType", Rows.laid_errors_errorType)]
theorem et0 : Tryd.prog.globalNamed "errors.errorType" = some 2 := by kernel_rfl
theorem rt0 : (Tryd.prog.cutTypes.find? (·.1 == "internal/reflectlite.rtype")).map (·.2) = some 161 := by kernel_rfl
theorem size0 : Tryd.prog.types.size = 218 := by kernel_rfl
theorem oneRow0 : ((List.range 218).filter fun t => Tryd.prog.rowNamed t [101, 114, 114, 111, 114]) = [26] := by kernel_rfl
theorem handle_of {W : World} (h : handlesMet Tryd.prog [("errors.errorType", Rows.laid_errors_errorType)] W) : W.cell? ⟨2, 0, none⟩ = some errTypeV := by
  obtain ⟨name, u, ty, e1, e2, e3, e4, e5⟩ := h _ (List.mem_singleton.2 rfl)
  have en : name = [101, 114, 114, 111, 114] := (Option.some.inj e1).symm
  subst en
  obtain rfl := Option.some.inj (rt0.symm.trans e2)
  have hm : ty ∈ (List.range 218).filter fun t => Tryd.prog.rowNamed t [101, 114, 114, 111, 114] := List.mem_filter.2 ⟨List.mem_range.2 (by rw [← size0]; exact e3), e4⟩
  rw [oneRow0] at hm
  obtain rfl := List.mem_singleton.1 hm
  have hh : typeHandle Tryd.prog 26 = .pointer (some ⟨4, 26, none⟩) := by kernel_rfl
  rw [hh] at e5
  simpa [errTypeV] using World.var?_cell et0 e5 0
theorem gl_of_laid {W : World} (h : laidMetH Tryd.prog laidC W) : Gl.is (fun b => b < W.heap.size) W := by
  have h' : laidMet Tryd.prog [] W ∧ handlesMet Tryd.prog [("errors.errorType", Rows.laid_errors_errorType)] W := h
  have hc := handle_of h'.2
  have hs : 2 < W.heap.size := by
    apply Classical.byContradiction
    intro hn
    unfold World.cell? at hc
    rw [Array.getElem?_eq_none (by show W.heap.size ≤ 2; omega)] at hc
    cases hc
  exact ⟨hs, hs, hc⟩
noncomputable def laidW (os : Os) : World :=
  let w0 := World.laidAll Tryd.prog os []
  { w0 with heap := w0.heap.modify 2 fun
      | .cells _ t frozen => .cells #[errTypeV] t frozen
      | o => o }
theorem laidW_met (os : Os) (args : Array Value) : laidMetH Tryd.prog laidC ((laidW os).forCall (fun _ _ => 0) ⟨#[], args, []⟩).memory :=
  laidMetH_of_parts (laidMet_of_run' 8 (by kernel_rfl) (by kernel_rfl)) (by kernel_rfl)
theorem laidW_shaped (os : Os) (args : Array Value) : ((laidW os).forCall (fun _ _ => 0) ⟨#[], args, []⟩).Shaped Tryd.prog := World.shaped_of_ZipB (by kernel_rfl) (by kernel_rfl)
theorem laid0 : laidOutB Tryd.prog = true := by kernel_rfl
theorem own0 : ownKnob Tryd.prog.godebug = none := by kernel_rfl
theorem read0 {P : Program} {ts : List TypeId} (h : (ts.all fun t => P.readableRec t && decide (t < P.types.size)) = true) : ∀ t ∈ ts, P.readableRec t = true ∧ t < P.types.size := fun t ht => by
  have := List.all_eq_true.1 h t ht
  rw [Bool.and_eq_true, decide_eq_true_eq] at this
  exact this
theorem bool_true {Z : Nat → Prop} {W : World} {v : Value} (h : Rep U eT (fun _ => none) Z W v (blB true)) : v = .bool true := by
  cases h with | bl => rfl
end Go.Proofs.YtadgfmmmdhlljaaDoor
end
