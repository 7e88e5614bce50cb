/- 1 texts, one behind the other. -/
import Derived.Test.YtadgfmmmdhlljaaDoorH3
import Derived.Test.YtadgfmmmdhlljaaDoorRows
import Derived.ChangeSame
import Derived.ChangeVars
import Derived.JoinedOf
import Derived.RowKit
import GoSem.PinnedTables
import Derived.Test.YtadgfmmmdhlljaaDoorShelf
import Derived.RowKitTokens
import Derived.LaidLaws
import Derived.LaidHandle
import Derived.Lay
import Derived.LaidMore
import Derived.Lib.LaidU8
import Derived.Stop.Joined
set_option linter.unusedVariables false
set_option linter.unusedSimpArgs false
section
namespace Go.Proofs.YtadgfmmmdhlljaaDoor
open Go Go.Wk Go.Wl Go.Rx Go.RowKit Go.Li
def laidP : List (String × DataW Unit) := [("unicode/utf8.acceptRanges", Rows.laid_unicode_utf8_acceptRanges), ("unicode/utf8.first", Rows.laid_unicode_utf8_first)]
/-- A world that meets the condition. -/
noncomputable def laidWP (os : Os) : World := World.laidAll Tryd.prog os laidP
theorem laidWP_met (os : Os) (args : Array Value) : laidMetH Tryd.prog laidP ((laidWP os).forCall (fun _ _ => 0) ⟨#[], args, []⟩).memory :=
  laidMetH_of_parts (laidMet_of_run' 8 (by kernel_rfl) (by kernel_rfl)) (by kernel_rfl)
theorem laidWP_shaped (os : Os) (args : Array Value) : ((laidWP os).forCall (fun _ _ => 0) ⟨#[], args, []⟩).Shaped Tryd.prog := World.shaped_of_ZipB (by kernel_rfl) (by kernel_rfl)
theorem laid0 : laidOutB Tryd.prog = true := by kernel_rfl
theorem own0 : ownKnob Tryd.prog.godebug = none := by kernel_rfl
theorem read0 {P : Program} {ts : List TypeId} (h : (ts.all fun t => P.readableRec t && decide (t < P.types.size)) = true) : ∀ t ∈ ts, P.readableRec t = true ∧ t < P.types.size := fun t ht => by
  have := List.all_eq_true.1 h t ht
  rw [Bool.and_eq_true, decide_eq_true_eq] at this
  exact this
theorem bool_true {Z : Nat → Prop} {W : World} {v : Value} (h : Rep U eT (fun _ => none) Z W v (blB true)) : v = .bool true := by
  cases h with | bl => rfl
end Go.Proofs.YtadgfmmmdhlljaaDoor
end
