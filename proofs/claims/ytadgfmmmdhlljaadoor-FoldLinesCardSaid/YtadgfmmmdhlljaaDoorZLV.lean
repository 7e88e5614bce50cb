/- A statement and its own function. -/
import Derived.Test.YtadgfmmmdhlljaaDoorZLQ
import Derived.Test.YtadgfmmmdhlljaaDoorShelfB
set_option linter.unusedVariables false
set_option linter.unusedSimpArgs false
namespace Go.Proofs.YtadgfmmmdhlljaaDoor
open Go Go.Wk Go.Wl Go.Rx Go.Fo Go.Li 
/-- utf8.ValidString. -/
def cVal (a : List (SV U)) : Option (Q1 U) := match a with | [.str s] => some ⟨[], [], blB (Lib.validD s)⟩ | _ => none
theorem cVal_ok (args : List (SV U)) (q : Q1 U) (h : cVal args = some q) (ho : allP q.ob) : LendOK E0 26 args ⟨q.ob, q.hy, q.v, []⟩ := by
  unfold cVal at h
  split at h
  · rename_i s
    cases h
    intro D w vs _ hg ha
    obtain ⟨v1, r1, rfl, h1, ha⟩ := Rep.tup_cons ha
    obtain rfl := tup0_inv ha
    cases h1 with | str hl =>
    intro w1 hs
    have hT : Lib.Utf8Tabs 0 1 w1 := by obtain ⟨k, rfl⟩ := hs; exact hg.2.2.1
    refine Calls.mono (Tryd.utf8_ValidString ⟨s.toArray⟩ w1 hl hT) fun e w2 ⟨h1, h2⟩ => ?_
    refine ⟨_, w2, h1, Sim.refl _, below_ext hs h2, ?_, trivial⟩
    show Rep U eT (fun _ => none) (fun _ => False) w2 (.bool (Lib.validD s)) (blB (Lib.validD s))
    generalize Lib.validD s = x
    have e : x = decide (x = true) := by cases x <;> rfl
    have r : Rep U eT (fun _ => none) (fun _ => False) w2 (.bool (decide (x = true))) (blB x) := .bl
    rwa [← e] at r
  · cases h
noncomputable def NV : Env := N17.addL 26 cVal
theorem NV_ok : EnvOK NV := N17_ok.addL Tryd.call26 cVal_ok
end Go.Proofs.YtadgfmmmdhlljaaDoor
