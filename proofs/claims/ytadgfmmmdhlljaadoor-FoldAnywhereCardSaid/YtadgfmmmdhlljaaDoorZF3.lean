/- A statement and its own function. -/
import Derived.Test.YtadgfmmmdhlljaaDoorK9
set_option linter.unusedVariables false
set_option linter.unusedSimpArgs false
namespace Go.Proofs.YtadgfmmmdhlljaaDoor
open Go Go.Wk Go.Wl Go.Rx Go.Fo Go.Li 
def an3 : Nat → Ann := fun | 3 => ⟨41, fun _ => none, fun  | _ => none⟩ | _ => ⟨0, fun _ => none, fun _ => none⟩
def V3 (l : List Str) (Q : Bool → Prop) : Prop :=
l.length ≤ (9223372036854775807 : Nat) ∧
  (¬fewS l = true → Q (decide (true = true))) ∧
    (¬¬fewS l = true →
      l.length ≤ (100000 : Nat) ∧
        l.length ≤ (100000 : Nat) ∧
          Q (decide ((((foldS dec l).fst = (foldS dec l).fst ∧ (foldE (foldS dec l)).nr = (foldS dec l).snd.fst) ∧ (foldE (foldS dec l)).at_ = (foldS dec l).snd.snd) ∧ true = true)))
set_option maxRecDepth 100000 in
theorem V3_ok {l : List Str} {Q : Bool → Prop} (h : V3 l Q) : vcFun (E := N17) (inlN an3 2) (an3 3) Tryd.f3 [.sl (N := U) 9 l] [] [] 0 (resP N17 [.bool] Q) := Eq.mp (show V3 l Q = vcFun (E := N17) (inlN an3 2) (an3 3) Tryd.f3 [.sl (N := U) 9 l] [] [] 0 (resP N17 [.bool] Q) by kernel_rfl) h
theorem foldS_num (l : List Str) : ((foldS dec l).2.1 = 0 ∧ (foldS dec l).2.2 = 0) ∨ (foldS dec l).2.1 = 4 ∨ (foldS dec l).2.1 = 11 := by
  unfold foldS
  by_cases h : ∀ r ∈ l, rMay r = 0
  · rw [foldG_ok dec h]; exact .inl ⟨rfl, rfl⟩
  · obtain ⟨e, a, h1, h2, _⟩ := foldG_bad dec (b := []) (i := 0) h
    rw [h1]; exact .inr h2
theorem foldE_nr (l : List Str) : (foldE (foldS dec l)).nr = (foldS dec l).2.1 ∧ (foldE (foldS dec l)).at_ = (foldS dec l).2.2 := by
  have h := foldS_num l
  generalize foldS dec l = R at h
  obtain ⟨s, e, a⟩ := R
  rcases h with ⟨h1, h2⟩ | h | h
  · simp only at h1 h2; subst h1 h2; exact ⟨rfl, rfl⟩
  · simp only at h; subst h; exact ⟨rfl, rfl⟩
  · simp only at h; subst h; exact ⟨rfl, rfl⟩
theorem p3 (l : List Str) (hs : l.length ≤ 9223372036854775807) : V3 l (fun y0 => y0 = true) := by
  unfold V3
  refine ⟨hs, fun _ => rfl, fun h => ?_⟩
  have hf := (few_of (Classical.not_not.1 h)).1
  obtain ⟨h1, h2⟩ := foldE_nr l
  exact ⟨by omega, by omega, decide_eq_true ⟨⟨⟨rfl, h1⟩, h2⟩, rfl⟩⟩
def c3 (a : List (SV U)) : Option (Q1 U) := match a with | [.sl 9 l] => some ⟨[List.length (α := Str) l ≤ 9223372036854775807], [], blB true⟩ | _ => none
set_option maxRecDepth 100000 in
theorem c3_ok (args : List (SV U)) (q : Q1 U) (h : c3 args = some q) (ho : allP q.ob) : LendOK N17 3 args ⟨q.ob, q.hy, q.v, []⟩ := by
  unfold c3 at h
  split at h
  · rename_i l
    cases h
    exact lend1 N17_ok Tryd.func3 (k := .bool) (x := true) trivial (V3_ok (p3 l ho.1)) 0
  · cases h
noncomputable def N3 : Env := N17.addL 3 c3
theorem N3_ok : EnvOK N3 := N17_ok.addL Tryd.call3 c3_ok
end Go.Proofs.YtadgfmmmdhlljaaDoor
