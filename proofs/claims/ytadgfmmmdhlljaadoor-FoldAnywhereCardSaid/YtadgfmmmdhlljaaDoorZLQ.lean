/- A statement and its own function. -/
import Derived.Test.YtadgfmmmdhlljaaDoorZF3
import Derived.Test.YtadgfmmmdhlljaaDoorZF4
set_option linter.unusedVariables false
set_option linter.unusedSimpArgs false
namespace Go.Proofs.YtadgfmmmdhlljaaDoor
open Go Go.Wk Go.Wl Go.Rx Go.Fo Go.Li 
theorem foldS_ok {l : List Str} (h : ∀ r ∈ l, rMay r = 0) : foldS dec l = (l.flatMap (rowGo dec 75), 0, 0) := by
  unfold foldS; rw [foldG_ok dec h]; rfl
theorem foldS_cases (l : List Str) : ((∀ r ∈ l, rMay r = 0) ∧ foldS dec l = (l.flatMap (rowGo dec 75), 0, 0)) ∨ (¬ (∀ r ∈ l, rMay r = 0) ∧ ∃ e a : Int, foldS dec l = ([], e, a) ∧ (e = 4 ∨ e = 11) ∧ 1 ≤ a ∧ a ≤ l.length) := by
  by_cases h : ∀ r ∈ l, rMay r = 0
  · exact .inl ⟨h, foldS_ok h⟩
  · obtain ⟨e, a, h1, h2, h3, h4⟩ := foldG_bad dec (b := []) (i := 0) h
    exact .inr ⟨h, e, a, h1, h2, by omega, by omega⟩
theorem flat_len : ∀ {l : List Str}, (∀ s ∈ l, s.length ≤ 12000) → ((l.flatMap (rowGo dec 75)).length : Int) ≤ 4 * fsum l + 2 * l.length
  | [], _ => by simp [fsum]
  | s :: r, h => by
    have h1 := rowGo_len dec s.length 75 s (Nat.le_refl _)
    have h2 := flat_len (l := r) fun x hx => h x (by simp [hx])
    have h3 := h s (by simp)
    simp only [List.flatMap_cons, List.length_append, List.length_cons, fsum]
    omega
theorem fold_len {l : List Str} (h : fewS l = true) : (foldS dec l).1.length ≤ 50000 := by
  obtain ⟨h1, h2⟩ := few_of h
  have h3 := (of_decide_eq_true h).2
  have h4 := flat_len h2
  rcases foldS_cases l with ⟨_, e⟩ | ⟨_, n, a, e, _⟩
  · rw [e]; show (l.flatMap (rowGo dec 75)).length ≤ _; omega
  · rw [e]; simp
theorem ix_map {out : List Row} {l : List Str} (h : out.map Row.Text = l) {x : Int} (h0 : 0 ≤ x) (h1 : x < out.length) : (ix out x).Text = ix l x := by
  subst h
  rw [ix_get (by omega), ix_get (by rw [List.length_map]; omega), List.getElem_map]
theorem map_len {out : List Row} {l : List Str} (h : out.map Row.Text = l) : out.length = l.length := by subst h; simp
theorem rise_at {out : List Row} (h : out.Pairwise fun x y => x.At < y.At) {x : Int} (h0 : 0 < x) (h1 : x < out.length) : (ix out (x - 1)).At < (ix out x).At := by
  rw [ix_get (by omega), ix_get (by omega)]
  exact List.pairwise_iff_getElem.1 h _ _ _ _ (by omega)
end Go.Proofs.YtadgfmmmdhlljaaDoor
