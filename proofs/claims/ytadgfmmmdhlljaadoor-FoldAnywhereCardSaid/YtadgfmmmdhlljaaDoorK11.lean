/- 1 texts, one behind the other. -/
import Derived.Test.YtadgfmmmdhlljaaDoorK4
import Derived.Test.YtadgfmmmdhlljaaDoorK9
set_option linter.unusedVariables false
set_option linter.unusedSimpArgs false
section
namespace Go.Fo
open Go Go.Wk Go.Wl
def pcsF (n : Nat) : Nat → Str → List Str
  | 0, _ => []
  | k + 1, s => if s = [] then [] else s.take n :: pcsF n k (s.drop n)
def pcs (n : Nat) (s : Str) : List Str := pcsF n s.length s
theorem pcsF_eq {n : Nat} (hn : 0 < n) : ∀ (k j : Nat) (s : Str), s.length ≤ k → s.length ≤ j → pcsF n k s = pcsF n j s
  | 0, j, s, h, _ => by
    obtain rfl := List.eq_nil_of_length_eq_zero (Nat.le_zero.1 h)
    cases j <;> simp [pcsF]
  | k + 1, 0, s, _, h => by
    obtain rfl := List.eq_nil_of_length_eq_zero (Nat.le_zero.1 h)
    simp [pcsF]
  | k + 1, j + 1, s, h1, h2 => by
    unfold pcsF
    split
    · rfl
    · rename_i hs
      have : 0 < s.length := List.length_pos_iff.2 hs
      rw [pcsF_eq hn k j (s.drop n) (by rw [List.length_drop]; omega) (by rw [List.length_drop]; omega)]
theorem pcs_nil {n : Nat} : pcs n [] = [] := rfl
theorem pcs_cons {n : Nat} (hn : 0 < n) {s : Str} (h : s ≠ []) : pcs n s = s.take n :: pcs n (s.drop n) := by
  have hp : 0 < s.length := List.length_pos_iff.2 h
  obtain ⟨k, hk⟩ : ∃ k, s.length = k + 1 := ⟨s.length - 1, by omega⟩
  unfold pcs
  rw [hk]
  conv => lhs; unfold pcsF
  rw [if_neg h, pcsF_eq hn k (s.drop n).length (s.drop n) (by rw [List.length_drop]; omega) (Nat.le_refl _)]
theorem pcs_flat {n : Nat} (hn : 0 < n) : ∀ (k : Nat) (s : Str), s.length ≤ k → (pcs n s).flatten = s
  | 0, s, h => by
    obtain rfl := List.eq_nil_of_length_eq_zero (Nat.le_zero.1 h); rfl
  | k + 1, s, h => by
    by_cases hs : s = []
    · subst hs; rfl
    · have : 0 < s.length := List.length_pos_iff.2 hs
      rw [pcs_cons hn hs, List.flatten_cons, pcs_flat hn k (s.drop n) (by rw [List.length_drop]; omega), List.take_append_drop]
theorem pcs_num {n : Nat} (hn : 0 < n) : ∀ (k : Nat) (s : Str), s.length ≤ k → (pcs n s).length ≤ s.length
  | 0, s, h => by
    obtain rfl := List.eq_nil_of_length_eq_zero (Nat.le_zero.1 h); exact Nat.le_refl _
  | k + 1, s, h => by
    by_cases hs : s = []
    · subst hs; exact Nat.le_refl _
    · have : 0 < s.length := List.length_pos_iff.2 hs
      have ih := pcs_num hn k (s.drop n) (by rw [List.length_drop]; omega)
      rw [List.length_drop] at ih
      rw [pcs_cons hn hs, List.length_cons]; omega
/-- What is still to lay of a row, at byte j. -/
def restP (e : Str) (c : UInt8) (n : Nat) (r : Str) (j : Nat) : Str := if j = 0 then lay e c (pcs n r) else e ++ (pcs n (r.drop j)).flatMap (fun q => c :: q ++ e)
theorem rest_zero {e : Str} {c : UInt8} {n : Nat} (hn : 0 < n) {r : Str} (h : r ≠ []) : restP e c n r 0 = r.take n ++ restP e c n r n := by
  unfold restP
  rw [if_pos rfl, if_neg (by omega), pcs_cons hn h, lay, List.append_assoc]
theorem rest_step {e : Str} {c : UInt8} {n j : Nat} (hn : 0 < n) {r : Str} (h0 : 0 < j) (h1 : j < r.length) : restP e c n r j = e ++ [c] ++ (r.drop j).take n ++ restP e c n r (j + n) := by
  unfold restP
  have hd : r.drop j ≠ [] := fun e => by
    have := congrArg List.length e
    rw [List.length_drop] at this
    simp at this; omega
  rw [if_neg (by omega), if_neg (by omega), pcs_cons hn hd, List.flatMap_cons, List.drop_drop]
  simp
theorem rest_end {e : Str} {c : UInt8} {n j : Nat} {r : Str} (h0 : 0 < j) (h1 : r.length ≤ j) : restP e c n r j = e := by
  unfold restP
  rw [if_neg (by omega), List.drop_eq_nil_of_le h1, pcs_nil]; simp
theorem lay_len (e : Str) (c : UInt8) : ∀ ps : List Str, (lay e c ps).length ≤ ps.flatten.length + (e.length + 1) * ps.length
  | [] => by simp [lay]
  | p :: ps => by
    have : ∀ qs : List Str, (qs.flatMap fun q => c :: q ++ e).length ≤ qs.flatten.length + (e.length + 1) * qs.length := fun qs => by
      induction qs with
      | nil => simp
      | cons q qs ih =>
        simp only [List.flatMap_cons, List.length_append, List.length_cons, List.flatten_cons, Nat.mul_add, Nat.mul_one] at ih ⊢
        omega
    have := this ps
    simp only [lay, List.length_append, List.flatten_cons, List.length_cons, Nat.mul_add, Nat.mul_one]
    omega
theorem lay_pcs_len {e : Str} {c : UInt8} {n : Nat} (hn : 0 < n) (he : e.length ≤ 2) (r : Str) : (lay e c (pcs n r)).length ≤ 4 * r.length := by
  have h1 := lay_len e c (pcs n r)
  rw [pcs_flat hn r.length r (Nat.le_refl _)] at h1
  have h2 := pcs_num hn r.length r (Nat.le_refl _)
  have h3 : (e.length + 1) * (pcs n r).length ≤ 3 * r.length := Nat.mul_le_mul (by omega) h2
  omega
theorem good_pcs {n : Nat} (hn : 0 < n) {r : Str} (h : rMay r = 0) : good (pcs n r) := by
  obtain ⟨h1, h2, h3, h4, h5⟩ := rMay_ok h
  have hf := pcs_flat hn r.length r (Nat.le_refl _)
  have hc := pcs_cons hn h2
  have hp : 0 < r.length := List.length_pos_iff.2 h2
  have ht : r.take n ≠ [] := fun e => by
    have := congrArg List.length e
    rw [List.length_take, List.length_nil] at this; omega
  refine ⟨r.take n, pcs n (r.drop n), hc, ht, ?_, fun q hq c hcq => h5 c ?_, by rw [hf]; omega⟩
  · have e : ix (r.take n) 0 = ix r 0 := by
      conv => rhs; rw [← List.take_append_drop n r]
      rw [ix_head ht]
    intro hs
    rcases hs with hs | hs
    · rw [e] at hs; exact h3 hs
    · rw [e] at hs; exact h4 hs
  · rw [← hf]; exact List.mem_flatten.2 ⟨q, hq, hcq⟩
theorem flat_pcs {e : Str} {c : UInt8} (he : isEnd e) (hc : c = 32 ∨ c = 9) {n : Nat} (hn : 0 < n) {l : List Str} (h : ∀ r ∈ l, rMay r = 0) (hl : l.length ≤ 1000) : unfoldS (l.flatMap fun r => lay e c (pcs n r)) = .ok (rowsAt 1 (l.map (pcs n))) := by
  have := unfold_rows he hc (l.map (pcs n)) (fun ps hp => by
    obtain ⟨r, hr, rfl⟩ := List.mem_map.1 hp
    exact good_pcs hn (h r hr)) (by rw [List.length_map]; exact hl)
  rw [List.flatMap_map] at this
  exact this
theorem pcs_text {n : Nat} (hn : 0 < n) (l : List Str) : (rowsAt 1 (l.map (pcs n))).map Row.Text = l := by
  rw [rowsAt_text, List.map_map]
  conv => rhs; rw [← List.map_id l]
  exact List.map_congr_left fun r _ => pcs_flat hn r.length r (Nat.le_refl _)
end Go.Fo
end
