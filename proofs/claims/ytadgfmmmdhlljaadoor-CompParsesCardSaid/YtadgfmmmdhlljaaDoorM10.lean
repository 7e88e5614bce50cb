/- 18 texts, one behind the other. -/
import Derived.Test.YtadgfmmmdhlljaaDoorM9
import Derived.Test.YtadgfmmmdhlljaaDoorM4
import Derived.Test.YtadgfmmmdhlljaaDoorM6
set_option linter.unusedVariables false
set_option linter.unusedSimpArgs false
section
namespace Go.Li
open Go Go.Wk Go.Wl Go.Rx Go.Fo
theorem parse_right {s : Str} (h : (parseS s).2 = .nil) : rightB (parseS s).1 = true ∧ pProp s = some (parseS s).1 := by
  unfold parseS finS at *
  cases hp : pProp s with
  | none => rw [hp] at h; cases h
  | some p =>
    rw [hp] at h
    simp only at h ⊢
    by_cases hm : manyB p = true
    · rw [if_pos hm] at h; cases h
    · rw [if_neg hm] at h ⊢
      exact ⟨rightB_iff.2 ⟨read_right hp, by simpa using hm⟩, rfl⟩
theorem parse_err {s : Str} (h : (parseS s).2 ≠ .nil) : (parseS s).1 = prp0 ∧ (∃ n, (parseS s).2 = .no n ∧ (n = 11 ∨ n = 5) ∧ (parseR s) = (prp0, n)) := by
  unfold parseS parseR finS at *
  cases hp : pProp s with
  | none => exact ⟨rfl, 11, rfl, .inl rfl, rfl⟩
  | some p =>
    rw [hp] at h
    simp only at h ⊢
    by_cases hm : manyB p = true
    · rw [if_pos hm]; exact ⟨rfl, 5, rfl, .inr rfl, by rw [if_pos hm]⟩
    · rw [if_neg hm] at h; exact absurd rfl h
theorem parse_ok {s : Str} (h : (parseS s).2 = .nil) : parseR s = ((parseS s).1, 0) := by
  unfold parseS parseR finS at *
  cases hp : pProp s with
  | none => rw [hp] at h; cases h
  | some p =>
    rw [hp] at h
    simp only at h ⊢
    by_cases hm : manyB p = true
    · rw [if_pos hm] at h; cases h
    · rw [if_neg hm, if_neg hm]
def says (l : List Str) : Prp := ⟨[], [65], [⟨[88], l⟩], [118]⟩
theorem said_len2 : ∀ (n : Nat) (s : Str), s.length ≤ n → (said s).length ≤ s.length := by
  intro n
  induction n with
  | zero => intro s h; obtain rfl := List.eq_nil_of_length_eq_zero (Nat.le_zero.1 h); exact Nat.le_refl _
  | succ n ih =>
    intro s hs
    match s, hs with
    | [], _ => exact Nat.le_refl _
    | [c], _ => exact Nat.le_refl _
    | c :: d :: r, hs =>
      simp only [List.length_cons] at hs
      have i1 := ih r (by omega)
      have i2 := ih (d :: r) (by simp only [List.length_cons]; omega)
      simp only [List.length_cons] at i2
      rw [said]
      split
      · simp only [List.length_cons]; omega
      · split
        · simp only [List.length_cons]; omega
        · split <;> (simp only [List.length_cons]; omega)
theorem while_le (p : UInt8 → Bool) (s : Str) : (s.takeWhile p).length ≤ s.length := (List.takeWhile_sublist p).length_le
theorem pName_size {s n r : Str} (h : pName s = some (n, r)) : n.length ≤ s.length := by
  unfold pName at h
  split at h
  · cases h
  · cases h; unfold upper; rw [List.length_map]; exact while_le _ _
theorem pValue_size {s v r : Str} (h : pValue s = some (v, r)) : v.length ≤ s.length := by
  unfold pValue at h
  split at h
  · rename_i t ht
    split at h
    · cases h
      have := hdIs_len ht
      have := said_len2 _ (t.takeWhile inB) (Nat.le_refl _)
      have := while_le inB t
      omega
    · cases h
  · cases h
    have := said_len2 _ (s.takeWhile plainB) (Nat.le_refl _)
    have := while_le plainB s
    omega
theorem pVals_size : ∀ (n : Nat) (s : Str), s.length ≤ n → ∀ l r, pVals s = some (l, r) → l.length ≤ s.length + 1 ∧ ∀ v ∈ l, v.length ≤ s.length := by
  intro n
  induction n with
  | zero =>
    intro s hs l r h
    rw [pVals_eq] at h
    split at h
    · cases h
    · rename_i v t ht
      have h1 := pValue_len ht
      have h0 := pValue_size ht
      split at h
      · cases h; exact ⟨by simp, fun x hx => by rw [List.mem_singleton.1 hx]; exact h0⟩
      · rename_i u hu
        have := hdIs_len hu
        omega
  | succ n ih =>
    intro s hs l r h
    rw [pVals_eq] at h
    split at h
    · cases h
    · rename_i v t ht
      have h1 := pValue_len ht
      have h0 := pValue_size ht
      split at h
      · cases h; exact ⟨by simp, fun x hx => by rw [List.mem_singleton.1 hx]; exact h0⟩
      · rename_i u hu
        have := hdIs_len hu
        split at h
        · cases h
        · rename_i l' r' h'
          cases h
          obtain ⟨i1, i2⟩ := ih u (by omega) _ _ h'
          refine ⟨by simp only [List.length_cons]; omega, fun x hx => ?_⟩
          rcases List.mem_cons.1 hx with rfl | hx
          · exact h0
          · have := i2 x hx; omega
theorem pParam_size {s r : Str} {x : Param} (h : pParam s = some (x, r)) : x.Name.length ≤ s.length ∧ x.Values.length ≤ s.length ∧ ∀ v ∈ x.Values, v.length ≤ s.length := by
  unfold pParam at h
  split at h
  · cases h
  · rename_i n t ht
    split at h
    · cases h
    · rename_i u hu
      split at h
      · cases h
      · rename_i l' r' h'
        cases h
        obtain ⟨h1, h2⟩ := pVals_size _ _ (Nat.le_refl _) _ _ h'
        have a := pName_size ht
        have b := pName_len ht
        have c := hdIs_len hu
        exact ⟨a, by dsimp only; omega, fun v hv => by have := h2 v hv; omega⟩
theorem pParams_size : ∀ (n : Nat) (s : Str), s.length ≤ n → ∀ l r, pParams s = some (l, r) → (l.length ≤ s.length ∧ r.length ≤ s.length) ∧ ∀ x ∈ l, x.Name.length ≤ s.length ∧ x.Values.length ≤ s.length ∧ ∀ v ∈ x.Values, v.length ≤ s.length := by
  intro n
  induction n with
  | zero =>
    intro s hs l r h
    rw [pParams_eq] at h
    split at h
    · cases h; exact ⟨⟨Nat.zero_le _, Nat.le_refl _⟩, fun x hx => by cases hx⟩
    · rename_i t ht
      have := hdIs_len ht
      omega
  | succ n ih =>
    intro s hs l r h
    rw [pParams_eq] at h
    split at h
    · cases h; exact ⟨⟨Nat.zero_le _, Nat.le_refl _⟩, fun x hx => by cases hx⟩
    · rename_i t ht
      have h1 := hdIs_len ht
      split at h
      · cases h
      · rename_i x t' hp
        have h2 := pParam_len hp
        split at h
        · cases h
        · rename_i l' r' h'
          cases h
          obtain ⟨⟨i1, i3⟩, i2⟩ := ih _ (by omega) _ _ h'
          refine ⟨⟨by simp only [List.length_cons]; omega, by omega⟩, fun y hy => ?_⟩
          rcases List.mem_cons.1 hy with rfl | hy
          · obtain ⟨a, b, c⟩ := pParam_size hp
            exact ⟨by omega, by omega, fun v hv => by have := c v hv; omega⟩
          · obtain ⟨a, b, c⟩ := i2 y hy
            exact ⟨by omega, by omega, fun v hv => by have := c v hv; omega⟩
theorem head_size {s g n r : Str} (h : pHead s = some (g, n, r)) : g.length ≤ s.length ∧ n.length ≤ s.length ∧ r.length ≤ s.length := by
  unfold pHead at h
  split at h
  · cases h
  · rename_i m u hm
    have a := pName_size hm
    have b := pName_len hm
    split at h
    · cases h; exact ⟨Nat.zero_le _, a, b⟩
    · rename_i t ht
      have c := hdIs_len ht
      split at h
      · cases h
      · rename_i m2 u2 hm2
        cases h
        have d := pName_size hm2
        have e := pName_len hm2
        exact ⟨a, by omega, by omega⟩
theorem small_read {s : Str} {p : Prp} (hs : s.length ≤ 5000) (h : pProp s = some p) : smallP p := by
  unfold pProp at h
  split at h
  · cases h
  · rename_i g n r hh
    obtain ⟨a, b, c⟩ := head_size hh
    split at h
    · cases h
    · rename_i l t hl
      obtain ⟨⟨d, g1⟩, e⟩ := pParams_size _ _ (Nat.le_refl _) _ _ hl
      split at h
      · cases h
      · rename_i v hv
        have f := hdIs_len hv
        split at h
        · cases h
          refine ⟨by dsimp only; omega, by dsimp only; omega, by dsimp only; omega, by dsimp only; omega, fun x hx => ?_⟩
          obtain ⟨i, j, k⟩ := e x hx
          exact ⟨by omega, by omega, fun v hv => by have := k v (List.mem_of_mem_take hv); omega⟩
        · cases h
theorem small0 : smallP prp0 := ⟨Nat.zero_le _, Nat.zero_le _, Nat.zero_le _, Nat.zero_le _, fun x hx => by cases hx⟩
theorem parse_small {s : Str} (hs : s.length ≤ 5000) : smallP (parseS s).1 := by
  by_cases h : (parseS s).2 = .nil
  · exact small_read hs (parse_right h).2
  · rw [(parse_err h).1]; exact small0
end Go.Li
end
section
namespace Go.Proofs.YtadgfmmmdhlljaaDoor
open Go Go.Wk Go.Wl Go.Rx Go.Fo Go.Li Go.Co 
def an29 : Nat → Ann := fun | 29 => ⟨160, fun | 31 => some ⟨[2, 4], [.slot 13 (.int .i64), .own 2 [.str, .str, (.acc 59), .str]]⟩ | 12 => some ⟨[0, 2, 4], [.slot 5 (.int .i64), .own 2 [.str, .str, (.acc 59), .str], .own 4 [.str, .str, (.acc 59), .str]]⟩ | 18 => some ⟨[0, 2, 4, 9], [.slot 8 (.int .i64), .slot 10 .bool, .own 2 [.str, .str, (.acc 59), .str], .own 9 [.str, (.acc 9)]]⟩ | _ => none, fun | 9 => some ⟨[0, 2, 4], [.slot 5 (.int .i64), .slot 6 .str, .own 4 [.str, .str, (.acc 59), .str]]⟩ | _ => none⟩ | _ => ⟨0, fun _ => none, fun _ => none⟩
def V29 (s : Str) (Q : Prp → Int → Prop) : Prop :=
(0 : Int) ≤ (0 : Int) ∧
  (0 : Int) ≤ (↑(List.length s) : Int) ∧
    List.length s ≤ (100000000 : Nat) ∧
      (0 : Int) ≤ (0 : Int) + nameLen s (0 : Int) ∧
        (0 : Int) + nameLen s (0 : Int) ≤ (↑(List.length s) : Int) ∧
          ∃ (J : Int → List UInt8 → List UInt8 → List UInt8 → List Param → List UInt8 → Prop),
            (((0 : Int) + nameLen s (0 : Int) < (↑(List.length s) : Int) → (0 : Int) ≤ (0 : Int) + nameLen s (0 : Int)) ∧
                ((0 : Int) + nameLen s (0 : Int) < (↑(List.length s) : Int) → (0 : Int) + nameLen s (0 : Int) < (↑(List.length s) : Int)) ∧
                  (((0 : Int) + nameLen s (0 : Int) < (↑(List.length s) : Int) ∧ ix s ((0 : Int) + nameLen s (0 : Int)) = (46 : UInt8)) ∧ List.take ((0 : Int) + nameLen s (0 : Int)).toNat s ≠ [] →
                      in64 ((0 : Int) + nameLen s (0 : Int) + (1 : Int)) ∧
                        (0 : Int) ≤ (0 : Int) + nameLen s (0 : Int) + (1 : Int) ∧
                          (0 : Int) + nameLen s (0 : Int) + (1 : Int) ≤ (↑(List.length s) : Int) ∧
                            List.length s ≤ (100000000 : Nat) ∧
                              in64 ((0 : Int) + nameLen s (0 : Int) + (1 : Int)) ∧
                                (0 : Int) ≤ (0 : Int) + nameLen s (0 : Int) + (1 : Int) ∧
                                  (0 : Int) + nameLen s (0 : Int) + (1 : Int) ≤ (0 : Int) + nameLen s (0 : Int) + (1 : Int) + nameLen s ((0 : Int) + nameLen s (0 : Int) + (1 : Int)) ∧
                                    (0 : Int) + nameLen s (0 : Int) + (1 : Int) + nameLen s ((0 : Int) + nameLen s (0 : Int) + (1 : Int)) ≤ (↑(List.length s) : Int) ∧
                                      J ((0 : Int) + nameLen s (0 : Int) + (1 : Int) + nameLen s ((0 : Int) + nameLen s (0 : Int) + (1 : Int)))
                                        (List.drop ((0 : Int) + nameLen s (0 : Int) + (1 : Int)).toNat
                                          (List.take ((0 : Int) + nameLen s (0 : Int) + (1 : Int) + nameLen s ((0 : Int) + nameLen s (0 : Int) + (1 : Int))).toNat s))
                                        (upper (List.take ((0 : Int) + nameLen s (0 : Int)).toNat s)) [] [] []) ∧
                    (¬(((0 : Int) + nameLen s (0 : Int) < (↑(List.length s) : Int) ∧ ix s ((0 : Int) + nameLen s (0 : Int)) = (46 : UInt8)) ∧
                          List.take ((0 : Int) + nameLen s (0 : Int)).toNat s ≠ []) →
                      J ((0 : Int) + nameLen s (0 : Int)) (List.take ((0 : Int) + nameLen s (0 : Int)).toNat s) [] [] [] [])) ∧
              ∀ (x : Int) (x_1 x_2 x_3 : List UInt8) (x_4 : List Param) (x_5 : List UInt8),
                J x x_1 x_2 x_3 x_4 x_5 →
                  (x_1 = [] → Q (Prp.mk [] [] [] []) (11 : Int)) ∧
                    (¬x_1 = [] →
                      ∃ (I : Int → List UInt8 → List UInt8 → List Param → List UInt8 → List UInt8 → List UInt8 → List Param → List UInt8 → Prop),
                        ∃ (m : Int → List UInt8 → List UInt8 → List Param → List UInt8 → List UInt8 → List UInt8 → List Param → List UInt8 → Nat),
                          I x [] [] [] [] x_2 (upper x_1) x_4 x_5 ∧
                            ∀ (x : Int) (x_6 x_7 : List UInt8) (x_8 : List Param) (x_9 x_10 x_11 : List UInt8) (x_12 : List Param) (x_13 : List UInt8),
                              I x x_6 x_7 x_8 x_9 x_10 x_11 x_12 x_13 →
                                (x < (↑(List.length s) : Int) → (0 : Int) ≤ x) ∧
                                  (x < (↑(List.length s) : Int) → x < (↑(List.length s) : Int)) ∧
                                    (x < (↑(List.length s) : Int) ∧ ix s x = (59 : UInt8) →
                                        in64 (x + (1 : Int)) ∧
                                          (0 : Int) ≤ x + (1 : Int) ∧
                                            x + (1 : Int) ≤ (↑(List.length s) : Int) ∧
                                              List.length s ≤ (100000000 : Nat) ∧
                                                in64 (x + (1 : Int)) ∧
                                                  (¬(x + (1 : Int) + nameLen s (x + (1 : Int)) = x + (1 : Int) ∨ (↑(List.length s) : Int) ≤ x + (1 : Int) + nameLen s (x + (1 : Int))) →
                                                      (0 : Int) ≤ x + (1 : Int) + nameLen s (x + (1 : Int))) ∧
                                                    (¬(x + (1 : Int) + nameLen s (x + (1 : Int)) = x + (1 : Int) ∨ (↑(List.length s) : Int) ≤ x + (1 : Int) + nameLen s (x + (1 : Int))) →
                                                        x + (1 : Int) + nameLen s (x + (1 : Int)) < (↑(List.length s) : Int)) ∧
                                                      ((x + (1 : Int) + nameLen s (x + (1 : Int)) = x + (1 : Int) ∨ (↑(List.length s) : Int) ≤ x + (1 : Int) + nameLen s (x + (1 : Int))) ∨
                                                            ix s (x + (1 : Int) + nameLen s (x + (1 : Int))) ≠ (61 : UInt8) →
                                                          Q (Prp.mk [] [] [] []) (11 : Int)) ∧
                                                        (¬((x + (1 : Int) + nameLen s (x + (1 : Int)) = x + (1 : Int) ∨ (↑(List.length s) : Int) ≤ x + (1 : Int) + nameLen s (x + (1 : Int))) ∨
                                                              ix s (x + (1 : Int) + nameLen s (x + (1 : Int))) ≠ (61 : UInt8)) →
                                                          in64 (x + (1 : Int)) ∧
                                                            (0 : Int) ≤ x + (1 : Int) ∧
                                                              x + (1 : Int) ≤ x + (1 : Int) + nameLen s (x + (1 : Int)) ∧
                                                                x + (1 : Int) + nameLen s (x + (1 : Int)) ≤ (↑(List.length s) : Int) ∧
                                                                  ∃ (I_1 : Int → Bool → List UInt8 → List UInt8 → List Param → List UInt8 → List UInt8 → List (List UInt8) → Prop),
                                                                    ∃ (m_1 : Int → Bool → List UInt8 → List UInt8 → List Param → List UInt8 → List UInt8 → List (List UInt8) → Nat),
                                                                      I_1 (x + (1 : Int) + nameLen s (x + (1 : Int))) true x_6 x_7 x_8 x_9
                                                                          (upper (List.drop (x + (1 : Int)).toNat (List.take (x + (1 : Int) + nameLen s (x + (1 : Int))).toNat s))) [] ∧
                                                                        ∀ (x_14 : Int) (x_15 : Bool) (x_16 x_17 : List UInt8) (x_18 : List Param) (x_19 x_20 : List UInt8) (x_21 : List (List UInt8)),
                                                                          I_1 x_14 x_15 x_16 x_17 x_18 x_19 x_20 x_21 →
                                                                            (x_15 = true →
                                                                                in64 (x_14 + (1 : Int)) ∧
                                                                                  (0 : Int) ≤ x_14 + (1 : Int) ∧
                                                                                    x_14 + (1 : Int) ≤ (↑(List.length s) : Int) ∧
                                                                                      List.length s ≤ (100000000 : Nat) ∧
                                                                                        ((valS s (x_14 + (1 : Int))).snd < (0 : Int) → Q (Prp.mk [] [] [] []) (11 : Int)) ∧
                                                                                          (¬(valS s (x_14 + (1 : Int))).snd < (0 : Int) →
                                                                                            (x_21.length + [(valS s (x_14 + (1 : Int))).fst].length) * (some (16 : Nat)).getD (0 : Nat) ≤
                                                                                                (140737488355328 : Nat) ∧
                                                                                              ((valS s (x_14 + (1 : Int))).snd < (↑(List.length s) : Int) →
                                                                                                  (0 : Int) ≤ (valS s (x_14 + (1 : Int))).snd) ∧
                                                                                                ((valS s (x_14 + (1 : Int))).snd < (↑(List.length s) : Int) →
                                                                                                    (valS s (x_14 + (1 : Int))).snd < (↑(List.length s) : Int)) ∧
                                                                                                  I_1 (valS s (x_14 + (1 : Int))).snd
                                                                                                      (decide
                                                                                                        ((valS s (x_14 + (1 : Int))).snd < (↑(List.length s) : Int) ∧
                                                                                                          ix s (valS s (x_14 + (1 : Int))).snd = (44 : UInt8)))
                                                                                                      x_16 x_17 x_18 x_19 x_20 (x_21 ++ [(valS s (x_14 + (1 : Int))).fst]) ∧
                                                                                                    m_1 (valS s (x_14 + (1 : Int))).snd
                                                                                                        (decide
                                                                                                          ((valS s (x_14 + (1 : Int))).snd < (↑(List.length s) : Int) ∧
                                                                                                            ix s (valS s (x_14 + (1 : Int))).snd = (44 : UInt8)))
                                                                                                        x_16 x_17 x_18 x_19 x_20 (x_21 ++ [(valS s (x_14 + (1 : Int))).fst]) <
                                                                                                      m_1 x_14 x_15 x_16 x_17 x_18 x_19 x_20 x_21)) ∧
                                                                              (¬x_15 = true →
                                                                                (x_12.length + [Param.mk x_20 x_21].length) * (some (40 : Nat)).getD (0 : Nat) ≤ (140737488355328 : Nat) ∧
                                                                                  I x_14 x_16 x_17 x_18 x_19 x_10 x_11 (x_12 ++ [Param.mk x_20 x_21]) x_13 ∧
                                                                                    m x_14 x_16 x_17 x_18 x_19 x_10 x_11 (x_12 ++ [Param.mk x_20 x_21]) x_13 <
                                                                                      m x x_6 x_7 x_8 x_9 x_10 x_11 x_12 x_13))) ∧
                                      (¬(x < (↑(List.length s) : Int) ∧ ix s x = (59 : UInt8)) →
                                        (¬(↑(List.length s) : Int) ≤ x → (0 : Int) ≤ x) ∧
                                          (¬(↑(List.length s) : Int) ≤ x → x < (↑(List.length s) : Int)) ∧
                                            ((↑(List.length s) : Int) ≤ x ∨ ix s x ≠ (58 : UInt8) → Q (Prp.mk [] [] [] []) (11 : Int)) ∧
                                              (¬((↑(List.length s) : Int) ≤ x ∨ ix s x ≠ (58 : UInt8)) →
                                                in64 (x + (1 : Int)) ∧
                                                  (0 : Int) ≤ x + (1 : Int) ∧
                                                    x + (1 : Int) ≤ (↑(List.length s) : Int) ∧
                                                      ∃ (I : Int → List UInt8 → List UInt8 → List Param → List UInt8 → Prop),
                                                        ∃ (m : Int → List UInt8 → List UInt8 → List Param → List UInt8 → Nat),
                                                          I (0 : Int) x_6 x_7 x_8 x_9 ∧
                                                            ∀ (x_14 : Int) (x_15 x_16 : List UInt8) (x_17 : List Param) (x_18 : List UInt8),
                                                              I x_14 x_15 x_16 x_17 x_18 →
                                                                (x_14 < (↑(List.drop (x + (1 : Int)).toNat s).length : Int) →
                                                                    (0 : Int) ≤ x_14 ∧
                                                                      x_14 < (↑(List.drop (x + (1 : Int)).toNat s).length : Int) ∧
                                                                        (¬standsB (ix (List.drop (x + (1 : Int)).toNat s) x_14) = true → Q (Prp.mk [] [] [] []) (11 : Int)) ∧
                                                                          (¬¬standsB (ix (List.drop (x + (1 : Int)).toNat s) x_14) = true →
                                                                            in64 (x_14 + (1 : Int)) ∧
                                                                              I (x_14 + (1 : Int)) x_15 x_16 x_17 x_18 ∧ m (x_14 + (1 : Int)) x_15 x_16 x_17 x_18 < m x_14 x_15 x_16 x_17 x_18)) ∧
                                                                  (¬x_14 < (↑(List.drop (x + (1 : Int)).toNat s).length : Int) →
                                                                    x_12.length ≤ (1000000000 : Nat) ∧
                                                                      (manyB (Prp.mk x_10 x_11 x_12 (List.drop (x + (1 : Int)).toNat s)) = true → Q (Prp.mk [] [] [] []) (5 : Int)) ∧
                                                                        (¬manyB (Prp.mk x_10 x_11 x_12 (List.drop (x + (1 : Int)).toNat s)) = true →
                                                                          Q (Prp.mk x_10 x_11 x_12 (List.drop (x + (1 : Int)).toNat s)) (0 : Int))))))
def W29 (s : Str) (Q : Prp → Int → Prop) : Prop := vcFun (E := N68) (inlMN N68 M103 an29 2) (an29 29) Tryd.f29 [.str s] [] [] 0 (resZ N68 2 [.val 45, .int .i64] Q)
attribute [local irreducible] W29 HZ
set_option maxRecDepth 100000 in
theorem V29_eq {s : Str} {Q : Prp → Int → Prop} : V29 s Q = W29 s Q := by kernel_rfl
set_option maxRecDepth 100000 in
theorem V29_ok {s : Str} {Q : Prp → Int → Prop} (h : V29 s Q) : W29 s Q := by rw [← V29_eq]; exact h
theorem name_at {s : Str} {i : Int} (h0 : 0 ≤ i) (h1 : i ≤ s.length) : 0 ≤ nameLen s i ∧ i + nameLen s i ≤ s.length ∧ List.drop i.toNat (List.take (i + nameLen s i).toNat s) = (s.drop i.toNat).takeWhile letterB ∧ s.drop (i + nameLen s i).toNat = (s.drop i.toNat).dropWhile letterB ∧ (nameLen s i = 0 ↔ (s.drop i.toNat).takeWhile letterB = []) := by
  obtain ⟨e1, e2⟩ := take_while (p := letterB) (s.drop i.toNat)
  have l := while_le letterB (s.drop i.toNat)
  rw [List.length_drop] at l
  unfold nameLen
  have e : (i + (((s.drop i.toNat).takeWhile letterB).length : Nat)).toNat = i.toNat + ((s.drop i.toNat).takeWhile letterB).length := by omega
  refine ⟨by omega, by omega, ?_, ?_, ?_⟩
  · rw [e, List.drop_take, Nat.add_sub_cancel_left, e1]
  · rw [e, ← List.drop_drop, e2]
  · rw [← List.length_eq_zero_iff]; omega
theorem p29 (s : Str) (hs : s.length ≤ 100000000) : V29 s (fun y0 y1 => y0 = (parseR s).1 ∧ y1 = (parseR s).2) := by
  unfold V29
  obtain ⟨a0, a1, a2, a3, -⟩ := name_at (s := s) (i := 0) (Int.le_refl _) (by omega)
  simp only [Int.toNat_zero, List.drop_zero] at a2 a3
  have bad : pProp s = none → prp0 = (parseR s).1 ∧ 11 = (parseR s).2 := fun h => by unfold parseR; rw [h]; exact ⟨rfl, rfl⟩
  rw [a2]
  refine ⟨Int.le_refl _, by omega, hs, by omega, a1, fun i f g n l v => (n = [] ∧ l = []) ∧ 0 ≤ i ∧ i ≤ s.length ∧ (f = [] → pProp s = none) ∧ (f ≠ [] → pProp s = tailS g (upper f) [] (s.drop i.toNat)), ⟨fun _ => by omega, fun h => h, fun ⟨⟨h1, h2⟩, h3⟩ => ?_, fun h => ?_⟩, ?_⟩
  · obtain ⟨b0, b1, b2, b3, b4⟩ := name_at (s := s) (i := 0 + nameLen s 0 + 1) (by omega) (by omega)
    have hd := hdIs_at (by omega) ⟨h1, h2⟩
    rw [a3] at hd
    have hp := prop_two h3 hd
    rw [b2]
    refine ⟨⟨by omega, by omega⟩, by omega, by omega, hs, ⟨by omega, by omega⟩, by omega, by omega, b1, ⟨rfl, rfl⟩, by omega, b1, fun h => ?_, fun h => ?_⟩
    · rw [hp, if_pos h]
    · rw [hp, if_neg h, b3]
  · refine ⟨⟨rfl, rfl⟩, by omega, a1, fun h0 => prop_no h0, fun h0 => ?_⟩
    rw [prop_one h0 (by rw [← a3]; exact hdIs_not (by omega) (fun x => h ⟨x, h0⟩)), a3]
  rintro i f g n l v ⟨⟨rfl, rfl⟩, i0, i1, h1, h2⟩
  refine ⟨fun hf => bad (h1 hf), fun hf => ?_⟩
  have h2 := h2 hf
  clear h1
  refine ⟨fun i _ _ _ _ g' n' l _ => g' = g ∧ n' = upper f ∧ 0 ≤ i ∧ i ≤ s.length ∧ (l.length : Int) ≤ i ∧ pProp s = tailS g (upper f) l (s.drop i.toNat), fun i _ _ _ _ _ _ _ _ => ((s.length : Int) - i).toNat, ⟨rfl, rfl, i0, i1, by simp; exact i0, h2⟩, ?_⟩
  clear h2 i0 i1
  rintro i r1 r2 r3 r4 g' n' l v ⟨rfl, rfl, i0, i1, hl, hp⟩
  refine ⟨fun _ => i0, fun h => h, fun ⟨hi, hc⟩ => ?_, fun hc => ?_⟩
  · obtain ⟨b0, b1, b2, b3, b4⟩ := name_at (s := s) (i := i + 1) (by omega) (by omega)
    rw [tail_p (hdIs_at i0 ⟨hi, hc⟩)] at hp
    rw [b2]
    refine ⟨⟨by omega, by omega⟩, by omega, by omega, hs, ⟨by omega, by omega⟩, fun _ => by omega, fun h => by omega, fun h => bad ?_, fun h => ⟨⟨by omega, by omega⟩, by omega, by omega, b1, ?_⟩⟩
    · have : (s.drop (i + 1).toNat).takeWhile letterB = [] ∨ hdIs 61 ((s.drop (i + 1).toNat).dropWhile letterB) = none := by
        by_cases e : nameLen s (i + 1) = 0
        · exact .inl (b4.1 e)
        · refine .inr ?_
          rw [← b3]
          exact hdIs_not (by omega) (fun ⟨x, y⟩ => by
            rcases h with (h | h) | h
            · omega
            · omega
            · exact h y)
      rw [hp, pParam_no this]
    · have hk : i + 1 + nameLen s (i + 1) < s.length ∧ ix s (i + 1 + nameLen s (i + 1)) = 61 := ⟨Classical.byContradiction fun n => h (.inl (.inr (by omega))), Classical.byContradiction fun n => h (.inr n)⟩
      have hne : (s.drop (i + 1).toNat).takeWhile letterB ≠ [] := fun e => h (.inl (.inl (by have := b4.2 e; omega)))
      have hd1 := hdIs_at (by omega) hk
      rw [b3] at hd1
      rw [pParam_on hne hd1] at hp
      have k00 : i + 1 ≤ i + 1 + nameLen s (i + 1) := by omega
      generalize i + 1 + nameLen s (i + 1) = k0 at *
      refine ⟨fun k more _ _ _ _ nm vs => nm = upper ((s.drop (i + 1).toNat).takeWhile letterB) ∧ i < k ∧ k ≤ s.length ∧ (vs.length : Int) ≤ k ∧ (more = true → k < s.length ∧ valsS vs (s.drop (k + 1).toNat) = pVals (s.drop (k0 + 1).toNat)) ∧ (more = false → pVals (s.drop (k0 + 1).toNat) = some (vs, s.drop k.toNat)), fun k _ _ _ _ _ _ _ => ((s.length : Int) - k).toNat, ⟨rfl, by omega, by omega, by simp; omega, fun _ => ⟨hk.1, valsS_nil _⟩, fun h => by cases h⟩, ?_⟩
      rintro k more c1 c2 c3 c4 nm vs ⟨rfl, k2, k1, kl, hm, hn⟩
      refine ⟨fun hmore => ?_, fun hmore => ?_⟩
      · obtain ⟨k3, hv⟩ := hm hmore
        cases hp2 : pValue (s.drop (k + 1).toNat) with
        | none =>
          rw [valS_none hp2]
          rw [valsS_none hp2] at hv
          rw [← hv] at hp
          exact ⟨⟨by omega, by omega⟩, by omega, by omega, hs, fun _ => bad hp, fun h => absurd (show (-1 : Int) < 0 by decide) h⟩
        | some x =>
          obtain ⟨v, r⟩ := x
          obtain ⟨e1, e2⟩ := suf_drop (i := k + 1) (by omega) (by omega) (pValue_suf hp2)
          rw [valS_some hp2]
          have j1 : (s.length : Int) - r.length ≤ s.length := by omega
          generalize (s.length : Int) - r.length = j at *
          dsimp only
          refine ⟨⟨by omega, by omega⟩, by omega, by omega, hs, fun h => by omega, fun h => ⟨by simp; omega, fun _ => by omega, fun h => h, ⟨rfl, by omega, j1, by simp; omega, fun hm => ?_, fun hm => ?_⟩, by omega⟩⟩
          · have hm := of_decide_eq_true hm
            have h44 := hdIs_at (by omega) hm
            rw [← e1] at h44
            exact ⟨hm.1, by rw [← hv, valsS_on hp2 h44]⟩
          · have hm := of_decide_eq_false hm
            have h44 := hdIs_not (c := 44) (s := s) (i := j) (by omega) hm
            rw [← e1] at h44
            rw [← hv, valsS_end hp2 h44, ← e1]
      · have := hn (by simpa using hmore)
        rw [this] at hp
        exact ⟨by simp; omega, ⟨rfl, rfl, by omega, k1, by simp; omega, hp⟩, by dsimp only; omega⟩
  · have h59 := hdIs_not i0 hc
    refine ⟨fun _ => i0, fun h => by omega, fun h => bad ?_, fun h => ?_⟩
    · rw [hp]
      exact tail_no h59 (hdIs_not i0 (fun ⟨a, b⟩ => by
        rcases h with h | h
        · omega
        · exact h b))
    · have h58 : i < s.length ∧ ix s i = 58 := ⟨Classical.byContradiction fun n => h (.inl (by omega)), Classical.byContradiction fun n => h (.inr n)⟩
      rw [tail_end h59 (hdIs_at i0 h58)] at hp
      have lt : (s.drop (i + 1).toNat).length ≤ s.length := by rw [List.length_drop]; omega
      refine ⟨⟨by omega, by omega⟩, by omega, by omega, ?_⟩
      generalize s.drop (i + 1).toNat = t at *
      refine ⟨fun j _ _ _ _ => 0 ≤ j ∧ j ≤ t.length ∧ ∀ k : Int, 0 ≤ k → k < j → standsB (ix t k) = true, fun j _ _ _ _ => ((t.length : Int) - j).toNat, ⟨by omega, by omega, fun j _ _ => by omega⟩, ?_⟩
      rintro j c1 c2 c3 c4 ⟨j0, j1, hj⟩
      refine ⟨fun hi => ⟨j0, hi, fun hn => bad ?_, fun hn => ⟨⟨by omega, by omega⟩, ⟨by omega, by omega, fun k k0 k1 => ?_⟩, by dsimp only; omega⟩⟩, fun hi => ⟨by omega, fun hm => ?_, fun hm => ?_⟩⟩
      · rw [hp, if_neg (not_all j0 hi hn)]
      · by_cases e : k = j
        · subst e; exact Classical.not_not.1 hn
        · exact hj k k0 (by omega)
      · rw [if_pos (all_ix fun k k0 k1 => hj k k0 (by omega))] at hp
        unfold parseR; rw [hp]; simp only [if_pos hm]; exact ⟨by first | rfl | trivial, by first | rfl | trivial⟩
      · rw [if_pos (all_ix fun k k0 k1 => hj k k0 (by omega))] at hp
        unfold parseR; rw [hp]; simp only [if_neg hm]; exact ⟨by first | rfl | trivial, by first | rfl | trivial⟩
set_option maxRecDepth 100000 in
theorem Y29_eq {s : Str} : W29 s (fun y0 y1 => y0 = (parseR s).1 ∧ y1 = (parseR s).2) = HZ N68 (inlMN N68 M103 an29 2) (an29 29) Tryd.f29 [.str s] 2 [.val 45, .int .i64] ((parseR s).1, (parseR s).2, ()) := by kernel_rfl
theorem Y29_ok (s : Str) (hs : s.length ≤ 100000000) : HZ N68 (inlMN N68 M103 an29 2) (an29 29) Tryd.f29 [.str s] 2 [.val 45, .int .i64] ((parseR s).1, (parseR s).2, ()) := by
  rw [← Y29_eq]
  exact V29_ok (p29 s hs)
def c29r (s : Str) : CR U := ⟨[List.length (α := UInt8) s ≤ 100000000], [], .tup [.agg [.str ((parseR s).1).Group, .str ((parseR s).1).Name, .sl 59 ((parseR s).1).Params, .str ((parseR s).1).Value], .int .i64 ((parseR s).2)], []⟩
set_option maxRecDepth 100000 in
theorem c29r_eq (s : Str) : (⟨[List.length (α := UInt8) s ≤ 100000000], [], tellA 2 (tell N68 [.val 45, .int .i64] ((parseR s).1, (parseR s).2, ())), []⟩ : CR N68.N) = c29r s := by kernel_rfl
set_option maxRecDepth 100000 in
theorem c29r_ok (s : Str) (hs : s.length ≤ 100000000) (nx : Nat) (hp : ([.str s] : List (SV U)).all pureS = true) : ConOK N68.P N68.N N68.T N68.G 29 [.str s] nx (c29r s) := by
  rw [← c29r_eq]
  exact conH N68_ok (inlMN_ok N68_ok M103_ok an29 2) Tryd.func29 rfl hp (Y29_ok s hs)
def c29 (a : List (SV U)) (nx : Nat) : Option (CR U) := match a with | [.str s] => some (c29r s) | _ => none
theorem c29_ok (args : List (SV U)) (nx : Nat) (c : CR U) (h : c29 args nx = some c) (hp : args.all pureS = true) (ho : allP c.ob) : ConOK N68.P N68.N N68.T N68.G 29 args nx c := by
  unfold c29 at h
  split at h
  · rename_i s
    cases h
    exact c29r_ok s ho.1 nx hp
  · cases h
end Go.Proofs.YtadgfmmmdhlljaaDoor
end
section

end
section
namespace Go.Co
open Go Go.Wk Go.Wl Go.Rx Go.Fo Go.Li
def sBEGIN : Str := [66, 69, 71, 73, 78]
def sEND : Str := [69, 78, 68]
def atE (a : Int) (e : Err) : Err := match e.num with | some n => .fault a n | none => e
instance (s : Str) : Decidable (isName s) := by unfold isName; infer_instance
def nameP (p : Prp) : Str := if p.Group = [] ∧ p.Params = [] ∧ isName (upper p.Value) then upper p.Value else []
def namedS (p : Prp) : Str × Err := if nameP p = [] then ([], .no 11) else (nameP p, .nil)
theorem upper_nil {a : Str} : upper a = [] ↔ a = [] := by
  unfold upper
  exact List.map_eq_nil_iff
theorem letter_upB (c : UInt8) : letterB (upB c) = letterB c :=
  all8 (P := fun c => letterB (upB c) = letterB c) (by decide +kernel) c
theorem upper_letters (a : Str) : (upper a).all letterB = a.all letterB := by
  unfold upper
  rw [List.all_map]
  congr 1
  funext c
  exact letter_upB c
theorem isName_upper (a : Str) : isName (upper a) ↔ a ≠ [] ∧ a.all letterB = true := by
  unfold isName
  rw [Ne, upper_nil, upper_letters]
  exact ⟨fun ⟨h1, h2, _⟩ => ⟨h1, h2⟩, fun ⟨h1, h2⟩ => ⟨h1, h2, (upper_right h2).2⟩⟩
theorem read_name {v : Str} (h : v ≠ [] ∧ v.all letterB = true) : parseS (v ++ [58]) = (⟨[], upper v, [], []⟩, .nil) := by
  obtain ⟨e1, e2⟩ := while_app h.2 (c := 58) (by decide) []
  have hn : pName (v ++ [58]) = some (upper v, [58]) := by unfold pName; rw [e1, e2, if_neg h.1]
  have hh : pHead (v ++ [58]) = some ([], upper v, [58]) := by
    unfold pHead
    rw [hn]
    rfl
  have hp : pProp (v ++ [58]) = some ⟨[], upper v, [], []⟩ := by
    unfold pProp
    rw [hh]
    simp only
    rw [pParams_eq]
    rfl
  unfold parseS
  rw [hp]
  rfl
theorem name_read {v : Str} (h1 : (parseS (v ++ [58])).2 = .nil) (h2 : (parseS (v ++ [58])).1.Group = []) (h3 : (parseS (v ++ [58])).1.Params = []) (h4 : (parseS (v ++ [58])).1.Value = []) : v ≠ [] ∧ v.all letterB = true := by
  obtain ⟨-, hp⟩ := parse_right h1
  generalize (parseS (v ++ [58])).1 = q at h2 h3 h4 hp
  obtain ⟨g, n, l, x⟩ := q
  simp only at h2 h3 h4
  subst h2 h3 h4
  unfold pProp at hp
  cases hh : pHead (v ++ [58]) with
  | none => rw [hh] at hp; cases hp
  | some t =>
    obtain ⟨g, n', r⟩ := t
    rw [hh] at hp
    simp only at hp
    cases hl : pParams r with
    | none => rw [hl] at hp; cases hp
    | some u =>
      obtain ⟨l, t⟩ := u
      rw [hl] at hp
      simp only at hp
      cases hd : hdIs 58 t with
      | none => rw [hd] at hp; cases hp
      | some x =>
        rw [hd] at hp
        simp only at hp
        split at hp
        · simp only [Option.some.injEq, Prp.mk.injEq] at hp
          obtain ⟨rfl, rfl, rfl, rfl⟩ := hp
          have ht : t = [58] := by
            cases t with
            | nil => cases hd
            | cons d t =>
              change (if d = 58 then some t else none) = some [] at hd
              by_cases e : d = 58
              · rw [if_pos e] at hd; simp only [Option.some.injEq] at hd; rw [e, hd]
              · rw [if_neg e] at hd; cases hd
          subst ht
          have hr : r = [58] := by
            rw [pParams_eq] at hl
            cases h59 : hdIs 59 r with
            | none => rw [h59] at hl; cases hl; rfl
            | some u =>
              rw [h59] at hl
              simp only at hl
              cases hx : pParam u with
              | none => rw [hx] at hl; cases hl
              | some y =>
                obtain ⟨y, z⟩ := y
                rw [hx] at hl
                simp only at hl
                cases hz : pParams z with
                | none => rw [hz] at hl; cases hl
                | some l => rw [hz] at hl; cases hl
          subst hr
          have hn : (v ++ [58]).takeWhile letterB ≠ [] ∧ (v ++ [58]).dropWhile letterB = [58] := by
            unfold pHead at hh
            cases hn : pName (v ++ [58]) with
            | none => rw [hn] at hh; cases hh
            | some w =>
              obtain ⟨m, r⟩ := w
              rw [hn] at hh
              simp only at hh
              cases h46 : hdIs 46 r with
              | none =>
                rw [h46] at hh
                simp only [Option.some.injEq, Prod.mk.injEq] at hh
                unfold pName at hn
                split at hn
                · cases hn
                · rename_i hne
                  simp only [Option.some.injEq, Prod.mk.injEq] at hn
                  exact ⟨hne, by rw [hn.2, hh.2.2]⟩
              | some u =>
                rw [h46] at hh
                simp only at hh
                cases hu : pName u with
                | none => rw [hu] at hh; cases hh
                | some y =>
                  obtain ⟨y, z⟩ := y
                  rw [hu] at hh
                  simp only [Option.some.injEq, Prod.mk.injEq] at hh
                  have hm := hh.1
                  subst hm
                  unfold pName at hn
                  split at hn
                  · cases hn
                  · rename_i hne
                    simp only [Option.some.injEq, Prod.mk.injEq] at hn
                    exact absurd (upper_nil.1 hn.1) hne
          have hv : (v ++ [58]).takeWhile letterB = v := by
            have := List.takeWhile_append_dropWhile (p := letterB) (l := v ++ [58])
            rw [hn.2] at this
            exact List.append_cancel_right this
          rw [hv] at hn
          refine ⟨hn.1, ?_⟩
          rw [← hv]
          exact List.all_takeWhile
        · cases hp
theorem named_ok (p : Prp) : ((parseS (p.Value ++ [58])).2 ≠ .nil ∨ p.Group ≠ [] ∨ p.Params ≠ [] ∨ (parseS (p.Value ++ [58])).1.Group ≠ [] ∨ (parseS (p.Value ++ [58])).1.Params ≠ [] ∨ (parseS (p.Value ++ [58])).1.Value ≠ []) ∧ namedS p = ([], .no 11) ∨
    ((parseS (p.Value ++ [58])).2 = .nil ∧ p.Group = [] ∧ p.Params = [] ∧ (parseS (p.Value ++ [58])).1.Group = [] ∧ (parseS (p.Value ++ [58])).1.Params = [] ∧ (parseS (p.Value ++ [58])).1.Value = []) ∧ namedS p = ((parseS (p.Value ++ [58])).1.Name, .nil) := by
  by_cases h : p.Value ≠ [] ∧ p.Value.all letterB = true
  · have hr := read_name h
    have hu : isName (upper p.Value) := (isName_upper _).2 h
    have hne : upper p.Value ≠ [] := hu.1
    by_cases hg : p.Group = [] ∧ p.Params = []
    · refine .inr ⟨?_, ?_⟩
      · rw [hr]; exact ⟨rfl, hg.1, hg.2, rfl, rfl, rfl⟩
      · have e : nameP p = upper p.Value := by unfold nameP; rw [if_pos ⟨hg.1, hg.2, hu⟩]
        unfold namedS; rw [e, if_neg hne, hr]
    · refine .inl ⟨?_, ?_⟩
      · by_cases h1 : p.Group = []
        · exact .inr (.inr (.inl fun h2 => hg ⟨h1, h2⟩))
        · exact .inr (.inl h1)
      · have e : nameP p = [] := by unfold nameP; rw [if_neg (fun h => hg ⟨h.1, h.2.1⟩)]
        unfold namedS; rw [if_pos e]
  · refine .inl ⟨?_, ?_⟩
    · refine Classical.byContradiction fun hn => h ?_
      simp only [not_or, Classical.not_not, Ne] at hn
      exact name_read hn.1 hn.2.2.2.1 hn.2.2.2.2.1 hn.2.2.2.2.2
    · have e : nameP p = [] := by unfold nameP; rw [if_neg (fun hh => h ((isName_upper _).1 hh.2.2))]
      unfold namedS; rw [if_pos e]
abbrev Frm := Comp × Int
def addP (c : Comp) (p : Prp) : Comp := .mk c.Name (c.Props ++ [p]) c.Comps
def addC (c x : Comp) : Comp := .mk c.Name c.Props (c.Comps ++ [x])
def stepC (st : List Frm) (out : List Comp) (a : Int) (p : Prp) : Except (Int × Int) (List Frm × List Comp) :=
  if p.Name = sBEGIN then
    if nameP p = [] then .error (11, a) else if 6 < st.length + 1 then .error (12, a) else .ok ((.mk (nameP p) [] [], a) :: st, out)
  else match st with
    | [] => .error (11, a)
    | (c, b) :: st => if p.Name = sEND then
        if nameP p = [] ∨ nameP p ≠ c.Name then .error (11, a) else match st with
          | [] => .ok ([], out ++ [c])
          | (d, b') :: st => .ok ((addC d c, b') :: st, out)
      else .ok ((addP c p, b) :: st, out)
def goC : List Row → List Frm → List Comp → Except (Int × Int) (List Comp)
  | [], [], out => .ok out
  | [], (_, b) :: _, _ => .error (11, b)
  | r :: rs, st, out => if (parseS r.Text).2 ≠ .nil then .error ((parseS r.Text).2.num.getD 0, r.At) else match stepC st out r.At (parseS r.Text).1 with
    | .error e => .error e
    | .ok q => goC rs q.1 q.2
def compS (s : Str) : Except (Int × Int) (List Comp) := match unfoldS s with | .error e => .error e | .ok rows => goC rows [] []
def cR (r : Except (Int × Int) (List Comp)) : List Comp × Int × Int := match r with | .ok l => (l, 0, 0) | .error e => ([], e.1, e.2)
def cE (r : Except (Int × Int) (List Comp)) : Err := match r with | .ok _ => .nil | .error e => .fault e.2 e.1
end Go.Co
end
section
namespace Go.Co
open Go Go.Wk Go.Wl Go.Rx Go.Fo Go.Li
theorem short_of {L : List Row} (h : ∀ r ∈ L.dropLast, r.Text.length ≤ 5000) (hl : (L.getLastD default).Text.length ≤ 5000) : ∀ r ∈ L, r.Text.length ≤ 5000 := by
  intro r hr
  by_cases hn : L = []
  · subst hn; cases hr
  · rw [← List.dropLast_concat_getLast hn, List.mem_append, List.mem_singleton] at hr
    rcases hr with hr | rfl
    · exact h r hr
    · rw [List.getLastD_eq_getLast?, List.getLast?_eq_some_getLast hn] at hl
      exact hl
theorem uGo_short : ∀ (ls : List Str) (a : Int) (out : List Row) (o : Bool) (rows : List Row), (∀ r ∈ out, r.Text.length ≤ 5000) → out.length ≤ 1000 → uGo ls a out o = .ok rows → rows.length ≤ 1000 ∧ ∀ r ∈ rows, r.Text.length ≤ 5000
  | [], _, out, _, rows, h1, h2, h => by
    unfold uGo at h; cases h; exact ⟨h2, h1⟩
  | l :: ls, a, out, o, rows, h1, h2, h => by
    rw [uGo] at h
    cases hs : uStep a l out o with
    | error e => rw [hs] at h; cases h
    | ok q =>
      obtain ⟨out', o'⟩ := q
      rw [hs] at h
      simp only at h
      have key : (∀ r ∈ out', r.Text.length ≤ 5000) ∧ out'.length ≤ 1000 := by
        unfold uStep at hs
        split at hs
        · cases hs; exact ⟨h1, h2⟩
        · split at hs
          · split at hs
            · obtain ⟨rfl, -, k1, k2⟩ := uTop_in hs
              refine ⟨short_of (fun r hr => ?_) k1, k2⟩
              unfold lastAdd at hr
              rw [List.dropLast_concat] at hr
              exact h1 r ((List.dropLast_sublist _).subset hr)
            · cases hs
          · obtain ⟨rfl, -, k1, k2⟩ := uTop_in hs
            refine ⟨short_of (fun r hr => ?_) k1, k2⟩
            rw [List.dropLast_concat] at hr
            exact h1 r hr
      exact uGo_short ls _ out' o' rows key.1 key.2 h
theorem unfold_short {s : Str} {rows : List Row} (h : unfoldS s = .ok rows) : rows.length ≤ 1000 ∧ ∀ r ∈ rows, r.Text.length ≤ 5000 :=
  uGo_short _ _ _ _ _ (fun r hr => by cases hr) (by simp) h
theorem ix_mem {α : Type} [Inhabited α] {l : List α} {x : Int} (h0 : 0 ≤ x) (h1 : x < l.length) : ix l x ∈ l := by
  have : x.toNat < l.length := by omega
  unfold ix
  rw [List.getD_eq_getElem?_getD, List.getElem?_eq_getElem this]
  exact List.getElem_mem this
theorem drop_ix {α : Type} [Inhabited α] {l : List α} {x : Int} (h0 : 0 ≤ x) (h1 : x < l.length) : l.drop x.toNat = ix l x :: l.drop (x + 1).toNat := by
  have : x.toNat < l.length := by omega
  rw [show (x + 1).toNat = x.toNat + 1 by omega]
  unfold ix
  rw [List.getD_eq_getElem?_getD, List.getElem?_eq_getElem this, Option.getD_some]
  exact List.drop_eq_getElem_cons this
section
variable (rows : List Row) (R : Except (Int × Int) (List Comp))
def InvC (x : Int) (out : List Comp) (st : List Frm) : Prop :=
  (0 ≤ x ∧ x ≤ rows.length ∧ (out.length : Int) ≤ x ∧ ∀ f ∈ st, (f.1.Props.length : Int) ≤ x ∧ (f.1.Comps.length : Int) ≤ x) ∧ R = goC (rows.drop x.toNat) st out
variable {rows R} {x : Int} {out : List Comp} {st : List Frm} {c d : Comp} {b b' : Int}
theorem InvC.pp (h : InvC rows R x out st) (hx : x < rows.length) (hr : ∀ r ∈ rows, r.Text.length ≤ 5000) : (ix rows x).Text.length ≤ 5000 ∧ (parseS (ix rows x).Text).1.Value.length ≤ 5000 := by
  have := hr _ (ix_mem h.1.1 hx)
  exact ⟨this, (parse_small this).value⟩
theorem InvC.next (h : InvC rows R x out st) (hx : x < rows.length) : R = goC (ix rows x :: rows.drop (x + 1).toNat) st out := by rw [← drop_ix h.1.1 hx]; exact h.2
theorem InvC.bad (h : InvC rows R x out st) (hx : x < rows.length) (he : (parseS (ix rows x).Text).2 ≠ .nil) : [] = (cR R).1 ∧ atE (ix rows x).At (parseS (ix rows x).Text).2 = cE R := by
  obtain ⟨-, n, e1, -⟩ := parse_err he
  rw [h.next hx, goC, if_pos he, e1]
  exact ⟨rfl, rfl⟩
theorem InvC.stepE (h : InvC rows R x out st) (hx : x < rows.length) (ho : ¬ (parseS (ix rows x).Text).2 ≠ .nil) {n : Int} (hs : stepC st out (ix rows x).At (parseS (ix rows x).Text).1 = .error (n, (ix rows x).At)) : [] = (cR R).1 ∧ atE (ix rows x).At (.no n) = cE R := by
  rw [h.next hx, goC, if_neg ho, hs]
  exact ⟨rfl, rfl⟩
theorem InvC.stepO (h : InvC rows R x out st) (hx : x < rows.length) (ho : ¬ (parseS (ix rows x).Text).2 ≠ .nil) {st' : List Frm} {out' : List Comp} (hs : stepC st out (ix rows x).At (parseS (ix rows x).Text).1 = .ok (st', out'))
    (h1 : (out'.length : Int) ≤ x + 1) (h2 : ∀ f ∈ st', (f.1.Props.length : Int) ≤ x + 1 ∧ (f.1.Comps.length : Int) ≤ x + 1) : InvC rows R (x + 1) out' st' := by
  have h0 := h.1.1
  refine ⟨⟨by omega, by omega, h1, h2⟩, ?_⟩
  rw [h.next hx, goC, if_neg ho, hs]
theorem named_nil {p : Prp} : (namedS p).2 ≠ .nil ↔ nameP p = [] := by
  unfold namedS
  split
  · rename_i h; exact ⟨fun _ => h, fun _ h => by cases h⟩
  · rename_i h; exact ⟨fun hh => absurd rfl hh, fun hh => absurd hh h⟩
theorem named_err {p : Prp} (h : (namedS p).2 ≠ .nil) : (namedS p).2 = .no 11 := by
  have := named_nil.1 h
  unfold namedS; rw [if_pos this]
theorem named_fst {p : Prp} : (namedS p).1 = nameP p := by
  unfold namedS
  split
  · rename_i h; exact h.symm
  · rfl
theorem InvC.fr (h : InvC rows R x out st) : ∀ f ∈ st, (f.1.Props.length : Int) ≤ x + 1 ∧ (f.1.Comps.length : Int) ≤ x + 1 := fun f hf => by
  have := h.1.2.2.2 f hf; omega
theorem InvC.begE (h : InvC rows R x out st) (hx : x < rows.length) (ho : ¬ (parseS (ix rows x).Text).2 ≠ .nil) (hB : (parseS (ix rows x).Text).1.Name = sBEGIN) (hn : (namedS (parseS (ix rows x).Text).1).2 ≠ .nil) : [] = (cR R).1 ∧ atE (ix rows x).At (namedS (parseS (ix rows x).Text).1).2 = cE R := by
  rw [named_err hn]
  exact h.stepE hx ho (by unfold stepC; rw [if_pos hB, if_pos (named_nil.1 hn)])
theorem InvC.begD (h : InvC rows R x out st) (hx : x < rows.length) (ho : ¬ (parseS (ix rows x).Text).2 ≠ .nil) (hB : (parseS (ix rows x).Text).1.Name = sBEGIN) (hn : ¬ (namedS (parseS (ix rows x).Text).1).2 ≠ .nil) (hl : 6 ≤ st.length) : [] = (cR R).1 ∧ atE (ix rows x).At (.no 12) = cE R :=
  h.stepE hx ho (by unfold stepC; rw [if_pos hB, if_neg (fun e => hn (named_nil.2 e)), if_pos (by omega)])
theorem InvC.beg (h : InvC rows R x out st) (hx : x < rows.length) (ho : ¬ (parseS (ix rows x).Text).2 ≠ .nil) (hB : (parseS (ix rows x).Text).1.Name = sBEGIN) (hn : ¬ (namedS (parseS (ix rows x).Text).1).2 ≠ .nil) (hl : st.length < 6) :
    InvC rows R (x + 1) out ((.mk (namedS (parseS (ix rows x).Text).1).1 [] [], (ix rows x).At) :: st) := by
  have h0 := h.1.1; have h1 := h.1.2.2.1
  refine h.stepO hx ho (by unfold stepC; rw [if_pos hB, if_neg (fun e => hn (named_nil.2 e)), if_neg (by omega), named_fst]) (by omega) fun f hf => ?_
  rcases List.mem_cons.1 hf with rfl | hf
  · show ((([] : List Prp).length : Int) ≤ x + 1) ∧ ((([] : List Comp).length : Int) ≤ x + 1)
    simp only [List.length_nil]; omega
  · exact h.fr f hf
theorem InvC.none (h : InvC rows R x out []) (hx : x < rows.length) (ho : ¬ (parseS (ix rows x).Text).2 ≠ .nil) (hB : ¬ (parseS (ix rows x).Text).1.Name = sBEGIN) : [] = (cR R).1 ∧ atE (ix rows x).At (.no 11) = cE R :=
  h.stepE hx ho (by unfold stepC; rw [if_neg hB])
theorem InvC.endE (h : InvC rows R x out st) (hx : x < rows.length) (ho : ¬ (parseS (ix rows x).Text).2 ≠ .nil) (hB : ¬ (parseS (ix rows x).Text).1.Name = sBEGIN) (hE : (parseS (ix rows x).Text).1.Name = sEND) (hn : (namedS (parseS (ix rows x).Text).1).2 ≠ .nil) : [] = (cR R).1 ∧ atE (ix rows x).At (namedS (parseS (ix rows x).Text).1).2 = cE R := by
  rw [named_err hn]
  refine h.stepE hx ho ?_
  unfold stepC
  rw [if_neg hB]
  cases st with
  | nil => rfl
  | cons f st => obtain ⟨c, b⟩ := f; simp only; rw [if_pos hE, if_pos (.inl (named_nil.1 hn))]
theorem InvC.endN (h : InvC rows R x out ((c, b) :: st)) (hx : x < rows.length) (ho : ¬ (parseS (ix rows x).Text).2 ≠ .nil) (hB : ¬ (parseS (ix rows x).Text).1.Name = sBEGIN) (hE : (parseS (ix rows x).Text).1.Name = sEND ∧ c.Name ≠ (namedS (parseS (ix rows x).Text).1).1) : [] = (cR R).1 ∧ atE (ix rows x).At (.no 11) = cE R := by
  refine h.stepE hx ho ?_
  unfold stepC
  rw [if_neg hB]
  simp only
  rw [if_pos hE.1, if_pos (.inr fun e => hE.2 (by rw [named_fst, e]))]
theorem InvC.prop (h : InvC rows R x out ((c, b) :: st)) (hx : x < rows.length) (ho : ¬ (parseS (ix rows x).Text).2 ≠ .nil) (hB : ¬ (parseS (ix rows x).Text).1.Name = sBEGIN) (hE : (parseS (ix rows x).Text).1.Name ≠ sEND) :
    InvC rows R (x + 1) out ((.mk c.Name (c.Props ++ [(parseS (ix rows x).Text).1]) c.Comps, b) :: st) := by
  have h0 := h.1.1; have h1 := h.1.2.2.1; have h2 := h.1.2.2.2 _ (List.mem_cons_self ..)
  refine h.stepO hx ho (by unfold stepC; rw [if_neg hB]; simp only; rw [if_neg hE]; rfl) (by omega) fun f hf => ?_
  rcases List.mem_cons.1 hf with rfl | hf
  · show (((c.Props ++ [_]).length : Int) ≤ x + 1) ∧ ((c.Comps.length : Int) ≤ x + 1)
    simp only [List.length_append, List.length_cons, List.length_nil] at h2 ⊢; omega
  · exact h.fr f (List.mem_cons_of_mem _ hf)
theorem InvC.pop1 (h : InvC rows R x out [(c, b)]) (hx : x < rows.length) (ho : ¬ (parseS (ix rows x).Text).2 ≠ .nil) (hB : ¬ (parseS (ix rows x).Text).1.Name = sBEGIN) (hE : (parseS (ix rows x).Text).1.Name = sEND) (hn : ¬ (namedS (parseS (ix rows x).Text).1).2 ≠ .nil) (he : ¬ ((parseS (ix rows x).Text).1.Name = sEND ∧ c.Name ≠ (namedS (parseS (ix rows x).Text).1).1)) :
    InvC rows R (x + 1) (out ++ [c]) [] := by
  have h0 := h.1.1; have h1 := h.1.2.2.1
  have hc : c.Name = nameP (parseS (ix rows x).Text).1 := Classical.byContradiction fun e => he ⟨hE, by rw [named_fst]; exact e⟩
  refine h.stepO hx ho (by unfold stepC; rw [if_neg hB]; simp only; rw [if_pos hE, if_neg (fun hh => by rcases hh with hh | hh; exact hn (named_nil.2 hh); exact hh hc.symm)]) (by simp only [List.length_append, List.length_cons, List.length_nil]; omega) fun f hf => (by cases hf)
theorem InvC.pop (h : InvC rows R x out ((c, b) :: (d, b') :: st)) (hx : x < rows.length) (ho : ¬ (parseS (ix rows x).Text).2 ≠ .nil) (hB : ¬ (parseS (ix rows x).Text).1.Name = sBEGIN) (hE : (parseS (ix rows x).Text).1.Name = sEND) (hn : ¬ (namedS (parseS (ix rows x).Text).1).2 ≠ .nil) (he : ¬ ((parseS (ix rows x).Text).1.Name = sEND ∧ c.Name ≠ (namedS (parseS (ix rows x).Text).1).1)) :
    InvC rows R (x + 1) out ((.mk d.Name d.Props (d.Comps ++ [c]), b') :: st) := by
  have h0 := h.1.1; have h1 := h.1.2.2.1; have h2 := h.1.2.2.2 _ (List.mem_cons_of_mem _ (List.mem_cons_self ..))
  have hc : c.Name = nameP (parseS (ix rows x).Text).1 := Classical.byContradiction fun e => he ⟨hE, by rw [named_fst]; exact e⟩
  refine h.stepO hx ho (by unfold stepC; rw [if_neg hB]; simp only; rw [if_pos hE, if_neg (fun hh => by rcases hh with hh | hh; exact hn (named_nil.2 hh); exact hh hc.symm)]; rfl) (by omega) fun f hf => ?_
  rcases List.mem_cons.1 hf with rfl | hf
  · show ((d.Props.length : Int) ≤ x + 1) ∧ (((d.Comps ++ [c]).length : Int) ≤ x + 1)
    simp only [List.length_append, List.length_cons, List.length_nil] at h2 ⊢; omega
  · exact h.fr f (List.mem_cons_of_mem _ (List.mem_cons_of_mem _ hf))
theorem set_last {α : Type} {l : List α} {z c : α} : (l ++ [z]).set (l.length : Int).toNat c = l ++ [c] := by
  rw [Int.toNat_natCast, List.set_append_right _ _ (Nat.le_refl _), Nat.sub_self]; rfl
theorem InvC.pop0 (h : InvC rows R x out ((c, b) :: (d, b') :: st)) (hx : x < rows.length) (ho : ¬ (parseS (ix rows x).Text).2 ≠ .nil) (hB : ¬ (parseS (ix rows x).Text).1.Name = sBEGIN) (hE : (parseS (ix rows x).Text).1.Name = sEND) (hn : ¬ (namedS (parseS (ix rows x).Text).1).2 ≠ .nil) (he : ¬ ((parseS (ix rows x).Text).1.Name = sEND ∧ c.Name ≠ (namedS (parseS (ix rows x).Text).1).1)) :
    InvC rows R (x + 1) out ((.mk d.Name d.Props ((d.Comps ++ [Comp.mk [] [] []]).set (d.Comps.length : Int).toNat c), b') :: st) := by
  rw [set_last]; exact h.pop hx ho hB hE hn he
theorem InvC.fin0 (h : InvC rows R x out []) (hx : ¬ x < rows.length) : out = (cR R).1 ∧ Err.nil = cE R := by
  have h0 := h.1
  have e := h.2
  rw [List.drop_eq_nil_of_le (by omega), goC] at e
  rw [e]; exact ⟨rfl, rfl⟩
theorem InvC.fin (h : InvC rows R x out ((c, b) :: st)) (hx : ¬ x < rows.length) : [] = (cR R).1 ∧ atE b (.no 11) = cE R := by
  have h0 := h.1
  have e := h.2
  rw [List.drop_eq_nil_of_le (by omega), goC] at e
  rw [e]; exact ⟨rfl, rfl⟩
theorem InvC.less (h : InvC rows R x out st) (hx : x < rows.length) : ((rows.length : Int) - (x + 1)).toNat < ((rows.length : Int) - x).toNat := by
  have := h.1.1; omega
end
end Go.Co
end
section
namespace Go.Proofs.YtadgfmmmdhlljaaDoor
open Go Go.Wk Go.Wl Go.Rx Go.Fo Go.Li Go.Co 
noncomputable def EW : Env := (((((N22.addC 28 c28).addC 29 c29).addL 30 c30).addL 77 c77).addL 67 cUp)
theorem EW_ok : EnvOK EW := (((((N22_ok.addC Tryd.call28 (fun a nx c h hp ho => ⟨fun ρ Z w vs h1 h2 _ h3 => (c28_ok a nx c h hp ho).run ρ Z w vs h1 h2 trivial h3⟩)).addC Tryd.call29 (fun a nx c h hp ho => ⟨fun ρ Z w vs h1 h2 _ h3 => (c29_ok a nx c h hp ho).run ρ Z w vs h1 h2 trivial h3⟩)).addL Tryd.call30 (fun a q h ho D w vs hD _ ha => c30_ok a q h ho D w vs hD trivial ha)).addL Tryd.call77 (fun a q h ho D w vs hD _ ha => c77_ok a q h ho D w vs hD trivial ha)).addL Tryd.call67 (fun a q h _ D w vs hD _ ha => cUp_of up_ok a q h D w vs ha))
end Go.Proofs.YtadgfmmmdhlljaaDoor
end
section
namespace Go.Proofs.YtadgfmmmdhlljaaDoor
open Go Go.Wk Go.Wl Go.Rx Go.Fo Go.Li Go.Co 
def an84 : Nat → Ann := fun | 84 => ⟨15, fun _ => none, fun  | _ => none⟩ | _ => ⟨0, fun _ => none, fun _ => none⟩
def V84 (a : Int) (e : Err) (Q : Err → Prop) : Prop :=
(e.num.isSome = true → Q (Err.fault a (e.num.getD (0 : Int)))) ∧ (¬e.num.isSome = true → Q e)
set_option maxRecDepth 100000 in
theorem V84_ok {a : Int} {e : Err} {Q : Err → Prop} (h : V84 a e Q) : vcFun (E := EW) (inlN an84 2) (an84 84) Tryd.f84 [.int .i64 a, .err e] [] [] 0 (resP EW [.err] Q) := Eq.mp (show V84 a e Q = vcFun (E := EW) (inlN an84 2) (an84 84) Tryd.f84 [.int .i64 a, .err e] [] [] 0 (resP EW [.err] Q) by kernel_rfl) h
theorem p84 (a : Int) (e : Err)  : V84 a e (fun y0 => y0 = atE a e) := by
  unfold V84 atE
  refine ⟨fun h => ?_, fun h => ?_⟩
  · cases hn : e.num with
    | none => rw [hn] at h; cases h
    | some n => rfl
  · cases hn : e.num with
    | none => rfl
    | some n => rw [hn] at h; exact absurd rfl h
def c84 (a : List (SV U)) (nx : Nat) : Option (CR U) := match a with | [.int .i64 a, .err e] => some ⟨[], [], .err (atE a e), []⟩ | _ => none
set_option maxRecDepth 100000 in
theorem c84_ok (args : List (SV U)) (nx : Nat) (c : CR U) (h : c84 args nx = some c) (hp : args.all pureS = true) (ho : allP c.ob) : ConOK EW.P EW.N EW.T EW.G 84 args nx c := by
  unfold c84 at h
  split at h
  · rename_i a e
    cases h
    exact con1 EW_ok (inlN_ok EW_ok an84 2) Tryd.func84 (k := .err) (x := atE a e) hp (V84_ok (p84 a e ))
  · cases h
noncomputable def N84 : Env := EW.addC 84 c84
theorem N84_ok : EnvOK N84 := EW_ok.addC Tryd.call84 c84_ok
end Go.Proofs.YtadgfmmmdhlljaaDoor
end
section
namespace Go.Proofs.YtadgfmmmdhlljaaDoor
open Go Go.Wk Go.Wl Go.Rx Go.Fo Go.Li Go.Co 
def an85 : Nat → Ann := fun | 85 => ⟨45, fun _ => none, fun  | _ => none⟩ | _ => ⟨0, fun _ => none, fun _ => none⟩
def V85 (p : Prp) (Q : Str → Err → Prop) : Prop :=
List.length p.Value + [(58 : UInt8)].length ≤ (9223372036854775807 : Nat) ∧
  List.length (p.Value ++ [(58 : UInt8)]) ≤ (100000000 : Nat) ∧
    ((((((parseS (p.Value ++ [(58 : UInt8)])).snd ≠ Err.nil ∨ p.Group ≠ []) ∨ (0 : Int) < (↑p.Params.length : Int)) ∨ (parseS (p.Value ++ [(58 : UInt8)])).fst.Group ≠ []) ∨
            (0 : Int) < (↑(parseS (p.Value ++ [(58 : UInt8)])).fst.Params.length : Int)) ∨
          (parseS (p.Value ++ [(58 : UInt8)])).fst.Value ≠ [] →
        Q [] (Err.no (11 : Int))) ∧
      (¬((((((parseS (p.Value ++ [(58 : UInt8)])).snd ≠ Err.nil ∨ p.Group ≠ []) ∨ (0 : Int) < (↑p.Params.length : Int)) ∨ (parseS (p.Value ++ [(58 : UInt8)])).fst.Group ≠ []) ∨
              (0 : Int) < (↑(parseS (p.Value ++ [(58 : UInt8)])).fst.Params.length : Int)) ∨
            (parseS (p.Value ++ [(58 : UInt8)])).fst.Value ≠ []) →
        Q (parseS (p.Value ++ [(58 : UInt8)])).fst.Name Err.nil)
set_option maxRecDepth 100000 in
theorem V85_ok {p : Prp} {Q : Str → Err → Prop} (h : V85 p Q) : vcFun (E := N84) (inlN an85 2) (an85 85) Tryd.f85 [.agg [.str p.Group, .str p.Name, .sl (N := U) 59 p.Params, .str p.Value]] [] [] 0 (resP N84 [.str, .err] Q) := Eq.mp (show V85 p Q = vcFun (E := N84) (inlN an85 2) (an85 85) Tryd.f85 [.agg [.str p.Group, .str p.Name, .sl (N := U) 59 p.Params, .str p.Value]] [] [] 0 (resP N84 [.str, .err] Q) by kernel_rfl) h
theorem p85 (p : Prp) (hs : p.Value.length ≤ 10000000) : V85 p (fun y0 y1 => y0 = (namedS p).1 ∧ y1 = (namedS p).2) := by
  unfold V85
  refine ⟨by simp; omega, by rw [List.length_append]; simp; omega, ?_⟩
  have hl : ∀ l : List Param, (0 : Int) < (l.length : Int) ↔ l ≠ [] := fun l => by cases l <;> simp
  rcases named_ok p with ⟨h, e⟩ | ⟨h, e⟩
  · refine ⟨fun _ => by rw [e]; exact ⟨rfl, rfl⟩, fun hn => absurd ?_ hn⟩
    simp only [hl]
    simp only [or_assoc]; exact h
  · refine ⟨fun hh => ?_, fun _ => by rw [e]; exact ⟨rfl, rfl⟩⟩
    simp only [hl] at hh
    obtain ⟨h1, h2, h3, h4, h5, h6⟩ := h
    rcases hh with ((((hh | hh) | hh) | hh) | hh) | hh
    · exact absurd h1 hh
    · exact absurd h2 hh
    · exact absurd h3 hh
    · exact absurd h4 hh
    · exact absurd h5 hh
    · exact absurd h6 hh
def c85s (p : Prp) (nx : Nat) : CR U := ⟨[List.length (α := UInt8) p.Value ≤ 10000000], [], .tup [.str ((namedS p).1), .err ((namedS p).2)], []⟩
def c85 (a : List (SV U)) (nx : Nat) : Option (CR U) := match a with | [.agg [.str p0, .str p1, .sl 59 p2, .str p3]] => some (c85s (⟨p0, p1, p2, p3⟩) nx) | _ => none
set_option maxRecDepth 100000 in
theorem c85_ok (args : List (SV U)) (nx : Nat) (c : CR U) (h : c85 args nx = some c) (hp : args.all pureS = true) (ho : allP c.ob) : ConOK N84.P N84.N N84.T N84.G 85 args nx c := by
  unfold c85 at h
  split at h
  · rename_i p0 p1 p2 p3
    cases h
    exact con2 N84_ok (inlN_ok N84_ok an85 2) Tryd.func85 (k1 := .str) (k2 := .err) rfl hp (V85_ok (p85 (⟨p0, p1, p2, p3⟩) ho.1))
  · cases h
noncomputable def N85 : Env := N84.addC 85 c85
theorem N85_ok : EnvOK N85 := N84_ok.addC Tryd.call85 c85_ok
end Go.Proofs.YtadgfmmmdhlljaaDoor
end
section
namespace Go.Proofs.YtadgfmmmdhlljaaDoor
open Go Go.Wk Go.Wl Go.Rx Go.Fo Go.Li Go.Co 
noncomputable def NI86 : Env := N85.addI 86 Tryd.f86
theorem NI86_ok : EnvOK NI86 := N85_ok.addI Tryd.call86 Tryd.func86
end Go.Proofs.YtadgfmmmdhlljaaDoor
end
section
namespace Go.Proofs.YtadgfmmmdhlljaaDoor
open Go Go.Wk Go.Wl Go.Rx Go.Fo Go.Li Go.Co 
def an39 : Nat → Ann := fun | 39 => ⟨177, fun | 7 => some ⟨[21, 22], [.slot 23 (.int .i64), .slot 6 (.acc 68), .chain 7 0 120 [.str, .acc 45, .acc 68, .int .i64], .alt, .slot 23 (.int .i64), .slot 6 (.acc 68), .chain 7 1 120 [.str, .acc 45, .acc 68, .int .i64], .alt, .slot 23 (.int .i64), .slot 6 (.acc 68), .chain 7 2 120 [.str, .acc 45, .acc 68, .int .i64], .alt, .slot 23 (.int .i64), .slot 6 (.acc 68), .chain 7 3 120 [.str, .acc 45, .acc 68, .int .i64], .alt, .slot 23 (.int .i64), .slot 6 (.acc 68), .chain 7 4 120 [.str, .acc 45, .acc 68, .int .i64], .alt, .slot 23 (.int .i64), .slot 6 (.acc 68), .chain 7 5 120 [.str, .acc 45, .acc 68, .int .i64], .alt, .slot 23 (.int .i64), .slot 6 (.acc 68), .chain 7 6 120 [.str, .acc 45, .acc 68, .int .i64]]⟩ | _ => none, fun _ => none⟩ | 86 => ⟨13, fun | 2 => some ⟨[], [.unr 8]⟩ | _ => none, fun _ => none⟩ | _ => ⟨0, fun _ => none, fun _ => none⟩
def V39 (s : Str) (Q : List Comp → Err → Prop) : Prop :=
List.length s ≤ (100000 : Nat) ∧ (uE (unfoldS s) ≠ Err.nil → Q [] (uE (unfoldS s))) ∧ (¬uE (unfoldS s) ≠ Err.nil → ∃ (I : Int → List Comp → Prop), ∃ (m : Int → List Comp → Nat), ∃ (I_1 : Int → List Comp → List UInt8 → List Prp → List Comp → Int → Prop), ∃ (m_1 : Int → List Comp → List UInt8 → List Prp → List Comp → Int → Nat), ∃ (I_2 : Int → List Comp → List UInt8 → List Prp → List Comp → Int → List UInt8 → List Prp → List Comp → Int → Prop), ∃ (m_2 : Int → List Comp → List UInt8 → List Prp → List Comp → Int → List UInt8 → List Prp → List Comp → Int → Nat), ∃ (I_3 : Int → List Comp → List UInt8 → List Prp → List Comp → Int → List UInt8 → List Prp → List Comp → Int → List UInt8 → List Prp → List Comp → Int → Prop), ∃ (m_3 : Int → List Comp → List UInt8 → List Prp → List Comp → Int → List UInt8 → List Prp → List Comp → Int → List UInt8 → List Prp → List Comp → Int → Nat), ∃ (I_4 : Int → List Comp → List UInt8 → List Prp → List Comp → Int → List UInt8 → List Prp → List Comp → Int → List UInt8 → List Prp → List Comp → Int → List UInt8 → List Prp → List Comp → Int → Prop), ∃ (m_4 : Int → List Comp → List UInt8 → List Prp → List Comp → Int → List UInt8 → List Prp → List Comp → Int → List UInt8 → List Prp → List Comp → Int → List UInt8 → List Prp → List Comp → Int → Nat), ∃ (I_5 : Int → List Comp → List UInt8 → List Prp → List Comp → Int → List UInt8 → List Prp → List Comp → Int → List UInt8 → List Prp → List Comp → Int → List UInt8 → List Prp → List Comp → Int → List UInt8 → List Prp → List Comp → Int → Prop), ∃ (m_5 : Int → List Comp → List UInt8 → List Prp → List Comp → Int → List UInt8 → List Prp → List Comp → Int → List UInt8 → List Prp → List Comp → Int → List UInt8 → List Prp → List Comp → Int → List UInt8 → List Prp → List Comp → Int → Nat), ∃ (I_6 : Int → List Comp → List UInt8 → List Prp → List Comp → Int → List UInt8 → List Prp → List Comp → Int → List UInt8 → List Prp → List Comp → Int → List UInt8 → List Prp → List Comp → Int → List UInt8 → List Prp → List Comp → Int → List UInt8 → List Prp → List Comp → Int → Prop), ∃ (m_6 : Int → List Comp → List UInt8 → List Prp → List Comp → Int → List UInt8 → List Prp → List Comp → Int → List UInt8 → List Prp → List Comp → Int → List UInt8 → List Prp → List Comp → Int → List UInt8 → List Prp → List Comp → Int → List UInt8 → List Prp → List Comp → Int → Nat), I (0 : Int) [] ∧ (∀ (x : Int) (x_1 : List Comp), I x x_1 → (x < (↑(uR (unfoldS s)).fst.length : Int) → (0 : Int) ≤ x ∧ x < (↑(uR (unfoldS s)).fst.length : Int) ∧ (in64 (ix (uR (unfoldS s)).fst x).At → List.length (ix (uR (unfoldS s)).fst x).Text ≤ (100000000 : Nat) ∧ ((parseS (ix (uR (unfoldS s)).fst x).Text).snd ≠ Err.nil → Q [] (atE (ix (uR (unfoldS s)).fst x).At (parseS (ix (uR (unfoldS s)).fst x).Text).snd)) ∧ (¬(parseS (ix (uR (unfoldS s)).fst x).Text).snd ≠ Err.nil → ((parseS (ix (uR (unfoldS s)).fst x).Text).fst.Name = sBEGIN → ((parseS (ix (uR (unfoldS s)).fst x).Text).fst.Name = sBEGIN → List.length (parseS (ix (uR (unfoldS s)).fst x).Text).fst.Value ≤ (10000000 : Nat) ∧ ((namedS (Prp.mk (parseS (ix (uR (unfoldS s)).fst x).Text).fst.Group (parseS (ix (uR (unfoldS s)).fst x).Text).fst.Name (parseS (ix (uR (unfoldS s)).fst x).Text).fst.Params (parseS (ix (uR (unfoldS s)).fst x).Text).fst.Value)).snd ≠ Err.nil → Q [] (atE (ix (uR (unfoldS s)).fst x).At (namedS (Prp.mk (parseS (ix (uR (unfoldS s)).fst x).Text).fst.Group (parseS (ix (uR (unfoldS s)).fst x).Text).fst.Name (parseS (ix (uR (unfoldS s)).fst x).Text).fst.Params (parseS (ix (uR (unfoldS s)).fst x).Text).fst.Value)).snd)) ∧ (¬(namedS (Prp.mk (parseS (ix (uR (unfoldS s)).fst x).Text).fst.Group (parseS (ix (uR (unfoldS s)).fst x).Text).fst.Name (parseS (ix (uR (unfoldS s)).fst x).Text).fst.Params (parseS (ix (uR (unfoldS s)).fst x).Text).fst.Value)).snd ≠ Err.nil → ((parseS (ix (uR (unfoldS s)).fst x).Text).fst.Name = sBEGIN → in64 ((0 : Int) + (1 : Int)) ∧ ((6 : Int) < (0 : Int) + (1 : Int) → Q [] (atE (ix (uR (unfoldS s)).fst x).At (Err.no (12 : Int)))) ∧ (¬(6 : Int) < (0 : Int) + (1 : Int) → in64 (x + (1 : Int)) ∧ I_1 (x + (1 : Int)) x_1 (namedS (Prp.mk (parseS (ix (uR (unfoldS s)).fst x).Text).fst.Group (parseS (ix (uR (unfoldS s)).fst x).Text).fst.Name (parseS (ix (uR (unfoldS s)).fst x).Text).fst.Params (parseS (ix (uR (unfoldS s)).fst x).Text).fst.Value)).fst [] [] (ix (uR (unfoldS s)).fst x).At ∧ m_1 (x + (1 : Int)) x_1 (namedS (Prp.mk (parseS (ix (uR (unfoldS s)).fst x).Text).fst.Group (parseS (ix (uR (unfoldS s)).fst x).Text).fst.Name (parseS (ix (uR (unfoldS s)).fst x).Text).fst.Params (parseS (ix (uR (unfoldS s)).fst x).Text).fst.Value)).fst [] [] (ix (uR (unfoldS s)).fst x).At < m x x_1)) ∧ (¬(parseS (ix (uR (unfoldS s)).fst x).Text).fst.Name = sBEGIN → Q [] (atE (ix (uR (unfoldS s)).fst x).At (Err.no (11 : Int)))))) ∧ (¬(parseS (ix (uR (unfoldS s)).fst x).Text).fst.Name = sBEGIN → Q [] (atE (ix (uR (unfoldS s)).fst x).At (Err.no (11 : Int))))) ∧ (¬(parseS (ix (uR (unfoldS s)).fst x).Text).fst.Name = sBEGIN → ((parseS (ix (uR (unfoldS s)).fst x).Text).fst.Name = sEND → List.length (parseS (ix (uR (unfoldS s)).fst x).Text).fst.Value ≤ (10000000 : Nat) ∧ ((namedS (Prp.mk (parseS (ix (uR (unfoldS s)).fst x).Text).fst.Group (parseS (ix (uR (unfoldS s)).fst x).Text).fst.Name (parseS (ix (uR (unfoldS s)).fst x).Text).fst.Params (parseS (ix (uR (unfoldS s)).fst x).Text).fst.Value)).snd ≠ Err.nil → Q [] (atE (ix (uR (unfoldS s)).fst x).At (namedS (Prp.mk (parseS (ix (uR (unfoldS s)).fst x).Text).fst.Group (parseS (ix (uR (unfoldS s)).fst x).Text).fst.Name (parseS (ix (uR (unfoldS s)).fst x).Text).fst.Params (parseS (ix (uR (unfoldS s)).fst x).Text).fst.Value)).snd)) ∧ (¬(namedS (Prp.mk (parseS (ix (uR (unfoldS s)).fst x).Text).fst.Group (parseS (ix (uR (unfoldS s)).fst x).Text).fst.Name (parseS (ix (uR (unfoldS s)).fst x).Text).fst.Params (parseS (ix (uR (unfoldS s)).fst x).Text).fst.Value)).snd ≠ Err.nil → ((parseS (ix (uR (unfoldS s)).fst x).Text).fst.Name = sBEGIN → in64 ((0 : Int) + (1 : Int)) ∧ ((6 : Int) < (0 : Int) + (1 : Int) → Q [] (atE (ix (uR (unfoldS s)).fst x).At (Err.no (12 : Int)))) ∧ (¬(6 : Int) < (0 : Int) + (1 : Int) → in64 (x + (1 : Int)) ∧ I_1 (x + (1 : Int)) x_1 (namedS (Prp.mk (parseS (ix (uR (unfoldS s)).fst x).Text).fst.Group (parseS (ix (uR (unfoldS s)).fst x).Text).fst.Name (parseS (ix (uR (unfoldS s)).fst x).Text).fst.Params (parseS (ix (uR (unfoldS s)).fst x).Text).fst.Value)).fst [] [] (ix (uR (unfoldS s)).fst x).At ∧ m_1 (x + (1 : Int)) x_1 (namedS (Prp.mk (parseS (ix (uR (unfoldS s)).fst x).Text).fst.Group (parseS (ix (uR (unfoldS s)).fst x).Text).fst.Name (parseS (ix (uR (unfoldS s)).fst x).Text).fst.Params (parseS (ix (uR (unfoldS s)).fst x).Text).fst.Value)).fst [] [] (ix (uR (unfoldS s)).fst x).At < m x x_1)) ∧ (¬(parseS (ix (uR (unfoldS s)).fst x).Text).fst.Name = sBEGIN → Q [] (atE (ix (uR (unfoldS s)).fst x).At (Err.no (11 : Int)))))) ∧ (¬(parseS (ix (uR (unfoldS s)).fst x).Text).fst.Name = sEND → Q [] (atE (ix (uR (unfoldS s)).fst x).At (Err.no (11 : Int)))))))) ∧ (¬x < (↑(uR (unfoldS s)).fst.length : Int) → Q x_1 Err.nil)) ∧ (∀ (x : Int) (x_1 : List Comp) (x_2 : List UInt8) (x_3 : List Prp) (x_4 : List Comp) (x_5 : Int), I_1 x x_1 x_2 x_3 x_4 x_5 → (x < (↑(uR (unfoldS s)).fst.length : Int) → (0 : Int) ≤ x ∧ x < (↑(uR (unfoldS s)).fst.length : Int) ∧ (in64 (ix (uR (unfoldS s)).fst x).At → List.length (ix (uR (unfoldS s)).fst x).Text ≤ (100000000 : Nat) ∧ ((parseS (ix (uR (unfoldS s)).fst x).Text).snd ≠ Err.nil → Q [] (atE (ix (uR (unfoldS s)).fst x).At (parseS (ix (uR (unfoldS s)).fst x).Text).snd)) ∧ (¬(parseS (ix (uR (unfoldS s)).fst x).Text).snd ≠ Err.nil → ((parseS (ix (uR (unfoldS s)).fst x).Text).fst.Name = sBEGIN → ((parseS (ix (uR (unfoldS s)).fst x).Text).fst.Name = sBEGIN → List.length (parseS (ix (uR (unfoldS s)).fst x).Text).fst.Value ≤ (10000000 : Nat) ∧ ((namedS (Prp.mk (parseS (ix (uR (unfoldS s)).fst x).Text).fst.Group (parseS (ix (uR (unfoldS s)).fst x).Text).fst.Name (parseS (ix (uR (unfoldS s)).fst x).Text).fst.Params (parseS (ix (uR (unfoldS s)).fst x).Text).fst.Value)).snd ≠ Err.nil → Q [] (atE (ix (uR (unfoldS s)).fst x).At (namedS (Prp.mk (parseS (ix (uR (unfoldS s)).fst x).Text).fst.Group (parseS (ix (uR (unfoldS s)).fst x).Text).fst.Name (parseS (ix (uR (unfoldS s)).fst x).Text).fst.Params (parseS (ix (uR (unfoldS s)).fst x).Text).fst.Value)).snd)) ∧ (¬(namedS (Prp.mk (parseS (ix (uR (unfoldS s)).fst x).Text).fst.Group (parseS (ix (uR (unfoldS s)).fst x).Text).fst.Name (parseS (ix (uR (unfoldS s)).fst x).Text).fst.Params (parseS (ix (uR (unfoldS s)).fst x).Text).fst.Value)).snd ≠ Err.nil → ((parseS (ix (uR (unfoldS s)).fst x).Text).fst.Name = sBEGIN → in64 ((0 : Int) + (1 : Int)) ∧ in64 ((0 : Int) + (1 : Int) + (1 : Int)) ∧ ((6 : Int) < (0 : Int) + (1 : Int) + (1 : Int) → Q [] (atE (ix (uR (unfoldS s)).fst x).At (Err.no (12 : Int)))) ∧ (¬(6 : Int) < (0 : Int) + (1 : Int) + (1 : Int) → in64 (x + (1 : Int)) ∧ I_2 (x + (1 : Int)) x_1 (namedS (Prp.mk (parseS (ix (uR (unfoldS s)).fst x).Text).fst.Group (parseS (ix (uR (unfoldS s)).fst x).Text).fst.Name (parseS (ix (uR (unfoldS s)).fst x).Text).fst.Params (parseS (ix (uR (unfoldS s)).fst x).Text).fst.Value)).fst [] [] (ix (uR (unfoldS s)).fst x).At x_2 x_3 x_4 x_5 ∧ m_2 (x + (1 : Int)) x_1 (namedS (Prp.mk (parseS (ix (uR (unfoldS s)).fst x).Text).fst.Group (parseS (ix (uR (unfoldS s)).fst x).Text).fst.Name (parseS (ix (uR (unfoldS s)).fst x).Text).fst.Params (parseS (ix (uR (unfoldS s)).fst x).Text).fst.Value)).fst [] [] (ix (uR (unfoldS s)).fst x).At x_2 x_3 x_4 x_5 < m_1 x x_1 x_2 x_3 x_4 x_5)) ∧ (¬(parseS (ix (uR (unfoldS s)).fst x).Text).fst.Name = sBEGIN → ((parseS (ix (uR (unfoldS s)).fst x).Text).fst.Name = sEND ∧ x_2 ≠ (namedS (Prp.mk (parseS (ix (uR (unfoldS s)).fst x).Text).fst.Group (parseS (ix (uR (unfoldS s)).fst x).Text).fst.Name (parseS (ix (uR (unfoldS s)).fst x).Text).fst.Params (parseS (ix (uR (unfoldS s)).fst x).Text).fst.Value)).fst → Q [] (atE (ix (uR (unfoldS s)).fst x).At (Err.no (11 : Int)))) ∧ (¬((parseS (ix (uR (unfoldS s)).fst x).Text).fst.Name = sEND ∧ x_2 ≠ (namedS (Prp.mk (parseS (ix (uR (unfoldS s)).fst x).Text).fst.Group (parseS (ix (uR (unfoldS s)).fst x).Text).fst.Name (parseS (ix (uR (unfoldS s)).fst x).Text).fst.Params (parseS (ix (uR (unfoldS s)).fst x).Text).fst.Value)).fst) → ((parseS (ix (uR (unfoldS s)).fst x).Text).fst.Name ≠ sEND → (x_3.length + [Prp.mk (parseS (ix (uR (unfoldS s)).fst x).Text).fst.Group (parseS (ix (uR (unfoldS s)).fst x).Text).fst.Name (parseS (ix (uR (unfoldS s)).fst x).Text).fst.Params (parseS (ix (uR (unfoldS s)).fst x).Text).fst.Value].length) * (some (72 : Nat)).getD (0 : Nat) ≤ (140737488355328 : Nat) ∧ in64 (x + (1 : Int)) ∧ I_1 (x + (1 : Int)) x_1 x_2 (x_3 ++ [Prp.mk (parseS (ix (uR (unfoldS s)).fst x).Text).fst.Group (parseS (ix (uR (unfoldS s)).fst x).Text).fst.Name (parseS (ix (uR (unfoldS s)).fst x).Text).fst.Params (parseS (ix (uR (unfoldS s)).fst x).Text).fst.Value]) x_4 x_5 ∧ m_1 (x + (1 : Int)) x_1 x_2 (x_3 ++ [Prp.mk (parseS (ix (uR (unfoldS s)).fst x).Text).fst.Group (parseS (ix (uR (unfoldS s)).fst x).Text).fst.Name (parseS (ix (uR (unfoldS s)).fst x).Text).fst.Params (parseS (ix (uR (unfoldS s)).fst x).Text).fst.Value]) x_4 x_5 < m_1 x x_1 x_2 x_3 x_4 x_5) ∧ (¬(parseS (ix (uR (unfoldS s)).fst x).Text).fst.Name ≠ sEND → (x_1.length + [Comp.mk x_2 x_3 x_4].length) * (some (64 : Nat)).getD (0 : Nat) ≤ (140737488355328 : Nat) ∧ in64 (x + (1 : Int)) ∧ I (x + (1 : Int)) (x_1 ++ [Comp.mk x_2 x_3 x_4]) ∧ m (x + (1 : Int)) (x_1 ++ [Comp.mk x_2 x_3 x_4]) < m_1 x x_1 x_2 x_3 x_4 x_5))))) ∧ (¬(parseS (ix (uR (unfoldS s)).fst x).Text).fst.Name = sBEGIN → ((parseS (ix (uR (unfoldS s)).fst x).Text).fst.Name = sEND ∧ x_2 ≠ [] → Q [] (atE (ix (uR (unfoldS s)).fst x).At (Err.no (11 : Int)))) ∧ (¬((parseS (ix (uR (unfoldS s)).fst x).Text).fst.Name = sEND ∧ x_2 ≠ []) → ((parseS (ix (uR (unfoldS s)).fst x).Text).fst.Name ≠ sEND → (x_3.length + [Prp.mk (parseS (ix (uR (unfoldS s)).fst x).Text).fst.Group (parseS (ix (uR (unfoldS s)).fst x).Text).fst.Name (parseS (ix (uR (unfoldS s)).fst x).Text).fst.Params (parseS (ix (uR (unfoldS s)).fst x).Text).fst.Value].length) * (some (72 : Nat)).getD (0 : Nat) ≤ (140737488355328 : Nat) ∧ in64 (x + (1 : Int)) ∧ I_1 (x + (1 : Int)) x_1 x_2 (x_3 ++ [Prp.mk (parseS (ix (uR (unfoldS s)).fst x).Text).fst.Group (parseS (ix (uR (unfoldS s)).fst x).Text).fst.Name (parseS (ix (uR (unfoldS s)).fst x).Text).fst.Params (parseS (ix (uR (unfoldS s)).fst x).Text).fst.Value]) x_4 x_5 ∧ m_1 (x + (1 : Int)) x_1 x_2 (x_3 ++ [Prp.mk (parseS (ix (uR (unfoldS s)).fst x).Text).fst.Group (parseS (ix (uR (unfoldS s)).fst x).Text).fst.Name (parseS (ix (uR (unfoldS s)).fst x).Text).fst.Params (parseS (ix (uR (unfoldS s)).fst x).Text).fst.Value]) x_4 x_5 < m_1 x x_1 x_2 x_3 x_4 x_5) ∧ (¬(parseS (ix (uR (unfoldS s)).fst x).Text).fst.Name ≠ sEND → (x_1.length + [Comp.mk x_2 x_3 x_4].length) * (some (64 : Nat)).getD (0 : Nat) ≤ (140737488355328 : Nat) ∧ in64 (x + (1 : Int)) ∧ I (x + (1 : Int)) (x_1 ++ [Comp.mk x_2 x_3 x_4]) ∧ m (x + (1 : Int)) (x_1 ++ [Comp.mk x_2 x_3 x_4]) < m_1 x x_1 x_2 x_3 x_4 x_5)))) ∧ (¬(parseS (ix (uR (unfoldS s)).fst x).Text).fst.Name = sBEGIN → ((parseS (ix (uR (unfoldS s)).fst x).Text).fst.Name = sEND → List.length (parseS (ix (uR (unfoldS s)).fst x).Text).fst.Value ≤ (10000000 : Nat) ∧ ((namedS (Prp.mk (parseS (ix (uR (unfoldS s)).fst x).Text).fst.Group (parseS (ix (uR (unfoldS s)).fst x).Text).fst.Name (parseS (ix (uR (unfoldS s)).fst x).Text).fst.Params (parseS (ix (uR (unfoldS s)).fst x).Text).fst.Value)).snd ≠ Err.nil → Q [] (atE (ix (uR (unfoldS s)).fst x).At (namedS (Prp.mk (parseS (ix (uR (unfoldS s)).fst x).Text).fst.Group (parseS (ix (uR (unfoldS s)).fst x).Text).fst.Name (parseS (ix (uR (unfoldS s)).fst x).Text).fst.Params (parseS (ix (uR (unfoldS s)).fst x).Text).fst.Value)).snd)) ∧ (¬(namedS (Prp.mk (parseS (ix (uR (unfoldS s)).fst x).Text).fst.Group (parseS (ix (uR (unfoldS s)).fst x).Text).fst.Name (parseS (ix (uR (unfoldS s)).fst x).Text).fst.Params (parseS (ix (uR (unfoldS s)).fst x).Text).fst.Value)).snd ≠ Err.nil → ((parseS (ix (uR (unfoldS s)).fst x).Text).fst.Name = sBEGIN → in64 ((0 : Int) + (1 : Int)) ∧ in64 ((0 : Int) + (1 : Int) + (1 : Int)) ∧ ((6 : Int) < (0 : Int) + (1 : Int) + (1 : Int) → Q [] (atE (ix (uR (unfoldS s)).fst x).At (Err.no (12 : Int)))) ∧ (¬(6 : Int) < (0 : Int) + (1 : Int) + (1 : Int) → in64 (x + (1 : Int)) ∧ I_2 (x + (1 : Int)) x_1 (namedS (Prp.mk (parseS (ix (uR (unfoldS s)).fst x).Text).fst.Group (parseS (ix (uR (unfoldS s)).fst x).Text).fst.Name (parseS (ix (uR (unfoldS s)).fst x).Text).fst.Params (parseS (ix (uR (unfoldS s)).fst x).Text).fst.Value)).fst [] [] (ix (uR (unfoldS s)).fst x).At x_2 x_3 x_4 x_5 ∧ m_2 (x + (1 : Int)) x_1 (namedS (Prp.mk (parseS (ix (uR (unfoldS s)).fst x).Text).fst.Group (parseS (ix (uR (unfoldS s)).fst x).Text).fst.Name (parseS (ix (uR (unfoldS s)).fst x).Text).fst.Params (parseS (ix (uR (unfoldS s)).fst x).Text).fst.Value)).fst [] [] (ix (uR (unfoldS s)).fst x).At x_2 x_3 x_4 x_5 < m_1 x x_1 x_2 x_3 x_4 x_5)) ∧ (¬(parseS (ix (uR (unfoldS s)).fst x).Text).fst.Name = sBEGIN → ((parseS (ix (uR (unfoldS s)).fst x).Text).fst.Name = sEND ∧ x_2 ≠ (namedS (Prp.mk (parseS (ix (uR (unfoldS s)).fst x).Text).fst.Group (parseS (ix (uR (unfoldS s)).fst x).Text).fst.Name (parseS (ix (uR (unfoldS s)).fst x).Text).fst.Params (parseS (ix (uR (unfoldS s)).fst x).Text).fst.Value)).fst → Q [] (atE (ix (uR (unfoldS s)).fst x).At (Err.no (11 : Int)))) ∧ (¬((parseS (ix (uR (unfoldS s)).fst x).Text).fst.Name = sEND ∧ x_2 ≠ (namedS (Prp.mk (parseS (ix (uR (unfoldS s)).fst x).Text).fst.Group (parseS (ix (uR (unfoldS s)).fst x).Text).fst.Name (parseS (ix (uR (unfoldS s)).fst x).Text).fst.Params (parseS (ix (uR (unfoldS s)).fst x).Text).fst.Value)).fst) → ((parseS (ix (uR (unfoldS s)).fst x).Text).fst.Name ≠ sEND → (x_3.length + [Prp.mk (parseS (ix (uR (unfoldS s)).fst x).Text).fst.Group (parseS (ix (uR (unfoldS s)).fst x).Text).fst.Name (parseS (ix (uR (unfoldS s)).fst x).Text).fst.Params (parseS (ix (uR (unfoldS s)).fst x).Text).fst.Value].length) * (some (72 : Nat)).getD (0 : Nat) ≤ (140737488355328 : Nat) ∧ in64 (x + (1 : Int)) ∧ I_1 (x + (1 : Int)) x_1 x_2 (x_3 ++ [Prp.mk (parseS (ix (uR (unfoldS s)).fst x).Text).fst.Group (parseS (ix (uR (unfoldS s)).fst x).Text).fst.Name (parseS (ix (uR (unfoldS s)).fst x).Text).fst.Params (parseS (ix (uR (unfoldS s)).fst x).Text).fst.Value]) x_4 x_5 ∧ m_1 (x + (1 : Int)) x_1 x_2 (x_3 ++ [Prp.mk (parseS (ix (uR (unfoldS s)).fst x).Text).fst.Group (parseS (ix (uR (unfoldS s)).fst x).Text).fst.Name (parseS (ix (uR (unfoldS s)).fst x).Text).fst.Params (parseS (ix (uR (unfoldS s)).fst x).Text).fst.Value]) x_4 x_5 < m_1 x x_1 x_2 x_3 x_4 x_5) ∧ (¬(parseS (ix (uR (unfoldS s)).fst x).Text).fst.Name ≠ sEND → (x_1.length + [Comp.mk x_2 x_3 x_4].length) * (some (64 : Nat)).getD (0 : Nat) ≤ (140737488355328 : Nat) ∧ in64 (x + (1 : Int)) ∧ I (x + (1 : Int)) (x_1 ++ [Comp.mk x_2 x_3 x_4]) ∧ m (x + (1 : Int)) (x_1 ++ [Comp.mk x_2 x_3 x_4]) < m_1 x x_1 x_2 x_3 x_4 x_5))))) ∧ (¬(parseS (ix (uR (unfoldS s)).fst x).Text).fst.Name = sEND → ((parseS (ix (uR (unfoldS s)).fst x).Text).fst.Name = sEND ∧ x_2 ≠ [] → Q [] (atE (ix (uR (unfoldS s)).fst x).At (Err.no (11 : Int)))) ∧ (¬((parseS (ix (uR (unfoldS s)).fst x).Text).fst.Name = sEND ∧ x_2 ≠ []) → ((parseS (ix (uR (unfoldS s)).fst x).Text).fst.Name ≠ sEND → (x_3.length + [Prp.mk (parseS (ix (uR (unfoldS s)).fst x).Text).fst.Group (parseS (ix (uR (unfoldS s)).fst x).Text).fst.Name (parseS (ix (uR (unfoldS s)).fst x).Text).fst.Params (parseS (ix (uR (unfoldS s)).fst x).Text).fst.Value].length) * (some (72 : Nat)).getD (0 : Nat) ≤ (140737488355328 : Nat) ∧ in64 (x + (1 : Int)) ∧ I_1 (x + (1 : Int)) x_1 x_2 (x_3 ++ [Prp.mk (parseS (ix (uR (unfoldS s)).fst x).Text).fst.Group (parseS (ix (uR (unfoldS s)).fst x).Text).fst.Name (parseS (ix (uR (unfoldS s)).fst x).Text).fst.Params (parseS (ix (uR (unfoldS s)).fst x).Text).fst.Value]) x_4 x_5 ∧ m_1 (x + (1 : Int)) x_1 x_2 (x_3 ++ [Prp.mk (parseS (ix (uR (unfoldS s)).fst x).Text).fst.Group (parseS (ix (uR (unfoldS s)).fst x).Text).fst.Name (parseS (ix (uR (unfoldS s)).fst x).Text).fst.Params (parseS (ix (uR (unfoldS s)).fst x).Text).fst.Value]) x_4 x_5 < m_1 x x_1 x_2 x_3 x_4 x_5) ∧ (¬(parseS (ix (uR (unfoldS s)).fst x).Text).fst.Name ≠ sEND → (x_1.length + [Comp.mk x_2 x_3 x_4].length) * (some (64 : Nat)).getD (0 : Nat) ≤ (140737488355328 : Nat) ∧ in64 (x + (1 : Int)) ∧ I (x + (1 : Int)) (x_1 ++ [Comp.mk x_2 x_3 x_4]) ∧ m (x + (1 : Int)) (x_1 ++ [Comp.mk x_2 x_3 x_4]) < m_1 x x_1 x_2 x_3 x_4 x_5))))))) ∧ (¬x < (↑(uR (unfoldS s)).fst.length : Int) → Q [] (atE x_5 (Err.no (11 : Int))))) ∧ (∀ (x : Int) (x_1 : List Comp) (x_2 : List UInt8) (x_3 : List Prp) (x_4 : List Comp) (x_5 : Int) (x_6 : List UInt8) (x_7 : List Prp) (x_8 : List Comp) (x_9 : Int), I_2 x x_1 x_2 x_3 x_4 x_5 x_6 x_7 x_8 x_9 → (x < (↑(uR (unfoldS s)).fst.length : Int) → (0 : Int) ≤ x ∧ x < (↑(uR (unfoldS s)).fst.length : Int) ∧ (in64 (ix (uR (unfoldS s)).fst x).At → List.length (ix (uR (unfoldS s)).fst x).Text ≤ (100000000 : Nat) ∧ ((parseS (ix (uR (unfoldS s)).fst x).Text).snd ≠ Err.nil → Q [] (atE (ix (uR (unfoldS s)).fst x).At (parseS (ix (uR (unfoldS s)).fst x).Text).snd)) ∧ (¬(parseS (ix (uR (unfoldS s)).fst x).Text).snd ≠ Err.nil → ((parseS (ix (uR (unfoldS s)).fst x).Text).fst.Name = sBEGIN → ((parseS (ix (uR (unfoldS s)).fst x).Text).fst.Name = sBEGIN → List.length (parseS (ix (uR (unfoldS s)).fst x).Text).fst.Value ≤ (10000000 : Nat) ∧ ((namedS (Prp.mk (parseS (ix (uR (unfoldS s)).fst x).Text).fst.Group (parseS (ix (uR (unfoldS s)).fst x).Text).fst.Name (parseS (ix (uR (unfoldS s)).fst x).Text).fst.Params (parseS (ix (uR (unfoldS s)).fst x).Text).fst.Value)).snd ≠ Err.nil → Q [] (atE (ix (uR (unfoldS s)).fst x).At (namedS (Prp.mk (parseS (ix (uR (unfoldS s)).fst x).Text).fst.Group (parseS (ix (uR (unfoldS s)).fst x).Text).fst.Name (parseS (ix (uR (unfoldS s)).fst x).Text).fst.Params (parseS (ix (uR (unfoldS s)).fst x).Text).fst.Value)).snd)) ∧ (¬(namedS (Prp.mk (parseS (ix (uR (unfoldS s)).fst x).Text).fst.Group (parseS (ix (uR (unfoldS s)).fst x).Text).fst.Name (parseS (ix (uR (unfoldS s)).fst x).Text).fst.Params (parseS (ix (uR (unfoldS s)).fst x).Text).fst.Value)).snd ≠ Err.nil → ((parseS (ix (uR (unfoldS s)).fst x).Text).fst.Name = sBEGIN → in64 ((0 : Int) + (1 : Int)) ∧ in64 ((0 : Int) + (1 : Int) + (1 : Int)) ∧ in64 ((0 : Int) + (1 : Int) + (1 : Int) + (1 : Int)) ∧ ((6 : Int) < (0 : Int) + (1 : Int) + (1 : Int) + (1 : Int) → Q [] (atE (ix (uR (unfoldS s)).fst x).At (Err.no (12 : Int)))) ∧ (¬(6 : Int) < (0 : Int) + (1 : Int) + (1 : Int) + (1 : Int) → in64 (x + (1 : Int)) ∧ I_3 (x + (1 : Int)) x_1 (namedS (Prp.mk (parseS (ix (uR (unfoldS s)).fst x).Text).fst.Group (parseS (ix (uR (unfoldS s)).fst x).Text).fst.Name (parseS (ix (uR (unfoldS s)).fst x).Text).fst.Params (parseS (ix (uR (unfoldS s)).fst x).Text).fst.Value)).fst [] [] (ix (uR (unfoldS s)).fst x).At x_2 x_3 x_4 x_5 x_6 x_7 x_8 x_9 ∧ m_3 (x + (1 : Int)) x_1 (namedS (Prp.mk (parseS (ix (uR (unfoldS s)).fst x).Text).fst.Group (parseS (ix (uR (unfoldS s)).fst x).Text).fst.Name (parseS (ix (uR (unfoldS s)).fst x).Text).fst.Params (parseS (ix (uR (unfoldS s)).fst x).Text).fst.Value)).fst [] [] (ix (uR (unfoldS s)).fst x).At x_2 x_3 x_4 x_5 x_6 x_7 x_8 x_9 < m_2 x x_1 x_2 x_3 x_4 x_5 x_6 x_7 x_8 x_9)) ∧ (¬(parseS (ix (uR (unfoldS s)).fst x).Text).fst.Name = sBEGIN → ((parseS (ix (uR (unfoldS s)).fst x).Text).fst.Name = sEND ∧ x_2 ≠ (namedS (Prp.mk (parseS (ix (uR (unfoldS s)).fst x).Text).fst.Group (parseS (ix (uR (unfoldS s)).fst x).Text).fst.Name (parseS (ix (uR (unfoldS s)).fst x).Text).fst.Params (parseS (ix (uR (unfoldS s)).fst x).Text).fst.Value)).fst → Q [] (atE (ix (uR (unfoldS s)).fst x).At (Err.no (11 : Int)))) ∧ (¬((parseS (ix (uR (unfoldS s)).fst x).Text).fst.Name = sEND ∧ x_2 ≠ (namedS (Prp.mk (parseS (ix (uR (unfoldS s)).fst x).Text).fst.Group (parseS (ix (uR (unfoldS s)).fst x).Text).fst.Name (parseS (ix (uR (unfoldS s)).fst x).Text).fst.Params (parseS (ix (uR (unfoldS s)).fst x).Text).fst.Value)).fst) → ((parseS (ix (uR (unfoldS s)).fst x).Text).fst.Name ≠ sEND → (x_3.length + [Prp.mk (parseS (ix (uR (unfoldS s)).fst x).Text).fst.Group (parseS (ix (uR (unfoldS s)).fst x).Text).fst.Name (parseS (ix (uR (unfoldS s)).fst x).Text).fst.Params (parseS (ix (uR (unfoldS s)).fst x).Text).fst.Value].length) * (some (72 : Nat)).getD (0 : Nat) ≤ (140737488355328 : Nat) ∧ in64 (x + (1 : Int)) ∧ I_2 (x + (1 : Int)) x_1 x_2 (x_3 ++ [Prp.mk (parseS (ix (uR (unfoldS s)).fst x).Text).fst.Group (parseS (ix (uR (unfoldS s)).fst x).Text).fst.Name (parseS (ix (uR (unfoldS s)).fst x).Text).fst.Params (parseS (ix (uR (unfoldS s)).fst x).Text).fst.Value]) x_4 x_5 x_6 x_7 x_8 x_9 ∧ m_2 (x + (1 : Int)) x_1 x_2 (x_3 ++ [Prp.mk (parseS (ix (uR (unfoldS s)).fst x).Text).fst.Group (parseS (ix (uR (unfoldS s)).fst x).Text).fst.Name (parseS (ix (uR (unfoldS s)).fst x).Text).fst.Params (parseS (ix (uR (unfoldS s)).fst x).Text).fst.Value]) x_4 x_5 x_6 x_7 x_8 x_9 < m_2 x x_1 x_2 x_3 x_4 x_5 x_6 x_7 x_8 x_9) ∧ (¬(parseS (ix (uR (unfoldS s)).fst x).Text).fst.Name ≠ sEND → ((x_8.length + [Comp.mk [] [] []].length) * (some (64 : Nat)).getD (0 : Nat) ≤ (140737488355328 : Nat) ∧ (0 : Int) ≤ (↑x_8.length : Int) ∧ (↑x_8.length : Int) < (↑(x_8 ++ [Comp.mk [] [] []]).length : Int) ∧ in64 (x + (1 : Int)) ∧ I_1 (x + (1 : Int)) x_1 x_6 x_7 ((x_8 ++ [Comp.mk [] [] []]).set (↑x_8.length : Int).toNat (Comp.mk x_2 x_3 x_4)) x_9 ∧ m_1 (x + (1 : Int)) x_1 x_6 x_7 ((x_8 ++ [Comp.mk [] [] []]).set (↑x_8.length : Int).toNat (Comp.mk x_2 x_3 x_4)) x_9 < m_2 x x_1 x_2 x_3 x_4 x_5 x_6 x_7 x_8 x_9) ∧ (x_8.length + [Comp.mk x_2 x_3 x_4].length) * (some (64 : Nat)).getD (0 : Nat) ≤ (140737488355328 : Nat) ∧ in64 (x + (1 : Int)) ∧ I_1 (x + (1 : Int)) x_1 x_6 x_7 (x_8 ++ [Comp.mk x_2 x_3 x_4]) x_9 ∧ m_1 (x + (1 : Int)) x_1 x_6 x_7 (x_8 ++ [Comp.mk x_2 x_3 x_4]) x_9 < m_2 x x_1 x_2 x_3 x_4 x_5 x_6 x_7 x_8 x_9))))) ∧ (¬(parseS (ix (uR (unfoldS s)).fst x).Text).fst.Name = sBEGIN → ((parseS (ix (uR (unfoldS s)).fst x).Text).fst.Name = sEND ∧ x_2 ≠ [] → Q [] (atE (ix (uR (unfoldS s)).fst x).At (Err.no (11 : Int)))) ∧ (¬((parseS (ix (uR (unfoldS s)).fst x).Text).fst.Name = sEND ∧ x_2 ≠ []) → ((parseS (ix (uR (unfoldS s)).fst x).Text).fst.Name ≠ sEND → (x_3.length + [Prp.mk (parseS (ix (uR (unfoldS s)).fst x).Text).fst.Group (parseS (ix (uR (unfoldS s)).fst x).Text).fst.Name (parseS (ix (uR (unfoldS s)).fst x).Text).fst.Params (parseS (ix (uR (unfoldS s)).fst x).Text).fst.Value].length) * (some (72 : Nat)).getD (0 : Nat) ≤ (140737488355328 : Nat) ∧ in64 (x + (1 : Int)) ∧ I_2 (x + (1 : Int)) x_1 x_2 (x_3 ++ [Prp.mk (parseS (ix (uR (unfoldS s)).fst x).Text).fst.Group (parseS (ix (uR (unfoldS s)).fst x).Text).fst.Name (parseS (ix (uR (unfoldS s)).fst x).Text).fst.Params (parseS (ix (uR (unfoldS s)).fst x).Text).fst.Value]) x_4 x_5 x_6 x_7 x_8 x_9 ∧ m_2 (x + (1 : Int)) x_1 x_2 (x_3 ++ [Prp.mk (parseS (ix (uR (unfoldS s)).fst x).Text).fst.Group (parseS (ix (uR (unfoldS s)).fst x).Text).fst.Name (parseS (ix (uR (unfoldS s)).fst x).Text).fst.Params (parseS (ix (uR (unfoldS s)).fst x).Text).fst.Value]) x_4 x_5 x_6 x_7 x_8 x_9 < m_2 x x_1 x_2 x_3 x_4 x_5 x_6 x_7 x_8 x_9) ∧ (¬(parseS (ix (uR (unfoldS s)).fst x).Text).fst.Name ≠ sEND → ((x_8.length + [Comp.mk [] [] []].length) * (some (64 : Nat)).getD (0 : Nat) ≤ (140737488355328 : Nat) ∧ (0 : Int) ≤ (↑x_8.length : Int) ∧ (↑x_8.length : Int) < (↑(x_8 ++ [Comp.mk [] [] []]).length : Int) ∧ in64 (x + (1 : Int)) ∧ I_1 (x + (1 : Int)) x_1 x_6 x_7 ((x_8 ++ [Comp.mk [] [] []]).set (↑x_8.length : Int).toNat (Comp.mk x_2 x_3 x_4)) x_9 ∧ m_1 (x + (1 : Int)) x_1 x_6 x_7 ((x_8 ++ [Comp.mk [] [] []]).set (↑x_8.length : Int).toNat (Comp.mk x_2 x_3 x_4)) x_9 < m_2 x x_1 x_2 x_3 x_4 x_5 x_6 x_7 x_8 x_9) ∧ (x_8.length + [Comp.mk x_2 x_3 x_4].length) * (some (64 : Nat)).getD (0 : Nat) ≤ (140737488355328 : Nat) ∧ in64 (x + (1 : Int)) ∧ I_1 (x + (1 : Int)) x_1 x_6 x_7 (x_8 ++ [Comp.mk x_2 x_3 x_4]) x_9 ∧ m_1 (x + (1 : Int)) x_1 x_6 x_7 (x_8 ++ [Comp.mk x_2 x_3 x_4]) x_9 < m_2 x x_1 x_2 x_3 x_4 x_5 x_6 x_7 x_8 x_9)))) ∧ (¬(parseS (ix (uR (unfoldS s)).fst x).Text).fst.Name = sBEGIN → ((parseS (ix (uR (unfoldS s)).fst x).Text).fst.Name = sEND → List.length (parseS (ix (uR (unfoldS s)).fst x).Text).fst.Value ≤ (10000000 : Nat) ∧ ((namedS (Prp.mk (parseS (ix (uR (unfoldS s)).fst x).Text).fst.Group (parseS (ix (uR (unfoldS s)).fst x).Text).fst.Name (parseS (ix (uR (unfoldS s)).fst x).Text).fst.Params (parseS (ix (uR (unfoldS s)).fst x).Text).fst.Value)).snd ≠ Err.nil → Q [] (atE (ix (uR (unfoldS s)).fst x).At (namedS (Prp.mk (parseS (ix (uR (unfoldS s)).fst x).Text).fst.Group (parseS (ix (uR (unfoldS s)).fst x).Text).fst.Name (parseS (ix (uR (unfoldS s)).fst x).Text).fst.Params (parseS (ix (uR (unfoldS s)).fst x).Text).fst.Value)).snd)) ∧ (¬(namedS (Prp.mk (parseS (ix (uR (unfoldS s)).fst x).Text).fst.Group (parseS (ix (uR (unfoldS s)).fst x).Text).fst.Name (parseS (ix (uR (unfoldS s)).fst x).Text).fst.Params (parseS (ix (uR (unfoldS s)).fst x).Text).fst.Value)).snd ≠ Err.nil → ((parseS (ix (uR (unfoldS s)).fst x).Text).fst.Name = sBEGIN → in64 ((0 : Int) + (1 : Int)) ∧ in64 ((0 : Int) + (1 : Int) + (1 : Int)) ∧ in64 ((0 : Int) + (1 : Int) + (1 : Int) + (1 : Int)) ∧ ((6 : Int) < (0 : Int) + (1 : Int) + (1 : Int) + (1 : Int) → Q [] (atE (ix (uR (unfoldS s)).fst x).At (Err.no (12 : Int)))) ∧ (¬(6 : Int) < (0 : Int) + (1 : Int) + (1 : Int) + (1 : Int) → in64 (x + (1 : Int)) ∧ I_3 (x + (1 : Int)) x_1 (namedS (Prp.mk (parseS (ix (uR (unfoldS s)).fst x).Text).fst.Group (parseS (ix (uR (unfoldS s)).fst x).Text).fst.Name (parseS (ix (uR (unfoldS s)).fst x).Text).fst.Params (parseS (ix (uR (unfoldS s)).fst x).Text).fst.Value)).fst [] [] (ix (uR (unfoldS s)).fst x).At x_2 x_3 x_4 x_5 x_6 x_7 x_8 x_9 ∧ m_3 (x + (1 : Int)) x_1 (namedS (Prp.mk (parseS (ix (uR (unfoldS s)).fst x).Text).fst.Group (parseS (ix (uR (unfoldS s)).fst x).Text).fst.Name (parseS (ix (uR (unfoldS s)).fst x).Text).fst.Params (parseS (ix (uR (unfoldS s)).fst x).Text).fst.Value)).fst [] [] (ix (uR (unfoldS s)).fst x).At x_2 x_3 x_4 x_5 x_6 x_7 x_8 x_9 < m_2 x x_1 x_2 x_3 x_4 x_5 x_6 x_7 x_8 x_9)) ∧ (¬(parseS (ix (uR (unfoldS s)).fst x).Text).fst.Name = sBEGIN → ((parseS (ix (uR (unfoldS s)).fst x).Text).fst.Name = sEND ∧ x_2 ≠ (namedS (Prp.mk (parseS (ix (uR (unfoldS s)).fst x).Text).fst.Group (parseS (ix (uR (unfoldS s)).fst x).Text).fst.Name (parseS (ix (uR (unfoldS s)).fst x).Text).fst.Params (parseS (ix (uR (unfoldS s)).fst x).Text).fst.Value)).fst → Q [] (atE (ix (uR (unfoldS s)).fst x).At (Err.no (11 : Int)))) ∧ (¬((parseS (ix (uR (unfoldS s)).fst x).Text).fst.Name = sEND ∧ x_2 ≠ (namedS (Prp.mk (parseS (ix (uR (unfoldS s)).fst x).Text).fst.Group (parseS (ix (uR (unfoldS s)).fst x).Text).fst.Name (parseS (ix (uR (unfoldS s)).fst x).Text).fst.Params (parseS (ix (uR (unfoldS s)).fst x).Text).fst.Value)).fst) → ((parseS (ix (uR (unfoldS s)).fst x).Text).fst.Name ≠ sEND → (x_3.length + [Prp.mk (parseS (ix (uR (unfoldS s)).fst x).Text).fst.Group (parseS (ix (uR (unfoldS s)).fst x).Text).fst.Name (parseS (ix (uR (unfoldS s)).fst x).Text).fst.Params (parseS (ix (uR (unfoldS s)).fst x).Text).fst.Value].length) * (some (72 : Nat)).getD (0 : Nat) ≤ (140737488355328 : Nat) ∧ in64 (x + (1 : Int)) ∧ I_2 (x + (1 : Int)) x_1 x_2 (x_3 ++ [Prp.mk (parseS (ix (uR (unfoldS s)).fst x).Text).fst.Group (parseS (ix (uR (unfoldS s)).fst x).Text).fst.Name (parseS (ix (uR (unfoldS s)).fst x).Text).fst.Params (parseS (ix (uR (unfoldS s)).fst x).Text).fst.Value]) x_4 x_5 x_6 x_7 x_8 x_9 ∧ m_2 (x + (1 : Int)) x_1 x_2 (x_3 ++ [Prp.mk (parseS (ix (uR (unfoldS s)).fst x).Text).fst.Group (parseS (ix (uR (unfoldS s)).fst x).Text).fst.Name (parseS (ix (uR (unfoldS s)).fst x).Text).fst.Params (parseS (ix (uR (unfoldS s)).fst x).Text).fst.Value]) x_4 x_5 x_6 x_7 x_8 x_9 < m_2 x x_1 x_2 x_3 x_4 x_5 x_6 x_7 x_8 x_9) ∧ (¬(parseS (ix (uR (unfoldS s)).fst x).Text).fst.Name ≠ sEND → ((x_8.length + [Comp.mk [] [] []].length) * (some (64 : Nat)).getD (0 : Nat) ≤ (140737488355328 : Nat) ∧ (0 : Int) ≤ (↑x_8.length : Int) ∧ (↑x_8.length : Int) < (↑(x_8 ++ [Comp.mk [] [] []]).length : Int) ∧ in64 (x + (1 : Int)) ∧ I_1 (x + (1 : Int)) x_1 x_6 x_7 ((x_8 ++ [Comp.mk [] [] []]).set (↑x_8.length : Int).toNat (Comp.mk x_2 x_3 x_4)) x_9 ∧ m_1 (x + (1 : Int)) x_1 x_6 x_7 ((x_8 ++ [Comp.mk [] [] []]).set (↑x_8.length : Int).toNat (Comp.mk x_2 x_3 x_4)) x_9 < m_2 x x_1 x_2 x_3 x_4 x_5 x_6 x_7 x_8 x_9) ∧ (x_8.length + [Comp.mk x_2 x_3 x_4].length) * (some (64 : Nat)).getD (0 : Nat) ≤ (140737488355328 : Nat) ∧ in64 (x + (1 : Int)) ∧ I_1 (x + (1 : Int)) x_1 x_6 x_7 (x_8 ++ [Comp.mk x_2 x_3 x_4]) x_9 ∧ m_1 (x + (1 : Int)) x_1 x_6 x_7 (x_8 ++ [Comp.mk x_2 x_3 x_4]) x_9 < m_2 x x_1 x_2 x_3 x_4 x_5 x_6 x_7 x_8 x_9))))) ∧ (¬(parseS (ix (uR (unfoldS s)).fst x).Text).fst.Name = sEND → ((parseS (ix (uR (unfoldS s)).fst x).Text).fst.Name = sEND ∧ x_2 ≠ [] → Q [] (atE (ix (uR (unfoldS s)).fst x).At (Err.no (11 : Int)))) ∧ (¬((parseS (ix (uR (unfoldS s)).fst x).Text).fst.Name = sEND ∧ x_2 ≠ []) → ((parseS (ix (uR (unfoldS s)).fst x).Text).fst.Name ≠ sEND → (x_3.length + [Prp.mk (parseS (ix (uR (unfoldS s)).fst x).Text).fst.Group (parseS (ix (uR (unfoldS s)).fst x).Text).fst.Name (parseS (ix (uR (unfoldS s)).fst x).Text).fst.Params (parseS (ix (uR (unfoldS s)).fst x).Text).fst.Value].length) * (some (72 : Nat)).getD (0 : Nat) ≤ (140737488355328 : Nat) ∧ in64 (x + (1 : Int)) ∧ I_2 (x + (1 : Int)) x_1 x_2 (x_3 ++ [Prp.mk (parseS (ix (uR (unfoldS s)).fst x).Text).fst.Group (parseS (ix (uR (unfoldS s)).fst x).Text).fst.Name (parseS (ix (uR (unfoldS s)).fst x).Text).fst.Params (parseS (ix (uR (unfoldS s)).fst x).Text).fst.Value]) x_4 x_5 x_6 x_7 x_8 x_9 ∧ m_2 (x + (1 : Int)) x_1 x_2 (x_3 ++ [Prp.mk (parseS (ix (uR (unfoldS s)).fst x).Text).fst.Group (parseS (ix (uR (unfoldS s)).fst x).Text).fst.Name (parseS (ix (uR (unfoldS s)).fst x).Text).fst.Params (parseS (ix (uR (unfoldS s)).fst x).Text).fst.Value]) x_4 x_5 x_6 x_7 x_8 x_9 < m_2 x x_1 x_2 x_3 x_4 x_5 x_6 x_7 x_8 x_9) ∧ (¬(parseS (ix (uR (unfoldS s)).fst x).Text).fst.Name ≠ sEND → ((x_8.length + [Comp.mk [] [] []].length) * (some (64 : Nat)).getD (0 : Nat) ≤ (140737488355328 : Nat) ∧ (0 : Int) ≤ (↑x_8.length : Int) ∧ (↑x_8.length : Int) < (↑(x_8 ++ [Comp.mk [] [] []]).length : Int) ∧ in64 (x + (1 : Int)) ∧ I_1 (x + (1 : Int)) x_1 x_6 x_7 ((x_8 ++ [Comp.mk [] [] []]).set (↑x_8.length : Int).toNat (Comp.mk x_2 x_3 x_4)) x_9 ∧ m_1 (x + (1 : Int)) x_1 x_6 x_7 ((x_8 ++ [Comp.mk [] [] []]).set (↑x_8.length : Int).toNat (Comp.mk x_2 x_3 x_4)) x_9 < m_2 x x_1 x_2 x_3 x_4 x_5 x_6 x_7 x_8 x_9) ∧ (x_8.length + [Comp.mk x_2 x_3 x_4].length) * (some (64 : Nat)).getD (0 : Nat) ≤ (140737488355328 : Nat) ∧ in64 (x + (1 : Int)) ∧ I_1 (x + (1 : Int)) x_1 x_6 x_7 (x_8 ++ [Comp.mk x_2 x_3 x_4]) x_9 ∧ m_1 (x + (1 : Int)) x_1 x_6 x_7 (x_8 ++ [Comp.mk x_2 x_3 x_4]) x_9 < m_2 x x_1 x_2 x_3 x_4 x_5 x_6 x_7 x_8 x_9))))))) ∧ (¬x < (↑(uR (unfoldS s)).fst.length : Int) → Q [] (atE x_5 (Err.no (11 : Int))))) ∧ (∀ (x : Int) (x_1 : List Comp) (x_2 : List UInt8) (x_3 : List Prp) (x_4 : List Comp) (x_5 : Int) (x_6 : List UInt8) (x_7 : List Prp) (x_8 : List Comp) (x_9 : Int) (x_10 : List UInt8) (x_11 : List Prp) (x_12 : List Comp) (x_13 : Int), I_3 x x_1 x_2 x_3 x_4 x_5 x_6 x_7 x_8 x_9 x_10 x_11 x_12 x_13 → (x < (↑(uR (unfoldS s)).fst.length : Int) → (0 : Int) ≤ x ∧ x < (↑(uR (unfoldS s)).fst.length : Int) ∧ (in64 (ix (uR (unfoldS s)).fst x).At → List.length (ix (uR (unfoldS s)).fst x).Text ≤ (100000000 : Nat) ∧ ((parseS (ix (uR (unfoldS s)).fst x).Text).snd ≠ Err.nil → Q [] (atE (ix (uR (unfoldS s)).fst x).At (parseS (ix (uR (unfoldS s)).fst x).Text).snd)) ∧ (¬(parseS (ix (uR (unfoldS s)).fst x).Text).snd ≠ Err.nil → ((parseS (ix (uR (unfoldS s)).fst x).Text).fst.Name = sBEGIN → ((parseS (ix (uR (unfoldS s)).fst x).Text).fst.Name = sBEGIN → List.length (parseS (ix (uR (unfoldS s)).fst x).Text).fst.Value ≤ (10000000 : Nat) ∧ ((namedS (Prp.mk (parseS (ix (uR (unfoldS s)).fst x).Text).fst.Group (parseS (ix (uR (unfoldS s)).fst x).Text).fst.Name (parseS (ix (uR (unfoldS s)).fst x).Text).fst.Params (parseS (ix (uR (unfoldS s)).fst x).Text).fst.Value)).snd ≠ Err.nil → Q [] (atE (ix (uR (unfoldS s)).fst x).At (namedS (Prp.mk (parseS (ix (uR (unfoldS s)).fst x).Text).fst.Group (parseS (ix (uR (unfoldS s)).fst x).Text).fst.Name (parseS (ix (uR (unfoldS s)).fst x).Text).fst.Params (parseS (ix (uR (unfoldS s)).fst x).Text).fst.Value)).snd)) ∧ (¬(namedS (Prp.mk (parseS (ix (uR (unfoldS s)).fst x).Text).fst.Group (parseS (ix (uR (unfoldS s)).fst x).Text).fst.Name (parseS (ix (uR (unfoldS s)).fst x).Text).fst.Params (parseS (ix (uR (unfoldS s)).fst x).Text).fst.Value)).snd ≠ Err.nil → ((parseS (ix (uR (unfoldS s)).fst x).Text).fst.Name = sBEGIN → in64 ((0 : Int) + (1 : Int)) ∧ in64 ((0 : Int) + (1 : Int) + (1 : Int)) ∧ in64 ((0 : Int) + (1 : Int) + (1 : Int) + (1 : Int)) ∧ in64 ((0 : Int) + (1 : Int) + (1 : Int) + (1 : Int) + (1 : Int)) ∧ ((6 : Int) < (0 : Int) + (1 : Int) + (1 : Int) + (1 : Int) + (1 : Int) → Q [] (atE (ix (uR (unfoldS s)).fst x).At (Err.no (12 : Int)))) ∧ (¬(6 : Int) < (0 : Int) + (1 : Int) + (1 : Int) + (1 : Int) + (1 : Int) → in64 (x + (1 : Int)) ∧ I_4 (x + (1 : Int)) x_1 (namedS (Prp.mk (parseS (ix (uR (unfoldS s)).fst x).Text).fst.Group (parseS (ix (uR (unfoldS s)).fst x).Text).fst.Name (parseS (ix (uR (unfoldS s)).fst x).Text).fst.Params (parseS (ix (uR (unfoldS s)).fst x).Text).fst.Value)).fst [] [] (ix (uR (unfoldS s)).fst x).At x_2 x_3 x_4 x_5 x_6 x_7 x_8 x_9 x_10 x_11 x_12 x_13 ∧ m_4 (x + (1 : Int)) x_1 (namedS (Prp.mk (parseS (ix (uR (unfoldS s)).fst x).Text).fst.Group (parseS (ix (uR (unfoldS s)).fst x).Text).fst.Name (parseS (ix (uR (unfoldS s)).fst x).Text).fst.Params (parseS (ix (uR (unfoldS s)).fst x).Text).fst.Value)).fst [] [] (ix (uR (unfoldS s)).fst x).At x_2 x_3 x_4 x_5 x_6 x_7 x_8 x_9 x_10 x_11 x_12 x_13 < m_3 x x_1 x_2 x_3 x_4 x_5 x_6 x_7 x_8 x_9 x_10 x_11 x_12 x_13)) ∧ (¬(parseS (ix (uR (unfoldS s)).fst x).Text).fst.Name = sBEGIN → ((parseS (ix (uR (unfoldS s)).fst x).Text).fst.Name = sEND ∧ x_2 ≠ (namedS (Prp.mk (parseS (ix (uR (unfoldS s)).fst x).Text).fst.Group (parseS (ix (uR (unfoldS s)).fst x).Text).fst.Name (parseS (ix (uR (unfoldS s)).fst x).Text).fst.Params (parseS (ix (uR (unfoldS s)).fst x).Text).fst.Value)).fst → Q [] (atE (ix (uR (unfoldS s)).fst x).At (Err.no (11 : Int)))) ∧ (¬((parseS (ix (uR (unfoldS s)).fst x).Text).fst.Name = sEND ∧ x_2 ≠ (namedS (Prp.mk (parseS (ix (uR (unfoldS s)).fst x).Text).fst.Group (parseS (ix (uR (unfoldS s)).fst x).Text).fst.Name (parseS (ix (uR (unfoldS s)).fst x).Text).fst.Params (parseS (ix (uR (unfoldS s)).fst x).Text).fst.Value)).fst) → ((parseS (ix (uR (unfoldS s)).fst x).Text).fst.Name ≠ sEND → (x_3.length + [Prp.mk (parseS (ix (uR (unfoldS s)).fst x).Text).fst.Group (parseS (ix (uR (unfoldS s)).fst x).Text).fst.Name (parseS (ix (uR (unfoldS s)).fst x).Text).fst.Params (parseS (ix (uR (unfoldS s)).fst x).Text).fst.Value].length) * (some (72 : Nat)).getD (0 : Nat) ≤ (140737488355328 : Nat) ∧ in64 (x + (1 : Int)) ∧ I_3 (x + (1 : Int)) x_1 x_2 (x_3 ++ [Prp.mk (parseS (ix (uR (unfoldS s)).fst x).Text).fst.Group (parseS (ix (uR (unfoldS s)).fst x).Text).fst.Name (parseS (ix (uR (unfoldS s)).fst x).Text).fst.Params (parseS (ix (uR (unfoldS s)).fst x).Text).fst.Value]) x_4 x_5 x_6 x_7 x_8 x_9 x_10 x_11 x_12 x_13 ∧ m_3 (x + (1 : Int)) x_1 x_2 (x_3 ++ [Prp.mk (parseS (ix (uR (unfoldS s)).fst x).Text).fst.Group (parseS (ix (uR (unfoldS s)).fst x).Text).fst.Name (parseS (ix (uR (unfoldS s)).fst x).Text).fst.Params (parseS (ix (uR (unfoldS s)).fst x).Text).fst.Value]) x_4 x_5 x_6 x_7 x_8 x_9 x_10 x_11 x_12 x_13 < m_3 x x_1 x_2 x_3 x_4 x_5 x_6 x_7 x_8 x_9 x_10 x_11 x_12 x_13) ∧ (¬(parseS (ix (uR (unfoldS s)).fst x).Text).fst.Name ≠ sEND → ((x_8.length + [Comp.mk [] [] []].length) * (some (64 : Nat)).getD (0 : Nat) ≤ (140737488355328 : Nat) ∧ (0 : Int) ≤ (↑x_8.length : Int) ∧ (↑x_8.length : Int) < (↑(x_8 ++ [Comp.mk [] [] []]).length : Int) ∧ in64 (x + (1 : Int)) ∧ I_2 (x + (1 : Int)) x_1 x_6 x_7 ((x_8 ++ [Comp.mk [] [] []]).set (↑x_8.length : Int).toNat (Comp.mk x_2 x_3 x_4)) x_9 x_10 x_11 x_12 x_13 ∧ m_2 (x + (1 : Int)) x_1 x_6 x_7 ((x_8 ++ [Comp.mk [] [] []]).set (↑x_8.length : Int).toNat (Comp.mk x_2 x_3 x_4)) x_9 x_10 x_11 x_12 x_13 < m_3 x x_1 x_2 x_3 x_4 x_5 x_6 x_7 x_8 x_9 x_10 x_11 x_12 x_13) ∧ (x_8.length + [Comp.mk x_2 x_3 x_4].length) * (some (64 : Nat)).getD (0 : Nat) ≤ (140737488355328 : Nat) ∧ in64 (x + (1 : Int)) ∧ I_2 (x + (1 : Int)) x_1 x_6 x_7 (x_8 ++ [Comp.mk x_2 x_3 x_4]) x_9 x_10 x_11 x_12 x_13 ∧ m_2 (x + (1 : Int)) x_1 x_6 x_7 (x_8 ++ [Comp.mk x_2 x_3 x_4]) x_9 x_10 x_11 x_12 x_13 < m_3 x x_1 x_2 x_3 x_4 x_5 x_6 x_7 x_8 x_9 x_10 x_11 x_12 x_13))))) ∧ (¬(parseS (ix (uR (unfoldS s)).fst x).Text).fst.Name = sBEGIN → ((parseS (ix (uR (unfoldS s)).fst x).Text).fst.Name = sEND ∧ x_2 ≠ [] → Q [] (atE (ix (uR (unfoldS s)).fst x).At (Err.no (11 : Int)))) ∧ (¬((parseS (ix (uR (unfoldS s)).fst x).Text).fst.Name = sEND ∧ x_2 ≠ []) → ((parseS (ix (uR (unfoldS s)).fst x).Text).fst.Name ≠ sEND → (x_3.length + [Prp.mk (parseS (ix (uR (unfoldS s)).fst x).Text).fst.Group (parseS (ix (uR (unfoldS s)).fst x).Text).fst.Name (parseS (ix (uR (unfoldS s)).fst x).Text).fst.Params (parseS (ix (uR (unfoldS s)).fst x).Text).fst.Value].length) * (some (72 : Nat)).getD (0 : Nat) ≤ (140737488355328 : Nat) ∧ in64 (x + (1 : Int)) ∧ I_3 (x + (1 : Int)) x_1 x_2 (x_3 ++ [Prp.mk (parseS (ix (uR (unfoldS s)).fst x).Text).fst.Group (parseS (ix (uR (unfoldS s)).fst x).Text).fst.Name (parseS (ix (uR (unfoldS s)).fst x).Text).fst.Params (parseS (ix (uR (unfoldS s)).fst x).Text).fst.Value]) x_4 x_5 x_6 x_7 x_8 x_9 x_10 x_11 x_12 x_13 ∧ m_3 (x + (1 : Int)) x_1 x_2 (x_3 ++ [Prp.mk (parseS (ix (uR (unfoldS s)).fst x).Text).fst.Group (parseS (ix (uR (unfoldS s)).fst x).Text).fst.Name (parseS (ix (uR (unfoldS s)).fst x).Text).fst.Params (parseS (ix (uR (unfoldS s)).fst x).Text).fst.Value]) x_4 x_5 x_6 x_7 x_8 x_9 x_10 x_11 x_12 x_13 < m_3 x x_1 x_2 x_3 x_4 x_5 x_6 x_7 x_8 x_9 x_10 x_11 x_12 x_13) ∧ (¬(parseS (ix (uR (unfoldS s)).fst x).Text).fst.Name ≠ sEND → ((x_8.length + [Comp.mk [] [] []].length) * (some (64 : Nat)).getD (0 : Nat) ≤ (140737488355328 : Nat) ∧ (0 : Int) ≤ (↑x_8.length : Int) ∧ (↑x_8.length : Int) < (↑(x_8 ++ [Comp.mk [] [] []]).length : Int) ∧ in64 (x + (1 : Int)) ∧ I_2 (x + (1 : Int)) x_1 x_6 x_7 ((x_8 ++ [Comp.mk [] [] []]).set (↑x_8.length : Int).toNat (Comp.mk x_2 x_3 x_4)) x_9 x_10 x_11 x_12 x_13 ∧ m_2 (x + (1 : Int)) x_1 x_6 x_7 ((x_8 ++ [Comp.mk [] [] []]).set (↑x_8.length : Int).toNat (Comp.mk x_2 x_3 x_4)) x_9 x_10 x_11 x_12 x_13 < m_3 x x_1 x_2 x_3 x_4 x_5 x_6 x_7 x_8 x_9 x_10 x_11 x_12 x_13) ∧ (x_8.length + [Comp.mk x_2 x_3 x_4].length) * (some (64 : Nat)).getD (0 : Nat) ≤ (140737488355328 : Nat) ∧ in64 (x + (1 : Int)) ∧ I_2 (x + (1 : Int)) x_1 x_6 x_7 (x_8 ++ [Comp.mk x_2 x_3 x_4]) x_9 x_10 x_11 x_12 x_13 ∧ m_2 (x + (1 : Int)) x_1 x_6 x_7 (x_8 ++ [Comp.mk x_2 x_3 x_4]) x_9 x_10 x_11 x_12 x_13 < m_3 x x_1 x_2 x_3 x_4 x_5 x_6 x_7 x_8 x_9 x_10 x_11 x_12 x_13)))) ∧ (¬(parseS (ix (uR (unfoldS s)).fst x).Text).fst.Name = sBEGIN → ((parseS (ix (uR (unfoldS s)).fst x).Text).fst.Name = sEND → List.length (parseS (ix (uR (unfoldS s)).fst x).Text).fst.Value ≤ (10000000 : Nat) ∧ ((namedS (Prp.mk (parseS (ix (uR (unfoldS s)).fst x).Text).fst.Group (parseS (ix (uR (unfoldS s)).fst x).Text).fst.Name (parseS (ix (uR (unfoldS s)).fst x).Text).fst.Params (parseS (ix (uR (unfoldS s)).fst x).Text).fst.Value)).snd ≠ Err.nil → Q [] (atE (ix (uR (unfoldS s)).fst x).At (namedS (Prp.mk (parseS (ix (uR (unfoldS s)).fst x).Text).fst.Group (parseS (ix (uR (unfoldS s)).fst x).Text).fst.Name (parseS (ix (uR (unfoldS s)).fst x).Text).fst.Params (parseS (ix (uR (unfoldS s)).fst x).Text).fst.Value)).snd)) ∧ (¬(namedS (Prp.mk (parseS (ix (uR (unfoldS s)).fst x).Text).fst.Group (parseS (ix (uR (unfoldS s)).fst x).Text).fst.Name (parseS (ix (uR (unfoldS s)).fst x).Text).fst.Params (parseS (ix (uR (unfoldS s)).fst x).Text).fst.Value)).snd ≠ Err.nil → ((parseS (ix (uR (unfoldS s)).fst x).Text).fst.Name = sBEGIN → in64 ((0 : Int) + (1 : Int)) ∧ in64 ((0 : Int) + (1 : Int) + (1 : Int)) ∧ in64 ((0 : Int) + (1 : Int) + (1 : Int) + (1 : Int)) ∧ in64 ((0 : Int) + (1 : Int) + (1 : Int) + (1 : Int) + (1 : Int)) ∧ ((6 : Int) < (0 : Int) + (1 : Int) + (1 : Int) + (1 : Int) + (1 : Int) → Q [] (atE (ix (uR (unfoldS s)).fst x).At (Err.no (12 : Int)))) ∧ (¬(6 : Int) < (0 : Int) + (1 : Int) + (1 : Int) + (1 : Int) + (1 : Int) → in64 (x + (1 : Int)) ∧ I_4 (x + (1 : Int)) x_1 (namedS (Prp.mk (parseS (ix (uR (unfoldS s)).fst x).Text).fst.Group (parseS (ix (uR (unfoldS s)).fst x).Text).fst.Name (parseS (ix (uR (unfoldS s)).fst x).Text).fst.Params (parseS (ix (uR (unfoldS s)).fst x).Text).fst.Value)).fst [] [] (ix (uR (unfoldS s)).fst x).At x_2 x_3 x_4 x_5 x_6 x_7 x_8 x_9 x_10 x_11 x_12 x_13 ∧ m_4 (x + (1 : Int)) x_1 (namedS (Prp.mk (parseS (ix (uR (unfoldS s)).fst x).Text).fst.Group (parseS (ix (uR (unfoldS s)).fst x).Text).fst.Name (parseS (ix (uR (unfoldS s)).fst x).Text).fst.Params (parseS (ix (uR (unfoldS s)).fst x).Text).fst.Value)).fst [] [] (ix (uR (unfoldS s)).fst x).At x_2 x_3 x_4 x_5 x_6 x_7 x_8 x_9 x_10 x_11 x_12 x_13 < m_3 x x_1 x_2 x_3 x_4 x_5 x_6 x_7 x_8 x_9 x_10 x_11 x_12 x_13)) ∧ (¬(parseS (ix (uR (unfoldS s)).fst x).Text).fst.Name = sBEGIN → ((parseS (ix (uR (unfoldS s)).fst x).Text).fst.Name = sEND ∧ x_2 ≠ (namedS (Prp.mk (parseS (ix (uR (unfoldS s)).fst x).Text).fst.Group (parseS (ix (uR (unfoldS s)).fst x).Text).fst.Name (parseS (ix (uR (unfoldS s)).fst x).Text).fst.Params (parseS (ix (uR (unfoldS s)).fst x).Text).fst.Value)).fst → Q [] (atE (ix (uR (unfoldS s)).fst x).At (Err.no (11 : Int)))) ∧ (¬((parseS (ix (uR (unfoldS s)).fst x).Text).fst.Name = sEND ∧ x_2 ≠ (namedS (Prp.mk (parseS (ix (uR (unfoldS s)).fst x).Text).fst.Group (parseS (ix (uR (unfoldS s)).fst x).Text).fst.Name (parseS (ix (uR (unfoldS s)).fst x).Text).fst.Params (parseS (ix (uR (unfoldS s)).fst x).Text).fst.Value)).fst) → ((parseS (ix (uR (unfoldS s)).fst x).Text).fst.Name ≠ sEND → (x_3.length + [Prp.mk (parseS (ix (uR (unfoldS s)).fst x).Text).fst.Group (parseS (ix (uR (unfoldS s)).fst x).Text).fst.Name (parseS (ix (uR (unfoldS s)).fst x).Text).fst.Params (parseS (ix (uR (unfoldS s)).fst x).Text).fst.Value].length) * (some (72 : Nat)).getD (0 : Nat) ≤ (140737488355328 : Nat) ∧ in64 (x + (1 : Int)) ∧ I_3 (x + (1 : Int)) x_1 x_2 (x_3 ++ [Prp.mk (parseS (ix (uR (unfoldS s)).fst x).Text).fst.Group (parseS (ix (uR (unfoldS s)).fst x).Text).fst.Name (parseS (ix (uR (unfoldS s)).fst x).Text).fst.Params (parseS (ix (uR (unfoldS s)).fst x).Text).fst.Value]) x_4 x_5 x_6 x_7 x_8 x_9 x_10 x_11 x_12 x_13 ∧ m_3 (x + (1 : Int)) x_1 x_2 (x_3 ++ [Prp.mk (parseS (ix (uR (unfoldS s)).fst x).Text).fst.Group (parseS (ix (uR (unfoldS s)).fst x).Text).fst.Name (parseS (ix (uR (unfoldS s)).fst x).Text).fst.Params (parseS (ix (uR (unfoldS s)).fst x).Text).fst.Value]) x_4 x_5 x_6 x_7 x_8 x_9 x_10 x_11 x_12 x_13 < m_3 x x_1 x_2 x_3 x_4 x_5 x_6 x_7 x_8 x_9 x_10 x_11 x_12 x_13) ∧ (¬(parseS (ix (uR (unfoldS s)).fst x).Text).fst.Name ≠ sEND → ((x_8.length + [Comp.mk [] [] []].length) * (some (64 : Nat)).getD (0 : Nat) ≤ (140737488355328 : Nat) ∧ (0 : Int) ≤ (↑x_8.length : Int) ∧ (↑x_8.length : Int) < (↑(x_8 ++ [Comp.mk [] [] []]).length : Int) ∧ in64 (x + (1 : Int)) ∧ I_2 (x + (1 : Int)) x_1 x_6 x_7 ((x_8 ++ [Comp.mk [] [] []]).set (↑x_8.length : Int).toNat (Comp.mk x_2 x_3 x_4)) x_9 x_10 x_11 x_12 x_13 ∧ m_2 (x + (1 : Int)) x_1 x_6 x_7 ((x_8 ++ [Comp.mk [] [] []]).set (↑x_8.length : Int).toNat (Comp.mk x_2 x_3 x_4)) x_9 x_10 x_11 x_12 x_13 < m_3 x x_1 x_2 x_3 x_4 x_5 x_6 x_7 x_8 x_9 x_10 x_11 x_12 x_13) ∧ (x_8.length + [Comp.mk x_2 x_3 x_4].length) * (some (64 : Nat)).getD (0 : Nat) ≤ (140737488355328 : Nat) ∧ in64 (x + (1 : Int)) ∧ I_2 (x + (1 : Int)) x_1 x_6 x_7 (x_8 ++ [Comp.mk x_2 x_3 x_4]) x_9 x_10 x_11 x_12 x_13 ∧ m_2 (x + (1 : Int)) x_1 x_6 x_7 (x_8 ++ [Comp.mk x_2 x_3 x_4]) x_9 x_10 x_11 x_12 x_13 < m_3 x x_1 x_2 x_3 x_4 x_5 x_6 x_7 x_8 x_9 x_10 x_11 x_12 x_13))))) ∧ (¬(parseS (ix (uR (unfoldS s)).fst x).Text).fst.Name = sEND → ((parseS (ix (uR (unfoldS s)).fst x).Text).fst.Name = sEND ∧ x_2 ≠ [] → Q [] (atE (ix (uR (unfoldS s)).fst x).At (Err.no (11 : Int)))) ∧ (¬((parseS (ix (uR (unfoldS s)).fst x).Text).fst.Name = sEND ∧ x_2 ≠ []) → ((parseS (ix (uR (unfoldS s)).fst x).Text).fst.Name ≠ sEND → (x_3.length + [Prp.mk (parseS (ix (uR (unfoldS s)).fst x).Text).fst.Group (parseS (ix (uR (unfoldS s)).fst x).Text).fst.Name (parseS (ix (uR (unfoldS s)).fst x).Text).fst.Params (parseS (ix (uR (unfoldS s)).fst x).Text).fst.Value].length) * (some (72 : Nat)).getD (0 : Nat) ≤ (140737488355328 : Nat) ∧ in64 (x + (1 : Int)) ∧ I_3 (x + (1 : Int)) x_1 x_2 (x_3 ++ [Prp.mk (parseS (ix (uR (unfoldS s)).fst x).Text).fst.Group (parseS (ix (uR (unfoldS s)).fst x).Text).fst.Name (parseS (ix (uR (unfoldS s)).fst x).Text).fst.Params (parseS (ix (uR (unfoldS s)).fst x).Text).fst.Value]) x_4 x_5 x_6 x_7 x_8 x_9 x_10 x_11 x_12 x_13 ∧ m_3 (x + (1 : Int)) x_1 x_2 (x_3 ++ [Prp.mk (parseS (ix (uR (unfoldS s)).fst x).Text).fst.Group (parseS (ix (uR (unfoldS s)).fst x).Text).fst.Name (parseS (ix (uR (unfoldS s)).fst x).Text).fst.Params (parseS (ix (uR (unfoldS s)).fst x).Text).fst.Value]) x_4 x_5 x_6 x_7 x_8 x_9 x_10 x_11 x_12 x_13 < m_3 x x_1 x_2 x_3 x_4 x_5 x_6 x_7 x_8 x_9 x_10 x_11 x_12 x_13) ∧ (¬(parseS (ix (uR (unfoldS s)).fst x).Text).fst.Name ≠ sEND → ((x_8.length + [Comp.mk [] [] []].length) * (some (64 : Nat)).getD (0 : Nat) ≤ (140737488355328 : Nat) ∧ (0 : Int) ≤ (↑x_8.length : Int) ∧ (↑x_8.length : Int) < (↑(x_8 ++ [Comp.mk [] [] []]).length : Int) ∧ in64 (x + (1 : Int)) ∧ I_2 (x + (1 : Int)) x_1 x_6 x_7 ((x_8 ++ [Comp.mk [] [] []]).set (↑x_8.length : Int).toNat (Comp.mk x_2 x_3 x_4)) x_9 x_10 x_11 x_12 x_13 ∧ m_2 (x + (1 : Int)) x_1 x_6 x_7 ((x_8 ++ [Comp.mk [] [] []]).set (↑x_8.length : Int).toNat (Comp.mk x_2 x_3 x_4)) x_9 x_10 x_11 x_12 x_13 < m_3 x x_1 x_2 x_3 x_4 x_5 x_6 x_7 x_8 x_9 x_10 x_11 x_12 x_13) ∧ (x_8.length + [Comp.mk x_2 x_3 x_4].length) * (some (64 : Nat)).getD (0 : Nat) ≤ (140737488355328 : Nat) ∧ in64 (x + (1 : Int)) ∧ I_2 (x + (1 : Int)) x_1 x_6 x_7 (x_8 ++ [Comp.mk x_2 x_3 x_4]) x_9 x_10 x_11 x_12 x_13 ∧ m_2 (x + (1 : Int)) x_1 x_6 x_7 (x_8 ++ [Comp.mk x_2 x_3 x_4]) x_9 x_10 x_11 x_12 x_13 < m_3 x x_1 x_2 x_3 x_4 x_5 x_6 x_7 x_8 x_9 x_10 x_11 x_12 x_13))))))) ∧ (¬x < (↑(uR (unfoldS s)).fst.length : Int) → Q [] (atE x_5 (Err.no (11 : Int))))) ∧ (∀ (x : Int) (x_1 : List Comp) (x_2 : List UInt8) (x_3 : List Prp) (x_4 : List Comp) (x_5 : Int) (x_6 : List UInt8) (x_7 : List Prp) (x_8 : List Comp) (x_9 : Int) (x_10 : List UInt8) (x_11 : List Prp) (x_12 : List Comp) (x_13 : Int) (x_14 : List UInt8) (x_15 : List Prp) (x_16 : List Comp) (x_17 : Int), I_4 x x_1 x_2 x_3 x_4 x_5 x_6 x_7 x_8 x_9 x_10 x_11 x_12 x_13 x_14 x_15 x_16 x_17 → (x < (↑(uR (unfoldS s)).fst.length : Int) → (0 : Int) ≤ x ∧ x < (↑(uR (unfoldS s)).fst.length : Int) ∧ (in64 (ix (uR (unfoldS s)).fst x).At → List.length (ix (uR (unfoldS s)).fst x).Text ≤ (100000000 : Nat) ∧ ((parseS (ix (uR (unfoldS s)).fst x).Text).snd ≠ Err.nil → Q [] (atE (ix (uR (unfoldS s)).fst x).At (parseS (ix (uR (unfoldS s)).fst x).Text).snd)) ∧ (¬(parseS (ix (uR (unfoldS s)).fst x).Text).snd ≠ Err.nil → ((parseS (ix (uR (unfoldS s)).fst x).Text).fst.Name = sBEGIN → ((parseS (ix (uR (unfoldS s)).fst x).Text).fst.Name = sBEGIN → List.length (parseS (ix (uR (unfoldS s)).fst x).Text).fst.Value ≤ (10000000 : Nat) ∧ ((namedS (Prp.mk (parseS (ix (uR (unfoldS s)).fst x).Text).fst.Group (parseS (ix (uR (unfoldS s)).fst x).Text).fst.Name (parseS (ix (uR (unfoldS s)).fst x).Text).fst.Params (parseS (ix (uR (unfoldS s)).fst x).Text).fst.Value)).snd ≠ Err.nil → Q [] (atE (ix (uR (unfoldS s)).fst x).At (namedS (Prp.mk (parseS (ix (uR (unfoldS s)).fst x).Text).fst.Group (parseS (ix (uR (unfoldS s)).fst x).Text).fst.Name (parseS (ix (uR (unfoldS s)).fst x).Text).fst.Params (parseS (ix (uR (unfoldS s)).fst x).Text).fst.Value)).snd)) ∧ (¬(namedS (Prp.mk (parseS (ix (uR (unfoldS s)).fst x).Text).fst.Group (parseS (ix (uR (unfoldS s)).fst x).Text).fst.Name (parseS (ix (uR (unfoldS s)).fst x).Text).fst.Params (parseS (ix (uR (unfoldS s)).fst x).Text).fst.Value)).snd ≠ Err.nil → ((parseS (ix (uR (unfoldS s)).fst x).Text).fst.Name = sBEGIN → in64 ((0 : Int) + (1 : Int)) ∧ in64 ((0 : Int) + (1 : Int) + (1 : Int)) ∧ in64 ((0 : Int) + (1 : Int) + (1 : Int) + (1 : Int)) ∧ in64 ((0 : Int) + (1 : Int) + (1 : Int) + (1 : Int) + (1 : Int)) ∧ in64 ((0 : Int) + (1 : Int) + (1 : Int) + (1 : Int) + (1 : Int) + (1 : Int)) ∧ ((6 : Int) < (0 : Int) + (1 : Int) + (1 : Int) + (1 : Int) + (1 : Int) + (1 : Int) → Q [] (atE (ix (uR (unfoldS s)).fst x).At (Err.no (12 : Int)))) ∧ (¬(6 : Int) < (0 : Int) + (1 : Int) + (1 : Int) + (1 : Int) + (1 : Int) + (1 : Int) → in64 (x + (1 : Int)) ∧ I_5 (x + (1 : Int)) x_1 (namedS (Prp.mk (parseS (ix (uR (unfoldS s)).fst x).Text).fst.Group (parseS (ix (uR (unfoldS s)).fst x).Text).fst.Name (parseS (ix (uR (unfoldS s)).fst x).Text).fst.Params (parseS (ix (uR (unfoldS s)).fst x).Text).fst.Value)).fst [] [] (ix (uR (unfoldS s)).fst x).At x_2 x_3 x_4 x_5 x_6 x_7 x_8 x_9 x_10 x_11 x_12 x_13 x_14 x_15 x_16 x_17 ∧ m_5 (x + (1 : Int)) x_1 (namedS (Prp.mk (parseS (ix (uR (unfoldS s)).fst x).Text).fst.Group (parseS (ix (uR (unfoldS s)).fst x).Text).fst.Name (parseS (ix (uR (unfoldS s)).fst x).Text).fst.Params (parseS (ix (uR (unfoldS s)).fst x).Text).fst.Value)).fst [] [] (ix (uR (unfoldS s)).fst x).At x_2 x_3 x_4 x_5 x_6 x_7 x_8 x_9 x_10 x_11 x_12 x_13 x_14 x_15 x_16 x_17 < m_4 x x_1 x_2 x_3 x_4 x_5 x_6 x_7 x_8 x_9 x_10 x_11 x_12 x_13 x_14 x_15 x_16 x_17)) ∧ (¬(parseS (ix (uR (unfoldS s)).fst x).Text).fst.Name = sBEGIN → ((parseS (ix (uR (unfoldS s)).fst x).Text).fst.Name = sEND ∧ x_2 ≠ (namedS (Prp.mk (parseS (ix (uR (unfoldS s)).fst x).Text).fst.Group (parseS (ix (uR (unfoldS s)).fst x).Text).fst.Name (parseS (ix (uR (unfoldS s)).fst x).Text).fst.Params (parseS (ix (uR (unfoldS s)).fst x).Text).fst.Value)).fst → Q [] (atE (ix (uR (unfoldS s)).fst x).At (Err.no (11 : Int)))) ∧ (¬((parseS (ix (uR (unfoldS s)).fst x).Text).fst.Name = sEND ∧ x_2 ≠ (namedS (Prp.mk (parseS (ix (uR (unfoldS s)).fst x).Text).fst.Group (parseS (ix (uR (unfoldS s)).fst x).Text).fst.Name (parseS (ix (uR (unfoldS s)).fst x).Text).fst.Params (parseS (ix (uR (unfoldS s)).fst x).Text).fst.Value)).fst) → ((parseS (ix (uR (unfoldS s)).fst x).Text).fst.Name ≠ sEND → (x_3.length + [Prp.mk (parseS (ix (uR (unfoldS s)).fst x).Text).fst.Group (parseS (ix (uR (unfoldS s)).fst x).Text).fst.Name (parseS (ix (uR (unfoldS s)).fst x).Text).fst.Params (parseS (ix (uR (unfoldS s)).fst x).Text).fst.Value].length) * (some (72 : Nat)).getD (0 : Nat) ≤ (140737488355328 : Nat) ∧ in64 (x + (1 : Int)) ∧ I_4 (x + (1 : Int)) x_1 x_2 (x_3 ++ [Prp.mk (parseS (ix (uR (unfoldS s)).fst x).Text).fst.Group (parseS (ix (uR (unfoldS s)).fst x).Text).fst.Name (parseS (ix (uR (unfoldS s)).fst x).Text).fst.Params (parseS (ix (uR (unfoldS s)).fst x).Text).fst.Value]) x_4 x_5 x_6 x_7 x_8 x_9 x_10 x_11 x_12 x_13 x_14 x_15 x_16 x_17 ∧ m_4 (x + (1 : Int)) x_1 x_2 (x_3 ++ [Prp.mk (parseS (ix (uR (unfoldS s)).fst x).Text).fst.Group (parseS (ix (uR (unfoldS s)).fst x).Text).fst.Name (parseS (ix (uR (unfoldS s)).fst x).Text).fst.Params (parseS (ix (uR (unfoldS s)).fst x).Text).fst.Value]) x_4 x_5 x_6 x_7 x_8 x_9 x_10 x_11 x_12 x_13 x_14 x_15 x_16 x_17 < m_4 x x_1 x_2 x_3 x_4 x_5 x_6 x_7 x_8 x_9 x_10 x_11 x_12 x_13 x_14 x_15 x_16 x_17) ∧ (¬(parseS (ix (uR (unfoldS s)).fst x).Text).fst.Name ≠ sEND → ((x_8.length + [Comp.mk [] [] []].length) * (some (64 : Nat)).getD (0 : Nat) ≤ (140737488355328 : Nat) ∧ (0 : Int) ≤ (↑x_8.length : Int) ∧ (↑x_8.length : Int) < (↑(x_8 ++ [Comp.mk [] [] []]).length : Int) ∧ in64 (x + (1 : Int)) ∧ I_3 (x + (1 : Int)) x_1 x_6 x_7 ((x_8 ++ [Comp.mk [] [] []]).set (↑x_8.length : Int).toNat (Comp.mk x_2 x_3 x_4)) x_9 x_10 x_11 x_12 x_13 x_14 x_15 x_16 x_17 ∧ m_3 (x + (1 : Int)) x_1 x_6 x_7 ((x_8 ++ [Comp.mk [] [] []]).set (↑x_8.length : Int).toNat (Comp.mk x_2 x_3 x_4)) x_9 x_10 x_11 x_12 x_13 x_14 x_15 x_16 x_17 < m_4 x x_1 x_2 x_3 x_4 x_5 x_6 x_7 x_8 x_9 x_10 x_11 x_12 x_13 x_14 x_15 x_16 x_17) ∧ (x_8.length + [Comp.mk x_2 x_3 x_4].length) * (some (64 : Nat)).getD (0 : Nat) ≤ (140737488355328 : Nat) ∧ in64 (x + (1 : Int)) ∧ I_3 (x + (1 : Int)) x_1 x_6 x_7 (x_8 ++ [Comp.mk x_2 x_3 x_4]) x_9 x_10 x_11 x_12 x_13 x_14 x_15 x_16 x_17 ∧ m_3 (x + (1 : Int)) x_1 x_6 x_7 (x_8 ++ [Comp.mk x_2 x_3 x_4]) x_9 x_10 x_11 x_12 x_13 x_14 x_15 x_16 x_17 < m_4 x x_1 x_2 x_3 x_4 x_5 x_6 x_7 x_8 x_9 x_10 x_11 x_12 x_13 x_14 x_15 x_16 x_17))))) ∧ (¬(parseS (ix (uR (unfoldS s)).fst x).Text).fst.Name = sBEGIN → ((parseS (ix (uR (unfoldS s)).fst x).Text).fst.Name = sEND ∧ x_2 ≠ [] → Q [] (atE (ix (uR (unfoldS s)).fst x).At (Err.no (11 : Int)))) ∧ (¬((parseS (ix (uR (unfoldS s)).fst x).Text).fst.Name = sEND ∧ x_2 ≠ []) → ((parseS (ix (uR (unfoldS s)).fst x).Text).fst.Name ≠ sEND → (x_3.length + [Prp.mk (parseS (ix (uR (unfoldS s)).fst x).Text).fst.Group (parseS (ix (uR (unfoldS s)).fst x).Text).fst.Name (parseS (ix (uR (unfoldS s)).fst x).Text).fst.Params (parseS (ix (uR (unfoldS s)).fst x).Text).fst.Value].length) * (some (72 : Nat)).getD (0 : Nat) ≤ (140737488355328 : Nat) ∧ in64 (x + (1 : Int)) ∧ I_4 (x + (1 : Int)) x_1 x_2 (x_3 ++ [Prp.mk (parseS (ix (uR (unfoldS s)).fst x).Text).fst.Group (parseS (ix (uR (unfoldS s)).fst x).Text).fst.Name (parseS (ix (uR (unfoldS s)).fst x).Text).fst.Params (parseS (ix (uR (unfoldS s)).fst x).Text).fst.Value]) x_4 x_5 x_6 x_7 x_8 x_9 x_10 x_11 x_12 x_13 x_14 x_15 x_16 x_17 ∧ m_4 (x + (1 : Int)) x_1 x_2 (x_3 ++ [Prp.mk (parseS (ix (uR (unfoldS s)).fst x).Text).fst.Group (parseS (ix (uR (unfoldS s)).fst x).Text).fst.Name (parseS (ix (uR (unfoldS s)).fst x).Text).fst.Params (parseS (ix (uR (unfoldS s)).fst x).Text).fst.Value]) x_4 x_5 x_6 x_7 x_8 x_9 x_10 x_11 x_12 x_13 x_14 x_15 x_16 x_17 < m_4 x x_1 x_2 x_3 x_4 x_5 x_6 x_7 x_8 x_9 x_10 x_11 x_12 x_13 x_14 x_15 x_16 x_17) ∧ (¬(parseS (ix (uR (unfoldS s)).fst x).Text).fst.Name ≠ sEND → ((x_8.length + [Comp.mk [] [] []].length) * (some (64 : Nat)).getD (0 : Nat) ≤ (140737488355328 : Nat) ∧ (0 : Int) ≤ (↑x_8.length : Int) ∧ (↑x_8.length : Int) < (↑(x_8 ++ [Comp.mk [] [] []]).length : Int) ∧ in64 (x + (1 : Int)) ∧ I_3 (x + (1 : Int)) x_1 x_6 x_7 ((x_8 ++ [Comp.mk [] [] []]).set (↑x_8.length : Int).toNat (Comp.mk x_2 x_3 x_4)) x_9 x_10 x_11 x_12 x_13 x_14 x_15 x_16 x_17 ∧ m_3 (x + (1 : Int)) x_1 x_6 x_7 ((x_8 ++ [Comp.mk [] [] []]).set (↑x_8.length : Int).toNat (Comp.mk x_2 x_3 x_4)) x_9 x_10 x_11 x_12 x_13 x_14 x_15 x_16 x_17 < m_4 x x_1 x_2 x_3 x_4 x_5 x_6 x_7 x_8 x_9 x_10 x_11 x_12 x_13 x_14 x_15 x_16 x_17) ∧ (x_8.length + [Comp.mk x_2 x_3 x_4].length) * (some (64 : Nat)).getD (0 : Nat) ≤ (140737488355328 : Nat) ∧ in64 (x + (1 : Int)) ∧ I_3 (x + (1 : Int)) x_1 x_6 x_7 (x_8 ++ [Comp.mk x_2 x_3 x_4]) x_9 x_10 x_11 x_12 x_13 x_14 x_15 x_16 x_17 ∧ m_3 (x + (1 : Int)) x_1 x_6 x_7 (x_8 ++ [Comp.mk x_2 x_3 x_4]) x_9 x_10 x_11 x_12 x_13 x_14 x_15 x_16 x_17 < m_4 x x_1 x_2 x_3 x_4 x_5 x_6 x_7 x_8 x_9 x_10 x_11 x_12 x_13 x_14 x_15 x_16 x_17)))) ∧ (¬(parseS (ix (uR (unfoldS s)).fst x).Text).fst.Name = sBEGIN → ((parseS (ix (uR (unfoldS s)).fst x).Text).fst.Name = sEND → List.length (parseS (ix (uR (unfoldS s)).fst x).Text).fst.Value ≤ (10000000 : Nat) ∧ ((namedS (Prp.mk (parseS (ix (uR (unfoldS s)).fst x).Text).fst.Group (parseS (ix (uR (unfoldS s)).fst x).Text).fst.Name (parseS (ix (uR (unfoldS s)).fst x).Text).fst.Params (parseS (ix (uR (unfoldS s)).fst x).Text).fst.Value)).snd ≠ Err.nil → Q [] (atE (ix (uR (unfoldS s)).fst x).At (namedS (Prp.mk (parseS (ix (uR (unfoldS s)).fst x).Text).fst.Group (parseS (ix (uR (unfoldS s)).fst x).Text).fst.Name (parseS (ix (uR (unfoldS s)).fst x).Text).fst.Params (parseS (ix (uR (unfoldS s)).fst x).Text).fst.Value)).snd)) ∧ (¬(namedS (Prp.mk (parseS (ix (uR (unfoldS s)).fst x).Text).fst.Group (parseS (ix (uR (unfoldS s)).fst x).Text).fst.Name (parseS (ix (uR (unfoldS s)).fst x).Text).fst.Params (parseS (ix (uR (unfoldS s)).fst x).Text).fst.Value)).snd ≠ Err.nil → ((parseS (ix (uR (unfoldS s)).fst x).Text).fst.Name = sBEGIN → in64 ((0 : Int) + (1 : Int)) ∧ in64 ((0 : Int) + (1 : Int) + (1 : Int)) ∧ in64 ((0 : Int) + (1 : Int) + (1 : Int) + (1 : Int)) ∧ in64 ((0 : Int) + (1 : Int) + (1 : Int) + (1 : Int) + (1 : Int)) ∧ in64 ((0 : Int) + (1 : Int) + (1 : Int) + (1 : Int) + (1 : Int) + (1 : Int)) ∧ ((6 : Int) < (0 : Int) + (1 : Int) + (1 : Int) + (1 : Int) + (1 : Int) + (1 : Int) → Q [] (atE (ix (uR (unfoldS s)).fst x).At (Err.no (12 : Int)))) ∧ (¬(6 : Int) < (0 : Int) + (1 : Int) + (1 : Int) + (1 : Int) + (1 : Int) + (1 : Int) → in64 (x + (1 : Int)) ∧ I_5 (x + (1 : Int)) x_1 (namedS (Prp.mk (parseS (ix (uR (unfoldS s)).fst x).Text).fst.Group (parseS (ix (uR (unfoldS s)).fst x).Text).fst.Name (parseS (ix (uR (unfoldS s)).fst x).Text).fst.Params (parseS (ix (uR (unfoldS s)).fst x).Text).fst.Value)).fst [] [] (ix (uR (unfoldS s)).fst x).At x_2 x_3 x_4 x_5 x_6 x_7 x_8 x_9 x_10 x_11 x_12 x_13 x_14 x_15 x_16 x_17 ∧ m_5 (x + (1 : Int)) x_1 (namedS (Prp.mk (parseS (ix (uR (unfoldS s)).fst x).Text).fst.Group (parseS (ix (uR (unfoldS s)).fst x).Text).fst.Name (parseS (ix (uR (unfoldS s)).fst x).Text).fst.Params (parseS (ix (uR (unfoldS s)).fst x).Text).fst.Value)).fst [] [] (ix (uR (unfoldS s)).fst x).At x_2 x_3 x_4 x_5 x_6 x_7 x_8 x_9 x_10 x_11 x_12 x_13 x_14 x_15 x_16 x_17 < m_4 x x_1 x_2 x_3 x_4 x_5 x_6 x_7 x_8 x_9 x_10 x_11 x_12 x_13 x_14 x_15 x_16 x_17)) ∧ (¬(parseS (ix (uR (unfoldS s)).fst x).Text).fst.Name = sBEGIN → ((parseS (ix (uR (unfoldS s)).fst x).Text).fst.Name = sEND ∧ x_2 ≠ (namedS (Prp.mk (parseS (ix (uR (unfoldS s)).fst x).Text).fst.Group (parseS (ix (uR (unfoldS s)).fst x).Text).fst.Name (parseS (ix (uR (unfoldS s)).fst x).Text).fst.Params (parseS (ix (uR (unfoldS s)).fst x).Text).fst.Value)).fst → Q [] (atE (ix (uR (unfoldS s)).fst x).At (Err.no (11 : Int)))) ∧ (¬((parseS (ix (uR (unfoldS s)).fst x).Text).fst.Name = sEND ∧ x_2 ≠ (namedS (Prp.mk (parseS (ix (uR (unfoldS s)).fst x).Text).fst.Group (parseS (ix (uR (unfoldS s)).fst x).Text).fst.Name (parseS (ix (uR (unfoldS s)).fst x).Text).fst.Params (parseS (ix (uR (unfoldS s)).fst x).Text).fst.Value)).fst) → ((parseS (ix (uR (unfoldS s)).fst x).Text).fst.Name ≠ sEND → (x_3.length + [Prp.mk (parseS (ix (uR (unfoldS s)).fst x).Text).fst.Group (parseS (ix (uR (unfoldS s)).fst x).Text).fst.Name (parseS (ix (uR (unfoldS s)).fst x).Text).fst.Params (parseS (ix (uR (unfoldS s)).fst x).Text).fst.Value].length) * (some (72 : Nat)).getD (0 : Nat) ≤ (140737488355328 : Nat) ∧ in64 (x + (1 : Int)) ∧ I_4 (x + (1 : Int)) x_1 x_2 (x_3 ++ [Prp.mk (parseS (ix (uR (unfoldS s)).fst x).Text).fst.Group (parseS (ix (uR (unfoldS s)).fst x).Text).fst.Name (parseS (ix (uR (unfoldS s)).fst x).Text).fst.Params (parseS (ix (uR (unfoldS s)).fst x).Text).fst.Value]) x_4 x_5 x_6 x_7 x_8 x_9 x_10 x_11 x_12 x_13 x_14 x_15 x_16 x_17 ∧ m_4 (x + (1 : Int)) x_1 x_2 (x_3 ++ [Prp.mk (parseS (ix (uR (unfoldS s)).fst x).Text).fst.Group (parseS (ix (uR (unfoldS s)).fst x).Text).fst.Name (parseS (ix (uR (unfoldS s)).fst x).Text).fst.Params (parseS (ix (uR (unfoldS s)).fst x).Text).fst.Value]) x_4 x_5 x_6 x_7 x_8 x_9 x_10 x_11 x_12 x_13 x_14 x_15 x_16 x_17 < m_4 x x_1 x_2 x_3 x_4 x_5 x_6 x_7 x_8 x_9 x_10 x_11 x_12 x_13 x_14 x_15 x_16 x_17) ∧ (¬(parseS (ix (uR (unfoldS s)).fst x).Text).fst.Name ≠ sEND → ((x_8.length + [Comp.mk [] [] []].length) * (some (64 : Nat)).getD (0 : Nat) ≤ (140737488355328 : Nat) ∧ (0 : Int) ≤ (↑x_8.length : Int) ∧ (↑x_8.length : Int) < (↑(x_8 ++ [Comp.mk [] [] []]).length : Int) ∧ in64 (x + (1 : Int)) ∧ I_3 (x + (1 : Int)) x_1 x_6 x_7 ((x_8 ++ [Comp.mk [] [] []]).set (↑x_8.length : Int).toNat (Comp.mk x_2 x_3 x_4)) x_9 x_10 x_11 x_12 x_13 x_14 x_15 x_16 x_17 ∧ m_3 (x + (1 : Int)) x_1 x_6 x_7 ((x_8 ++ [Comp.mk [] [] []]).set (↑x_8.length : Int).toNat (Comp.mk x_2 x_3 x_4)) x_9 x_10 x_11 x_12 x_13 x_14 x_15 x_16 x_17 < m_4 x x_1 x_2 x_3 x_4 x_5 x_6 x_7 x_8 x_9 x_10 x_11 x_12 x_13 x_14 x_15 x_16 x_17) ∧ (x_8.length + [Comp.mk x_2 x_3 x_4].length) * (some (64 : Nat)).getD (0 : Nat) ≤ (140737488355328 : Nat) ∧ in64 (x + (1 : Int)) ∧ I_3 (x + (1 : Int)) x_1 x_6 x_7 (x_8 ++ [Comp.mk x_2 x_3 x_4]) x_9 x_10 x_11 x_12 x_13 x_14 x_15 x_16 x_17 ∧ m_3 (x + (1 : Int)) x_1 x_6 x_7 (x_8 ++ [Comp.mk x_2 x_3 x_4]) x_9 x_10 x_11 x_12 x_13 x_14 x_15 x_16 x_17 < m_4 x x_1 x_2 x_3 x_4 x_5 x_6 x_7 x_8 x_9 x_10 x_11 x_12 x_13 x_14 x_15 x_16 x_17))))) ∧ (¬(parseS (ix (uR (unfoldS s)).fst x).Text).fst.Name = sEND → ((parseS (ix (uR (unfoldS s)).fst x).Text).fst.Name = sEND ∧ x_2 ≠ [] → Q [] (atE (ix (uR (unfoldS s)).fst x).At (Err.no (11 : Int)))) ∧ (¬((parseS (ix (uR (unfoldS s)).fst x).Text).fst.Name = sEND ∧ x_2 ≠ []) → ((parseS (ix (uR (unfoldS s)).fst x).Text).fst.Name ≠ sEND → (x_3.length + [Prp.mk (parseS (ix (uR (unfoldS s)).fst x).Text).fst.Group (parseS (ix (uR (unfoldS s)).fst x).Text).fst.Name (parseS (ix (uR (unfoldS s)).fst x).Text).fst.Params (parseS (ix (uR (unfoldS s)).fst x).Text).fst.Value].length) * (some (72 : Nat)).getD (0 : Nat) ≤ (140737488355328 : Nat) ∧ in64 (x + (1 : Int)) ∧ I_4 (x + (1 : Int)) x_1 x_2 (x_3 ++ [Prp.mk (parseS (ix (uR (unfoldS s)).fst x).Text).fst.Group (parseS (ix (uR (unfoldS s)).fst x).Text).fst.Name (parseS (ix (uR (unfoldS s)).fst x).Text).fst.Params (parseS (ix (uR (unfoldS s)).fst x).Text).fst.Value]) x_4 x_5 x_6 x_7 x_8 x_9 x_10 x_11 x_12 x_13 x_14 x_15 x_16 x_17 ∧ m_4 (x + (1 : Int)) x_1 x_2 (x_3 ++ [Prp.mk (parseS (ix (uR (unfoldS s)).fst x).Text).fst.Group (parseS (ix (uR (unfoldS s)).fst x).Text).fst.Name (parseS (ix (uR (unfoldS s)).fst x).Text).fst.Params (parseS (ix (uR (unfoldS s)).fst x).Text).fst.Value]) x_4 x_5 x_6 x_7 x_8 x_9 x_10 x_11 x_12 x_13 x_14 x_15 x_16 x_17 < m_4 x x_1 x_2 x_3 x_4 x_5 x_6 x_7 x_8 x_9 x_10 x_11 x_12 x_13 x_14 x_15 x_16 x_17) ∧ (¬(parseS (ix (uR (unfoldS s)).fst x).Text).fst.Name ≠ sEND → ((x_8.length + [Comp.mk [] [] []].length) * (some (64 : Nat)).getD (0 : Nat) ≤ (140737488355328 : Nat) ∧ (0 : Int) ≤ (↑x_8.length : Int) ∧ (↑x_8.length : Int) < (↑(x_8 ++ [Comp.mk [] [] []]).length : Int) ∧ in64 (x + (1 : Int)) ∧ I_3 (x + (1 : Int)) x_1 x_6 x_7 ((x_8 ++ [Comp.mk [] [] []]).set (↑x_8.length : Int).toNat (Comp.mk x_2 x_3 x_4)) x_9 x_10 x_11 x_12 x_13 x_14 x_15 x_16 x_17 ∧ m_3 (x + (1 : Int)) x_1 x_6 x_7 ((x_8 ++ [Comp.mk [] [] []]).set (↑x_8.length : Int).toNat (Comp.mk x_2 x_3 x_4)) x_9 x_10 x_11 x_12 x_13 x_14 x_15 x_16 x_17 < m_4 x x_1 x_2 x_3 x_4 x_5 x_6 x_7 x_8 x_9 x_10 x_11 x_12 x_13 x_14 x_15 x_16 x_17) ∧ (x_8.length + [Comp.mk x_2 x_3 x_4].length) * (some (64 : Nat)).getD (0 : Nat) ≤ (140737488355328 : Nat) ∧ in64 (x + (1 : Int)) ∧ I_3 (x + (1 : Int)) x_1 x_6 x_7 (x_8 ++ [Comp.mk x_2 x_3 x_4]) x_9 x_10 x_11 x_12 x_13 x_14 x_15 x_16 x_17 ∧ m_3 (x + (1 : Int)) x_1 x_6 x_7 (x_8 ++ [Comp.mk x_2 x_3 x_4]) x_9 x_10 x_11 x_12 x_13 x_14 x_15 x_16 x_17 < m_4 x x_1 x_2 x_3 x_4 x_5 x_6 x_7 x_8 x_9 x_10 x_11 x_12 x_13 x_14 x_15 x_16 x_17))))))) ∧ (¬x < (↑(uR (unfoldS s)).fst.length : Int) → Q [] (atE x_5 (Err.no (11 : Int))))) ∧ (∀ (x : Int) (x_1 : List Comp) (x_2 : List UInt8) (x_3 : List Prp) (x_4 : List Comp) (x_5 : Int) (x_6 : List UInt8) (x_7 : List Prp) (x_8 : List Comp) (x_9 : Int) (x_10 : List UInt8) (x_11 : List Prp) (x_12 : List Comp) (x_13 : Int) (x_14 : List UInt8) (x_15 : List Prp) (x_16 : List Comp) (x_17 : Int) (x_18 : List UInt8) (x_19 : List Prp) (x_20 : List Comp) (x_21 : Int), I_5 x x_1 x_2 x_3 x_4 x_5 x_6 x_7 x_8 x_9 x_10 x_11 x_12 x_13 x_14 x_15 x_16 x_17 x_18 x_19 x_20 x_21 → (x < (↑(uR (unfoldS s)).fst.length : Int) → (0 : Int) ≤ x ∧ x < (↑(uR (unfoldS s)).fst.length : Int) ∧ (in64 (ix (uR (unfoldS s)).fst x).At → List.length (ix (uR (unfoldS s)).fst x).Text ≤ (100000000 : Nat) ∧ ((parseS (ix (uR (unfoldS s)).fst x).Text).snd ≠ Err.nil → Q [] (atE (ix (uR (unfoldS s)).fst x).At (parseS (ix (uR (unfoldS s)).fst x).Text).snd)) ∧ (¬(parseS (ix (uR (unfoldS s)).fst x).Text).snd ≠ Err.nil → ((parseS (ix (uR (unfoldS s)).fst x).Text).fst.Name = sBEGIN → ((parseS (ix (uR (unfoldS s)).fst x).Text).fst.Name = sBEGIN → List.length (parseS (ix (uR (unfoldS s)).fst x).Text).fst.Value ≤ (10000000 : Nat) ∧ ((namedS (Prp.mk (parseS (ix (uR (unfoldS s)).fst x).Text).fst.Group (parseS (ix (uR (unfoldS s)).fst x).Text).fst.Name (parseS (ix (uR (unfoldS s)).fst x).Text).fst.Params (parseS (ix (uR (unfoldS s)).fst x).Text).fst.Value)).snd ≠ Err.nil → Q [] (atE (ix (uR (unfoldS s)).fst x).At (namedS (Prp.mk (parseS (ix (uR (unfoldS s)).fst x).Text).fst.Group (parseS (ix (uR (unfoldS s)).fst x).Text).fst.Name (parseS (ix (uR (unfoldS s)).fst x).Text).fst.Params (parseS (ix (uR (unfoldS s)).fst x).Text).fst.Value)).snd)) ∧ (¬(namedS (Prp.mk (parseS (ix (uR (unfoldS s)).fst x).Text).fst.Group (parseS (ix (uR (unfoldS s)).fst x).Text).fst.Name (parseS (ix (uR (unfoldS s)).fst x).Text).fst.Params (parseS (ix (uR (unfoldS s)).fst x).Text).fst.Value)).snd ≠ Err.nil → ((parseS (ix (uR (unfoldS s)).fst x).Text).fst.Name = sBEGIN → in64 ((0 : Int) + (1 : Int)) ∧ in64 ((0 : Int) + (1 : Int) + (1 : Int)) ∧ in64 ((0 : Int) + (1 : Int) + (1 : Int) + (1 : Int)) ∧ in64 ((0 : Int) + (1 : Int) + (1 : Int) + (1 : Int) + (1 : Int)) ∧ in64 ((0 : Int) + (1 : Int) + (1 : Int) + (1 : Int) + (1 : Int) + (1 : Int)) ∧ in64 ((0 : Int) + (1 : Int) + (1 : Int) + (1 : Int) + (1 : Int) + (1 : Int) + (1 : Int)) ∧ ((6 : Int) < (0 : Int) + (1 : Int) + (1 : Int) + (1 : Int) + (1 : Int) + (1 : Int) + (1 : Int) → Q [] (atE (ix (uR (unfoldS s)).fst x).At (Err.no (12 : Int)))) ∧ (¬(6 : Int) < (0 : Int) + (1 : Int) + (1 : Int) + (1 : Int) + (1 : Int) + (1 : Int) + (1 : Int) → in64 (x + (1 : Int)) ∧ I_6 (x + (1 : Int)) x_1 (namedS (Prp.mk (parseS (ix (uR (unfoldS s)).fst x).Text).fst.Group (parseS (ix (uR (unfoldS s)).fst x).Text).fst.Name (parseS (ix (uR (unfoldS s)).fst x).Text).fst.Params (parseS (ix (uR (unfoldS s)).fst x).Text).fst.Value)).fst [] [] (ix (uR (unfoldS s)).fst x).At x_2 x_3 x_4 x_5 x_6 x_7 x_8 x_9 x_10 x_11 x_12 x_13 x_14 x_15 x_16 x_17 x_18 x_19 x_20 x_21 ∧ m_6 (x + (1 : Int)) x_1 (namedS (Prp.mk (parseS (ix (uR (unfoldS s)).fst x).Text).fst.Group (parseS (ix (uR (unfoldS s)).fst x).Text).fst.Name (parseS (ix (uR (unfoldS s)).fst x).Text).fst.Params (parseS (ix (uR (unfoldS s)).fst x).Text).fst.Value)).fst [] [] (ix (uR (unfoldS s)).fst x).At x_2 x_3 x_4 x_5 x_6 x_7 x_8 x_9 x_10 x_11 x_12 x_13 x_14 x_15 x_16 x_17 x_18 x_19 x_20 x_21 < m_5 x x_1 x_2 x_3 x_4 x_5 x_6 x_7 x_8 x_9 x_10 x_11 x_12 x_13 x_14 x_15 x_16 x_17 x_18 x_19 x_20 x_21)) ∧ (¬(parseS (ix (uR (unfoldS s)).fst x).Text).fst.Name = sBEGIN → ((parseS (ix (uR (unfoldS s)).fst x).Text).fst.Name = sEND ∧ x_2 ≠ (namedS (Prp.mk (parseS (ix (uR (unfoldS s)).fst x).Text).fst.Group (parseS (ix (uR (unfoldS s)).fst x).Text).fst.Name (parseS (ix (uR (unfoldS s)).fst x).Text).fst.Params (parseS (ix (uR (unfoldS s)).fst x).Text).fst.Value)).fst → Q [] (atE (ix (uR (unfoldS s)).fst x).At (Err.no (11 : Int)))) ∧ (¬((parseS (ix (uR (unfoldS s)).fst x).Text).fst.Name = sEND ∧ x_2 ≠ (namedS (Prp.mk (parseS (ix (uR (unfoldS s)).fst x).Text).fst.Group (parseS (ix (uR (unfoldS s)).fst x).Text).fst.Name (parseS (ix (uR (unfoldS s)).fst x).Text).fst.Params (parseS (ix (uR (unfoldS s)).fst x).Text).fst.Value)).fst) → ((parseS (ix (uR (unfoldS s)).fst x).Text).fst.Name ≠ sEND → (x_3.length + [Prp.mk (parseS (ix (uR (unfoldS s)).fst x).Text).fst.Group (parseS (ix (uR (unfoldS s)).fst x).Text).fst.Name (parseS (ix (uR (unfoldS s)).fst x).Text).fst.Params (parseS (ix (uR (unfoldS s)).fst x).Text).fst.Value].length) * (some (72 : Nat)).getD (0 : Nat) ≤ (140737488355328 : Nat) ∧ in64 (x + (1 : Int)) ∧ I_5 (x + (1 : Int)) x_1 x_2 (x_3 ++ [Prp.mk (parseS (ix (uR (unfoldS s)).fst x).Text).fst.Group (parseS (ix (uR (unfoldS s)).fst x).Text).fst.Name (parseS (ix (uR (unfoldS s)).fst x).Text).fst.Params (parseS (ix (uR (unfoldS s)).fst x).Text).fst.Value]) x_4 x_5 x_6 x_7 x_8 x_9 x_10 x_11 x_12 x_13 x_14 x_15 x_16 x_17 x_18 x_19 x_20 x_21 ∧ m_5 (x + (1 : Int)) x_1 x_2 (x_3 ++ [Prp.mk (parseS (ix (uR (unfoldS s)).fst x).Text).fst.Group (parseS (ix (uR (unfoldS s)).fst x).Text).fst.Name (parseS (ix (uR (unfoldS s)).fst x).Text).fst.Params (parseS (ix (uR (unfoldS s)).fst x).Text).fst.Value]) x_4 x_5 x_6 x_7 x_8 x_9 x_10 x_11 x_12 x_13 x_14 x_15 x_16 x_17 x_18 x_19 x_20 x_21 < m_5 x x_1 x_2 x_3 x_4 x_5 x_6 x_7 x_8 x_9 x_10 x_11 x_12 x_13 x_14 x_15 x_16 x_17 x_18 x_19 x_20 x_21) ∧ (¬(parseS (ix (uR (unfoldS s)).fst x).Text).fst.Name ≠ sEND → ((x_8.length + [Comp.mk [] [] []].length) * (some (64 : Nat)).getD (0 : Nat) ≤ (140737488355328 : Nat) ∧ (0 : Int) ≤ (↑x_8.length : Int) ∧ (↑x_8.length : Int) < (↑(x_8 ++ [Comp.mk [] [] []]).length : Int) ∧ in64 (x + (1 : Int)) ∧ I_4 (x + (1 : Int)) x_1 x_6 x_7 ((x_8 ++ [Comp.mk [] [] []]).set (↑x_8.length : Int).toNat (Comp.mk x_2 x_3 x_4)) x_9 x_10 x_11 x_12 x_13 x_14 x_15 x_16 x_17 x_18 x_19 x_20 x_21 ∧ m_4 (x + (1 : Int)) x_1 x_6 x_7 ((x_8 ++ [Comp.mk [] [] []]).set (↑x_8.length : Int).toNat (Comp.mk x_2 x_3 x_4)) x_9 x_10 x_11 x_12 x_13 x_14 x_15 x_16 x_17 x_18 x_19 x_20 x_21 < m_5 x x_1 x_2 x_3 x_4 x_5 x_6 x_7 x_8 x_9 x_10 x_11 x_12 x_13 x_14 x_15 x_16 x_17 x_18 x_19 x_20 x_21) ∧ (x_8.length + [Comp.mk x_2 x_3 x_4].length) * (some (64 : Nat)).getD (0 : Nat) ≤ (140737488355328 : Nat) ∧ in64 (x + (1 : Int)) ∧ I_4 (x + (1 : Int)) x_1 x_6 x_7 (x_8 ++ [Comp.mk x_2 x_3 x_4]) x_9 x_10 x_11 x_12 x_13 x_14 x_15 x_16 x_17 x_18 x_19 x_20 x_21 ∧ m_4 (x + (1 : Int)) x_1 x_6 x_7 (x_8 ++ [Comp.mk x_2 x_3 x_4]) x_9 x_10 x_11 x_12 x_13 x_14 x_15 x_16 x_17 x_18 x_19 x_20 x_21 < m_5 x x_1 x_2 x_3 x_4 x_5 x_6 x_7 x_8 x_9 x_10 x_11 x_12 x_13 x_14 x_15 x_16 x_17 x_18 x_19 x_20 x_21))))) ∧ (¬(parseS (ix (uR (unfoldS s)).fst x).Text).fst.Name = sBEGIN → ((parseS (ix (uR (unfoldS s)).fst x).Text).fst.Name = sEND ∧ x_2 ≠ [] → Q [] (atE (ix (uR (unfoldS s)).fst x).At (Err.no (11 : Int)))) ∧ (¬((parseS (ix (uR (unfoldS s)).fst x).Text).fst.Name = sEND ∧ x_2 ≠ []) → ((parseS (ix (uR (unfoldS s)).fst x).Text).fst.Name ≠ sEND → (x_3.length + [Prp.mk (parseS (ix (uR (unfoldS s)).fst x).Text).fst.Group (parseS (ix (uR (unfoldS s)).fst x).Text).fst.Name (parseS (ix (uR (unfoldS s)).fst x).Text).fst.Params (parseS (ix (uR (unfoldS s)).fst x).Text).fst.Value].length) * (some (72 : Nat)).getD (0 : Nat) ≤ (140737488355328 : Nat) ∧ in64 (x + (1 : Int)) ∧ I_5 (x + (1 : Int)) x_1 x_2 (x_3 ++ [Prp.mk (parseS (ix (uR (unfoldS s)).fst x).Text).fst.Group (parseS (ix (uR (unfoldS s)).fst x).Text).fst.Name (parseS (ix (uR (unfoldS s)).fst x).Text).fst.Params (parseS (ix (uR (unfoldS s)).fst x).Text).fst.Value]) x_4 x_5 x_6 x_7 x_8 x_9 x_10 x_11 x_12 x_13 x_14 x_15 x_16 x_17 x_18 x_19 x_20 x_21 ∧ m_5 (x + (1 : Int)) x_1 x_2 (x_3 ++ [Prp.mk (parseS (ix (uR (unfoldS s)).fst x).Text).fst.Group (parseS (ix (uR (unfoldS s)).fst x).Text).fst.Name (parseS (ix (uR (unfoldS s)).fst x).Text).fst.Params (parseS (ix (uR (unfoldS s)).fst x).Text).fst.Value]) x_4 x_5 x_6 x_7 x_8 x_9 x_10 x_11 x_12 x_13 x_14 x_15 x_16 x_17 x_18 x_19 x_20 x_21 < m_5 x x_1 x_2 x_3 x_4 x_5 x_6 x_7 x_8 x_9 x_10 x_11 x_12 x_13 x_14 x_15 x_16 x_17 x_18 x_19 x_20 x_21) ∧ (¬(parseS (ix (uR (unfoldS s)).fst x).Text).fst.Name ≠ sEND → ((x_8.length + [Comp.mk [] [] []].length) * (some (64 : Nat)).getD (0 : Nat) ≤ (140737488355328 : Nat) ∧ (0 : Int) ≤ (↑x_8.length : Int) ∧ (↑x_8.length : Int) < (↑(x_8 ++ [Comp.mk [] [] []]).length : Int) ∧ in64 (x + (1 : Int)) ∧ I_4 (x + (1 : Int)) x_1 x_6 x_7 ((x_8 ++ [Comp.mk [] [] []]).set (↑x_8.length : Int).toNat (Comp.mk x_2 x_3 x_4)) x_9 x_10 x_11 x_12 x_13 x_14 x_15 x_16 x_17 x_18 x_19 x_20 x_21 ∧ m_4 (x + (1 : Int)) x_1 x_6 x_7 ((x_8 ++ [Comp.mk [] [] []]).set (↑x_8.length : Int).toNat (Comp.mk x_2 x_3 x_4)) x_9 x_10 x_11 x_12 x_13 x_14 x_15 x_16 x_17 x_18 x_19 x_20 x_21 < m_5 x x_1 x_2 x_3 x_4 x_5 x_6 x_7 x_8 x_9 x_10 x_11 x_12 x_13 x_14 x_15 x_16 x_17 x_18 x_19 x_20 x_21) ∧ (x_8.length + [Comp.mk x_2 x_3 x_4].length) * (some (64 : Nat)).getD (0 : Nat) ≤ (140737488355328 : Nat) ∧ in64 (x + (1 : Int)) ∧ I_4 (x + (1 : Int)) x_1 x_6 x_7 (x_8 ++ [Comp.mk x_2 x_3 x_4]) x_9 x_10 x_11 x_12 x_13 x_14 x_15 x_16 x_17 x_18 x_19 x_20 x_21 ∧ m_4 (x + (1 : Int)) x_1 x_6 x_7 (x_8 ++ [Comp.mk x_2 x_3 x_4]) x_9 x_10 x_11 x_12 x_13 x_14 x_15 x_16 x_17 x_18 x_19 x_20 x_21 < m_5 x x_1 x_2 x_3 x_4 x_5 x_6 x_7 x_8 x_9 x_10 x_11 x_12 x_13 x_14 x_15 x_16 x_17 x_18 x_19 x_20 x_21)))) ∧ (¬(parseS (ix (uR (unfoldS s)).fst x).Text).fst.Name = sBEGIN → ((parseS (ix (uR (unfoldS s)).fst x).Text).fst.Name = sEND → List.length (parseS (ix (uR (unfoldS s)).fst x).Text).fst.Value ≤ (10000000 : Nat) ∧ ((namedS (Prp.mk (parseS (ix (uR (unfoldS s)).fst x).Text).fst.Group (parseS (ix (uR (unfoldS s)).fst x).Text).fst.Name (parseS (ix (uR (unfoldS s)).fst x).Text).fst.Params (parseS (ix (uR (unfoldS s)).fst x).Text).fst.Value)).snd ≠ Err.nil → Q [] (atE (ix (uR (unfoldS s)).fst x).At (namedS (Prp.mk (parseS (ix (uR (unfoldS s)).fst x).Text).fst.Group (parseS (ix (uR (unfoldS s)).fst x).Text).fst.Name (parseS (ix (uR (unfoldS s)).fst x).Text).fst.Params (parseS (ix (uR (unfoldS s)).fst x).Text).fst.Value)).snd)) ∧ (¬(namedS (Prp.mk (parseS (ix (uR (unfoldS s)).fst x).Text).fst.Group (parseS (ix (uR (unfoldS s)).fst x).Text).fst.Name (parseS (ix (uR (unfoldS s)).fst x).Text).fst.Params (parseS (ix (uR (unfoldS s)).fst x).Text).fst.Value)).snd ≠ Err.nil → ((parseS (ix (uR (unfoldS s)).fst x).Text).fst.Name = sBEGIN → in64 ((0 : Int) + (1 : Int)) ∧ in64 ((0 : Int) + (1 : Int) + (1 : Int)) ∧ in64 ((0 : Int) + (1 : Int) + (1 : Int) + (1 : Int)) ∧ in64 ((0 : Int) + (1 : Int) + (1 : Int) + (1 : Int) + (1 : Int)) ∧ in64 ((0 : Int) + (1 : Int) + (1 : Int) + (1 : Int) + (1 : Int) + (1 : Int)) ∧ in64 ((0 : Int) + (1 : Int) + (1 : Int) + (1 : Int) + (1 : Int) + (1 : Int) + (1 : Int)) ∧ ((6 : Int) < (0 : Int) + (1 : Int) + (1 : Int) + (1 : Int) + (1 : Int) + (1 : Int) + (1 : Int) → Q [] (atE (ix (uR (unfoldS s)).fst x).At (Err.no (12 : Int)))) ∧ (¬(6 : Int) < (0 : Int) + (1 : Int) + (1 : Int) + (1 : Int) + (1 : Int) + (1 : Int) + (1 : Int) → in64 (x + (1 : Int)) ∧ I_6 (x + (1 : Int)) x_1 (namedS (Prp.mk (parseS (ix (uR (unfoldS s)).fst x).Text).fst.Group (parseS (ix (uR (unfoldS s)).fst x).Text).fst.Name (parseS (ix (uR (unfoldS s)).fst x).Text).fst.Params (parseS (ix (uR (unfoldS s)).fst x).Text).fst.Value)).fst [] [] (ix (uR (unfoldS s)).fst x).At x_2 x_3 x_4 x_5 x_6 x_7 x_8 x_9 x_10 x_11 x_12 x_13 x_14 x_15 x_16 x_17 x_18 x_19 x_20 x_21 ∧ m_6 (x + (1 : Int)) x_1 (namedS (Prp.mk (parseS (ix (uR (unfoldS s)).fst x).Text).fst.Group (parseS (ix (uR (unfoldS s)).fst x).Text).fst.Name (parseS (ix (uR (unfoldS s)).fst x).Text).fst.Params (parseS (ix (uR (unfoldS s)).fst x).Text).fst.Value)).fst [] [] (ix (uR (unfoldS s)).fst x).At x_2 x_3 x_4 x_5 x_6 x_7 x_8 x_9 x_10 x_11 x_12 x_13 x_14 x_15 x_16 x_17 x_18 x_19 x_20 x_21 < m_5 x x_1 x_2 x_3 x_4 x_5 x_6 x_7 x_8 x_9 x_10 x_11 x_12 x_13 x_14 x_15 x_16 x_17 x_18 x_19 x_20 x_21)) ∧ (¬(parseS (ix (uR (unfoldS s)).fst x).Text).fst.Name = sBEGIN → ((parseS (ix (uR (unfoldS s)).fst x).Text).fst.Name = sEND ∧ x_2 ≠ (namedS (Prp.mk (parseS (ix (uR (unfoldS s)).fst x).Text).fst.Group (parseS (ix (uR (unfoldS s)).fst x).Text).fst.Name (parseS (ix (uR (unfoldS s)).fst x).Text).fst.Params (parseS (ix (uR (unfoldS s)).fst x).Text).fst.Value)).fst → Q [] (atE (ix (uR (unfoldS s)).fst x).At (Err.no (11 : Int)))) ∧ (¬((parseS (ix (uR (unfoldS s)).fst x).Text).fst.Name = sEND ∧ x_2 ≠ (namedS (Prp.mk (parseS (ix (uR (unfoldS s)).fst x).Text).fst.Group (parseS (ix (uR (unfoldS s)).fst x).Text).fst.Name (parseS (ix (uR (unfoldS s)).fst x).Text).fst.Params (parseS (ix (uR (unfoldS s)).fst x).Text).fst.Value)).fst) → ((parseS (ix (uR (unfoldS s)).fst x).Text).fst.Name ≠ sEND → (x_3.length + [Prp.mk (parseS (ix (uR (unfoldS s)).fst x).Text).fst.Group (parseS (ix (uR (unfoldS s)).fst x).Text).fst.Name (parseS (ix (uR (unfoldS s)).fst x).Text).fst.Params (parseS (ix (uR (unfoldS s)).fst x).Text).fst.Value].length) * (some (72 : Nat)).getD (0 : Nat) ≤ (140737488355328 : Nat) ∧ in64 (x + (1 : Int)) ∧ I_5 (x + (1 : Int)) x_1 x_2 (x_3 ++ [Prp.mk (parseS (ix (uR (unfoldS s)).fst x).Text).fst.Group (parseS (ix (uR (unfoldS s)).fst x).Text).fst.Name (parseS (ix (uR (unfoldS s)).fst x).Text).fst.Params (parseS (ix (uR (unfoldS s)).fst x).Text).fst.Value]) x_4 x_5 x_6 x_7 x_8 x_9 x_10 x_11 x_12 x_13 x_14 x_15 x_16 x_17 x_18 x_19 x_20 x_21 ∧ m_5 (x + (1 : Int)) x_1 x_2 (x_3 ++ [Prp.mk (parseS (ix (uR (unfoldS s)).fst x).Text).fst.Group (parseS (ix (uR (unfoldS s)).fst x).Text).fst.Name (parseS (ix (uR (unfoldS s)).fst x).Text).fst.Params (parseS (ix (uR (unfoldS s)).fst x).Text).fst.Value]) x_4 x_5 x_6 x_7 x_8 x_9 x_10 x_11 x_12 x_13 x_14 x_15 x_16 x_17 x_18 x_19 x_20 x_21 < m_5 x x_1 x_2 x_3 x_4 x_5 x_6 x_7 x_8 x_9 x_10 x_11 x_12 x_13 x_14 x_15 x_16 x_17 x_18 x_19 x_20 x_21) ∧ (¬(parseS (ix (uR (unfoldS s)).fst x).Text).fst.Name ≠ sEND → ((x_8.length + [Comp.mk [] [] []].length) * (some (64 : Nat)).getD (0 : Nat) ≤ (140737488355328 : Nat) ∧ (0 : Int) ≤ (↑x_8.length : Int) ∧ (↑x_8.length : Int) < (↑(x_8 ++ [Comp.mk [] [] []]).length : Int) ∧ in64 (x + (1 : Int)) ∧ I_4 (x + (1 : Int)) x_1 x_6 x_7 ((x_8 ++ [Comp.mk [] [] []]).set (↑x_8.length : Int).toNat (Comp.mk x_2 x_3 x_4)) x_9 x_10 x_11 x_12 x_13 x_14 x_15 x_16 x_17 x_18 x_19 x_20 x_21 ∧ m_4 (x + (1 : Int)) x_1 x_6 x_7 ((x_8 ++ [Comp.mk [] [] []]).set (↑x_8.length : Int).toNat (Comp.mk x_2 x_3 x_4)) x_9 x_10 x_11 x_12 x_13 x_14 x_15 x_16 x_17 x_18 x_19 x_20 x_21 < m_5 x x_1 x_2 x_3 x_4 x_5 x_6 x_7 x_8 x_9 x_10 x_11 x_12 x_13 x_14 x_15 x_16 x_17 x_18 x_19 x_20 x_21) ∧ (x_8.length + [Comp.mk x_2 x_3 x_4].length) * (some (64 : Nat)).getD (0 : Nat) ≤ (140737488355328 : Nat) ∧ in64 (x + (1 : Int)) ∧ I_4 (x + (1 : Int)) x_1 x_6 x_7 (x_8 ++ [Comp.mk x_2 x_3 x_4]) x_9 x_10 x_11 x_12 x_13 x_14 x_15 x_16 x_17 x_18 x_19 x_20 x_21 ∧ m_4 (x + (1 : Int)) x_1 x_6 x_7 (x_8 ++ [Comp.mk x_2 x_3 x_4]) x_9 x_10 x_11 x_12 x_13 x_14 x_15 x_16 x_17 x_18 x_19 x_20 x_21 < m_5 x x_1 x_2 x_3 x_4 x_5 x_6 x_7 x_8 x_9 x_10 x_11 x_12 x_13 x_14 x_15 x_16 x_17 x_18 x_19 x_20 x_21))))) ∧ (¬(parseS (ix (uR (unfoldS s)).fst x).Text).fst.Name = sEND → ((parseS (ix (uR (unfoldS s)).fst x).Text).fst.Name = sEND ∧ x_2 ≠ [] → Q [] (atE (ix (uR (unfoldS s)).fst x).At (Err.no (11 : Int)))) ∧ (¬((parseS (ix (uR (unfoldS s)).fst x).Text).fst.Name = sEND ∧ x_2 ≠ []) → ((parseS (ix (uR (unfoldS s)).fst x).Text).fst.Name ≠ sEND → (x_3.length + [Prp.mk (parseS (ix (uR (unfoldS s)).fst x).Text).fst.Group (parseS (ix (uR (unfoldS s)).fst x).Text).fst.Name (parseS (ix (uR (unfoldS s)).fst x).Text).fst.Params (parseS (ix (uR (unfoldS s)).fst x).Text).fst.Value].length) * (some (72 : Nat)).getD (0 : Nat) ≤ (140737488355328 : Nat) ∧ in64 (x + (1 : Int)) ∧ I_5 (x + (1 : Int)) x_1 x_2 (x_3 ++ [Prp.mk (parseS (ix (uR (unfoldS s)).fst x).Text).fst.Group (parseS (ix (uR (unfoldS s)).fst x).Text).fst.Name (parseS (ix (uR (unfoldS s)).fst x).Text).fst.Params (parseS (ix (uR (unfoldS s)).fst x).Text).fst.Value]) x_4 x_5 x_6 x_7 x_8 x_9 x_10 x_11 x_12 x_13 x_14 x_15 x_16 x_17 x_18 x_19 x_20 x_21 ∧ m_5 (x + (1 : Int)) x_1 x_2 (x_3 ++ [Prp.mk (parseS (ix (uR (unfoldS s)).fst x).Text).fst.Group (parseS (ix (uR (unfoldS s)).fst x).Text).fst.Name (parseS (ix (uR (unfoldS s)).fst x).Text).fst.Params (parseS (ix (uR (unfoldS s)).fst x).Text).fst.Value]) x_4 x_5 x_6 x_7 x_8 x_9 x_10 x_11 x_12 x_13 x_14 x_15 x_16 x_17 x_18 x_19 x_20 x_21 < m_5 x x_1 x_2 x_3 x_4 x_5 x_6 x_7 x_8 x_9 x_10 x_11 x_12 x_13 x_14 x_15 x_16 x_17 x_18 x_19 x_20 x_21) ∧ (¬(parseS (ix (uR (unfoldS s)).fst x).Text).fst.Name ≠ sEND → ((x_8.length + [Comp.mk [] [] []].length) * (some (64 : Nat)).getD (0 : Nat) ≤ (140737488355328 : Nat) ∧ (0 : Int) ≤ (↑x_8.length : Int) ∧ (↑x_8.length : Int) < (↑(x_8 ++ [Comp.mk [] [] []]).length : Int) ∧ in64 (x + (1 : Int)) ∧ I_4 (x + (1 : Int)) x_1 x_6 x_7 ((x_8 ++ [Comp.mk [] [] []]).set (↑x_8.length : Int).toNat (Comp.mk x_2 x_3 x_4)) x_9 x_10 x_11 x_12 x_13 x_14 x_15 x_16 x_17 x_18 x_19 x_20 x_21 ∧ m_4 (x + (1 : Int)) x_1 x_6 x_7 ((x_8 ++ [Comp.mk [] [] []]).set (↑x_8.length : Int).toNat (Comp.mk x_2 x_3 x_4)) x_9 x_10 x_11 x_12 x_13 x_14 x_15 x_16 x_17 x_18 x_19 x_20 x_21 < m_5 x x_1 x_2 x_3 x_4 x_5 x_6 x_7 x_8 x_9 x_10 x_11 x_12 x_13 x_14 x_15 x_16 x_17 x_18 x_19 x_20 x_21) ∧ (x_8.length + [Comp.mk x_2 x_3 x_4].length) * (some (64 : Nat)).getD (0 : Nat) ≤ (140737488355328 : Nat) ∧ in64 (x + (1 : Int)) ∧ I_4 (x + (1 : Int)) x_1 x_6 x_7 (x_8 ++ [Comp.mk x_2 x_3 x_4]) x_9 x_10 x_11 x_12 x_13 x_14 x_15 x_16 x_17 x_18 x_19 x_20 x_21 ∧ m_4 (x + (1 : Int)) x_1 x_6 x_7 (x_8 ++ [Comp.mk x_2 x_3 x_4]) x_9 x_10 x_11 x_12 x_13 x_14 x_15 x_16 x_17 x_18 x_19 x_20 x_21 < m_5 x x_1 x_2 x_3 x_4 x_5 x_6 x_7 x_8 x_9 x_10 x_11 x_12 x_13 x_14 x_15 x_16 x_17 x_18 x_19 x_20 x_21))))))) ∧ (¬x < (↑(uR (unfoldS s)).fst.length : Int) → Q [] (atE x_5 (Err.no (11 : Int))))) ∧ (∀ (x : Int) (x_1 : List Comp) (x_2 : List UInt8) (x_3 : List Prp) (x_4 : List Comp) (x_5 : Int) (x_6 : List UInt8) (x_7 : List Prp) (x_8 : List Comp) (x_9 : Int) (x_10 : List UInt8) (x_11 : List Prp) (x_12 : List Comp) (x_13 : Int) (x_14 : List UInt8) (x_15 : List Prp) (x_16 : List Comp) (x_17 : Int) (x_18 : List UInt8) (x_19 : List Prp) (x_20 : List Comp) (x_21 : Int) (x_22 : List UInt8) (x_23 : List Prp) (x_24 : List Comp) (x_25 : Int), I_6 x x_1 x_2 x_3 x_4 x_5 x_6 x_7 x_8 x_9 x_10 x_11 x_12 x_13 x_14 x_15 x_16 x_17 x_18 x_19 x_20 x_21 x_22 x_23 x_24 x_25 → (x < (↑(uR (unfoldS s)).fst.length : Int) → (0 : Int) ≤ x ∧ x < (↑(uR (unfoldS s)).fst.length : Int) ∧ (in64 (ix (uR (unfoldS s)).fst x).At → List.length (ix (uR (unfoldS s)).fst x).Text ≤ (100000000 : Nat) ∧ ((parseS (ix (uR (unfoldS s)).fst x).Text).snd ≠ Err.nil → Q [] (atE (ix (uR (unfoldS s)).fst x).At (parseS (ix (uR (unfoldS s)).fst x).Text).snd)) ∧ (¬(parseS (ix (uR (unfoldS s)).fst x).Text).snd ≠ Err.nil → ((parseS (ix (uR (unfoldS s)).fst x).Text).fst.Name = sBEGIN → ((parseS (ix (uR (unfoldS s)).fst x).Text).fst.Name = sBEGIN → List.length (parseS (ix (uR (unfoldS s)).fst x).Text).fst.Value ≤ (10000000 : Nat) ∧ ((namedS (Prp.mk (parseS (ix (uR (unfoldS s)).fst x).Text).fst.Group (parseS (ix (uR (unfoldS s)).fst x).Text).fst.Name (parseS (ix (uR (unfoldS s)).fst x).Text).fst.Params (parseS (ix (uR (unfoldS s)).fst x).Text).fst.Value)).snd ≠ Err.nil → Q [] (atE (ix (uR (unfoldS s)).fst x).At (namedS (Prp.mk (parseS (ix (uR (unfoldS s)).fst x).Text).fst.Group (parseS (ix (uR (unfoldS s)).fst x).Text).fst.Name (parseS (ix (uR (unfoldS s)).fst x).Text).fst.Params (parseS (ix (uR (unfoldS s)).fst x).Text).fst.Value)).snd)) ∧ (¬(namedS (Prp.mk (parseS (ix (uR (unfoldS s)).fst x).Text).fst.Group (parseS (ix (uR (unfoldS s)).fst x).Text).fst.Name (parseS (ix (uR (unfoldS s)).fst x).Text).fst.Params (parseS (ix (uR (unfoldS s)).fst x).Text).fst.Value)).snd ≠ Err.nil → ((parseS (ix (uR (unfoldS s)).fst x).Text).fst.Name = sBEGIN → in64 ((0 : Int) + (1 : Int)) ∧ in64 ((0 : Int) + (1 : Int) + (1 : Int)) ∧ in64 ((0 : Int) + (1 : Int) + (1 : Int) + (1 : Int)) ∧ in64 ((0 : Int) + (1 : Int) + (1 : Int) + (1 : Int) + (1 : Int)) ∧ in64 ((0 : Int) + (1 : Int) + (1 : Int) + (1 : Int) + (1 : Int) + (1 : Int)) ∧ in64 ((0 : Int) + (1 : Int) + (1 : Int) + (1 : Int) + (1 : Int) + (1 : Int) + (1 : Int)) ∧ in64 ((0 : Int) + (1 : Int) + (1 : Int) + (1 : Int) + (1 : Int) + (1 : Int) + (1 : Int) + (1 : Int)) ∧ ((6 : Int) < (0 : Int) + (1 : Int) + (1 : Int) + (1 : Int) + (1 : Int) + (1 : Int) + (1 : Int) + (1 : Int) → Q [] (atE (ix (uR (unfoldS s)).fst x).At (Err.no (12 : Int)))) ∧ (¬(6 : Int) < (0 : Int) + (1 : Int) + (1 : Int) + (1 : Int) + (1 : Int) + (1 : Int) + (1 : Int) + (1 : Int) → in64 (x + (1 : Int)) ∧ False)) ∧ (¬(parseS (ix (uR (unfoldS s)).fst x).Text).fst.Name = sBEGIN → ((parseS (ix (uR (unfoldS s)).fst x).Text).fst.Name = sEND ∧ x_2 ≠ (namedS (Prp.mk (parseS (ix (uR (unfoldS s)).fst x).Text).fst.Group (parseS (ix (uR (unfoldS s)).fst x).Text).fst.Name (parseS (ix (uR (unfoldS s)).fst x).Text).fst.Params (parseS (ix (uR (unfoldS s)).fst x).Text).fst.Value)).fst → Q [] (atE (ix (uR (unfoldS s)).fst x).At (Err.no (11 : Int)))) ∧ (¬((parseS (ix (uR (unfoldS s)).fst x).Text).fst.Name = sEND ∧ x_2 ≠ (namedS (Prp.mk (parseS (ix (uR (unfoldS s)).fst x).Text).fst.Group (parseS (ix (uR (unfoldS s)).fst x).Text).fst.Name (parseS (ix (uR (unfoldS s)).fst x).Text).fst.Params (parseS (ix (uR (unfoldS s)).fst x).Text).fst.Value)).fst) → ((parseS (ix (uR (unfoldS s)).fst x).Text).fst.Name ≠ sEND → (x_3.length + [Prp.mk (parseS (ix (uR (unfoldS s)).fst x).Text).fst.Group (parseS (ix (uR (unfoldS s)).fst x).Text).fst.Name (parseS (ix (uR (unfoldS s)).fst x).Text).fst.Params (parseS (ix (uR (unfoldS s)).fst x).Text).fst.Value].length) * (some (72 : Nat)).getD (0 : Nat) ≤ (140737488355328 : Nat) ∧ in64 (x + (1 : Int)) ∧ I_6 (x + (1 : Int)) x_1 x_2 (x_3 ++ [Prp.mk (parseS (ix (uR (unfoldS s)).fst x).Text).fst.Group (parseS (ix (uR (unfoldS s)).fst x).Text).fst.Name (parseS (ix (uR (unfoldS s)).fst x).Text).fst.Params (parseS (ix (uR (unfoldS s)).fst x).Text).fst.Value]) x_4 x_5 x_6 x_7 x_8 x_9 x_10 x_11 x_12 x_13 x_14 x_15 x_16 x_17 x_18 x_19 x_20 x_21 x_22 x_23 x_24 x_25 ∧ m_6 (x + (1 : Int)) x_1 x_2 (x_3 ++ [Prp.mk (parseS (ix (uR (unfoldS s)).fst x).Text).fst.Group (parseS (ix (uR (unfoldS s)).fst x).Text).fst.Name (parseS (ix (uR (unfoldS s)).fst x).Text).fst.Params (parseS (ix (uR (unfoldS s)).fst x).Text).fst.Value]) x_4 x_5 x_6 x_7 x_8 x_9 x_10 x_11 x_12 x_13 x_14 x_15 x_16 x_17 x_18 x_19 x_20 x_21 x_22 x_23 x_24 x_25 < m_6 x x_1 x_2 x_3 x_4 x_5 x_6 x_7 x_8 x_9 x_10 x_11 x_12 x_13 x_14 x_15 x_16 x_17 x_18 x_19 x_20 x_21 x_22 x_23 x_24 x_25) ∧ (¬(parseS (ix (uR (unfoldS s)).fst x).Text).fst.Name ≠ sEND → ((x_8.length + [Comp.mk [] [] []].length) * (some (64 : Nat)).getD (0 : Nat) ≤ (140737488355328 : Nat) ∧ (0 : Int) ≤ (↑x_8.length : Int) ∧ (↑x_8.length : Int) < (↑(x_8 ++ [Comp.mk [] [] []]).length : Int) ∧ in64 (x + (1 : Int)) ∧ I_5 (x + (1 : Int)) x_1 x_6 x_7 ((x_8 ++ [Comp.mk [] [] []]).set (↑x_8.length : Int).toNat (Comp.mk x_2 x_3 x_4)) x_9 x_10 x_11 x_12 x_13 x_14 x_15 x_16 x_17 x_18 x_19 x_20 x_21 x_22 x_23 x_24 x_25 ∧ m_5 (x + (1 : Int)) x_1 x_6 x_7 ((x_8 ++ [Comp.mk [] [] []]).set (↑x_8.length : Int).toNat (Comp.mk x_2 x_3 x_4)) x_9 x_10 x_11 x_12 x_13 x_14 x_15 x_16 x_17 x_18 x_19 x_20 x_21 x_22 x_23 x_24 x_25 < m_6 x x_1 x_2 x_3 x_4 x_5 x_6 x_7 x_8 x_9 x_10 x_11 x_12 x_13 x_14 x_15 x_16 x_17 x_18 x_19 x_20 x_21 x_22 x_23 x_24 x_25) ∧ (x_8.length + [Comp.mk x_2 x_3 x_4].length) * (some (64 : Nat)).getD (0 : Nat) ≤ (140737488355328 : Nat) ∧ in64 (x + (1 : Int)) ∧ I_5 (x + (1 : Int)) x_1 x_6 x_7 (x_8 ++ [Comp.mk x_2 x_3 x_4]) x_9 x_10 x_11 x_12 x_13 x_14 x_15 x_16 x_17 x_18 x_19 x_20 x_21 x_22 x_23 x_24 x_25 ∧ m_5 (x + (1 : Int)) x_1 x_6 x_7 (x_8 ++ [Comp.mk x_2 x_3 x_4]) x_9 x_10 x_11 x_12 x_13 x_14 x_15 x_16 x_17 x_18 x_19 x_20 x_21 x_22 x_23 x_24 x_25 < m_6 x x_1 x_2 x_3 x_4 x_5 x_6 x_7 x_8 x_9 x_10 x_11 x_12 x_13 x_14 x_15 x_16 x_17 x_18 x_19 x_20 x_21 x_22 x_23 x_24 x_25))))) ∧ (¬(parseS (ix (uR (unfoldS s)).fst x).Text).fst.Name = sBEGIN → ((parseS (ix (uR (unfoldS s)).fst x).Text).fst.Name = sEND ∧ x_2 ≠ [] → Q [] (atE (ix (uR (unfoldS s)).fst x).At (Err.no (11 : Int)))) ∧ (¬((parseS (ix (uR (unfoldS s)).fst x).Text).fst.Name = sEND ∧ x_2 ≠ []) → ((parseS (ix (uR (unfoldS s)).fst x).Text).fst.Name ≠ sEND → (x_3.length + [Prp.mk (parseS (ix (uR (unfoldS s)).fst x).Text).fst.Group (parseS (ix (uR (unfoldS s)).fst x).Text).fst.Name (parseS (ix (uR (unfoldS s)).fst x).Text).fst.Params (parseS (ix (uR (unfoldS s)).fst x).Text).fst.Value].length) * (some (72 : Nat)).getD (0 : Nat) ≤ (140737488355328 : Nat) ∧ in64 (x + (1 : Int)) ∧ I_6 (x + (1 : Int)) x_1 x_2 (x_3 ++ [Prp.mk (parseS (ix (uR (unfoldS s)).fst x).Text).fst.Group (parseS (ix (uR (unfoldS s)).fst x).Text).fst.Name (parseS (ix (uR (unfoldS s)).fst x).Text).fst.Params (parseS (ix (uR (unfoldS s)).fst x).Text).fst.Value]) x_4 x_5 x_6 x_7 x_8 x_9 x_10 x_11 x_12 x_13 x_14 x_15 x_16 x_17 x_18 x_19 x_20 x_21 x_22 x_23 x_24 x_25 ∧ m_6 (x + (1 : Int)) x_1 x_2 (x_3 ++ [Prp.mk (parseS (ix (uR (unfoldS s)).fst x).Text).fst.Group (parseS (ix (uR (unfoldS s)).fst x).Text).fst.Name (parseS (ix (uR (unfoldS s)).fst x).Text).fst.Params (parseS (ix (uR (unfoldS s)).fst x).Text).fst.Value]) x_4 x_5 x_6 x_7 x_8 x_9 x_10 x_11 x_12 x_13 x_14 x_15 x_16 x_17 x_18 x_19 x_20 x_21 x_22 x_23 x_24 x_25 < m_6 x x_1 x_2 x_3 x_4 x_5 x_6 x_7 x_8 x_9 x_10 x_11 x_12 x_13 x_14 x_15 x_16 x_17 x_18 x_19 x_20 x_21 x_22 x_23 x_24 x_25) ∧ (¬(parseS (ix (uR (unfoldS s)).fst x).Text).fst.Name ≠ sEND → ((x_8.length + [Comp.mk [] [] []].length) * (some (64 : Nat)).getD (0 : Nat) ≤ (140737488355328 : Nat) ∧ (0 : Int) ≤ (↑x_8.length : Int) ∧ (↑x_8.length : Int) < (↑(x_8 ++ [Comp.mk [] [] []]).length : Int) ∧ in64 (x + (1 : Int)) ∧ I_5 (x + (1 : Int)) x_1 x_6 x_7 ((x_8 ++ [Comp.mk [] [] []]).set (↑x_8.length : Int).toNat (Comp.mk x_2 x_3 x_4)) x_9 x_10 x_11 x_12 x_13 x_14 x_15 x_16 x_17 x_18 x_19 x_20 x_21 x_22 x_23 x_24 x_25 ∧ m_5 (x + (1 : Int)) x_1 x_6 x_7 ((x_8 ++ [Comp.mk [] [] []]).set (↑x_8.length : Int).toNat (Comp.mk x_2 x_3 x_4)) x_9 x_10 x_11 x_12 x_13 x_14 x_15 x_16 x_17 x_18 x_19 x_20 x_21 x_22 x_23 x_24 x_25 < m_6 x x_1 x_2 x_3 x_4 x_5 x_6 x_7 x_8 x_9 x_10 x_11 x_12 x_13 x_14 x_15 x_16 x_17 x_18 x_19 x_20 x_21 x_22 x_23 x_24 x_25) ∧ (x_8.length + [Comp.mk x_2 x_3 x_4].length) * (some (64 : Nat)).getD (0 : Nat) ≤ (140737488355328 : Nat) ∧ in64 (x + (1 : Int)) ∧ I_5 (x + (1 : Int)) x_1 x_6 x_7 (x_8 ++ [Comp.mk x_2 x_3 x_4]) x_9 x_10 x_11 x_12 x_13 x_14 x_15 x_16 x_17 x_18 x_19 x_20 x_21 x_22 x_23 x_24 x_25 ∧ m_5 (x + (1 : Int)) x_1 x_6 x_7 (x_8 ++ [Comp.mk x_2 x_3 x_4]) x_9 x_10 x_11 x_12 x_13 x_14 x_15 x_16 x_17 x_18 x_19 x_20 x_21 x_22 x_23 x_24 x_25 < m_6 x x_1 x_2 x_3 x_4 x_5 x_6 x_7 x_8 x_9 x_10 x_11 x_12 x_13 x_14 x_15 x_16 x_17 x_18 x_19 x_20 x_21 x_22 x_23 x_24 x_25)))) ∧ (¬(parseS (ix (uR (unfoldS s)).fst x).Text).fst.Name = sBEGIN → ((parseS (ix (uR (unfoldS s)).fst x).Text).fst.Name = sEND → List.length (parseS (ix (uR (unfoldS s)).fst x).Text).fst.Value ≤ (10000000 : Nat) ∧ ((namedS (Prp.mk (parseS (ix (uR (unfoldS s)).fst x).Text).fst.Group (parseS (ix (uR (unfoldS s)).fst x).Text).fst.Name (parseS (ix (uR (unfoldS s)).fst x).Text).fst.Params (parseS (ix (uR (unfoldS s)).fst x).Text).fst.Value)).snd ≠ Err.nil → Q [] (atE (ix (uR (unfoldS s)).fst x).At (namedS (Prp.mk (parseS (ix (uR (unfoldS s)).fst x).Text).fst.Group (parseS (ix (uR (unfoldS s)).fst x).Text).fst.Name (parseS (ix (uR (unfoldS s)).fst x).Text).fst.Params (parseS (ix (uR (unfoldS s)).fst x).Text).fst.Value)).snd)) ∧ (¬(namedS (Prp.mk (parseS (ix (uR (unfoldS s)).fst x).Text).fst.Group (parseS (ix (uR (unfoldS s)).fst x).Text).fst.Name (parseS (ix (uR (unfoldS s)).fst x).Text).fst.Params (parseS (ix (uR (unfoldS s)).fst x).Text).fst.Value)).snd ≠ Err.nil → ((parseS (ix (uR (unfoldS s)).fst x).Text).fst.Name = sBEGIN → in64 ((0 : Int) + (1 : Int)) ∧ in64 ((0 : Int) + (1 : Int) + (1 : Int)) ∧ in64 ((0 : Int) + (1 : Int) + (1 : Int) + (1 : Int)) ∧ in64 ((0 : Int) + (1 : Int) + (1 : Int) + (1 : Int) + (1 : Int)) ∧ in64 ((0 : Int) + (1 : Int) + (1 : Int) + (1 : Int) + (1 : Int) + (1 : Int)) ∧ in64 ((0 : Int) + (1 : Int) + (1 : Int) + (1 : Int) + (1 : Int) + (1 : Int) + (1 : Int)) ∧ in64 ((0 : Int) + (1 : Int) + (1 : Int) + (1 : Int) + (1 : Int) + (1 : Int) + (1 : Int) + (1 : Int)) ∧ ((6 : Int) < (0 : Int) + (1 : Int) + (1 : Int) + (1 : Int) + (1 : Int) + (1 : Int) + (1 : Int) + (1 : Int) → Q [] (atE (ix (uR (unfoldS s)).fst x).At (Err.no (12 : Int)))) ∧ (¬(6 : Int) < (0 : Int) + (1 : Int) + (1 : Int) + (1 : Int) + (1 : Int) + (1 : Int) + (1 : Int) + (1 : Int) → in64 (x + (1 : Int)) ∧ False)) ∧ (¬(parseS (ix (uR (unfoldS s)).fst x).Text).fst.Name = sBEGIN → ((parseS (ix (uR (unfoldS s)).fst x).Text).fst.Name = sEND ∧ x_2 ≠ (namedS (Prp.mk (parseS (ix (uR (unfoldS s)).fst x).Text).fst.Group (parseS (ix (uR (unfoldS s)).fst x).Text).fst.Name (parseS (ix (uR (unfoldS s)).fst x).Text).fst.Params (parseS (ix (uR (unfoldS s)).fst x).Text).fst.Value)).fst → Q [] (atE (ix (uR (unfoldS s)).fst x).At (Err.no (11 : Int)))) ∧ (¬((parseS (ix (uR (unfoldS s)).fst x).Text).fst.Name = sEND ∧ x_2 ≠ (namedS (Prp.mk (parseS (ix (uR (unfoldS s)).fst x).Text).fst.Group (parseS (ix (uR (unfoldS s)).fst x).Text).fst.Name (parseS (ix (uR (unfoldS s)).fst x).Text).fst.Params (parseS (ix (uR (unfoldS s)).fst x).Text).fst.Value)).fst) → ((parseS (ix (uR (unfoldS s)).fst x).Text).fst.Name ≠ sEND → (x_3.length + [Prp.mk (parseS (ix (uR (unfoldS s)).fst x).Text).fst.Group (parseS (ix (uR (unfoldS s)).fst x).Text).fst.Name (parseS (ix (uR (unfoldS s)).fst x).Text).fst.Params (parseS (ix (uR (unfoldS s)).fst x).Text).fst.Value].length) * (some (72 : Nat)).getD (0 : Nat) ≤ (140737488355328 : Nat) ∧ in64 (x + (1 : Int)) ∧ I_6 (x + (1 : Int)) x_1 x_2 (x_3 ++ [Prp.mk (parseS (ix (uR (unfoldS s)).fst x).Text).fst.Group (parseS (ix (uR (unfoldS s)).fst x).Text).fst.Name (parseS (ix (uR (unfoldS s)).fst x).Text).fst.Params (parseS (ix (uR (unfoldS s)).fst x).Text).fst.Value]) x_4 x_5 x_6 x_7 x_8 x_9 x_10 x_11 x_12 x_13 x_14 x_15 x_16 x_17 x_18 x_19 x_20 x_21 x_22 x_23 x_24 x_25 ∧ m_6 (x + (1 : Int)) x_1 x_2 (x_3 ++ [Prp.mk (parseS (ix (uR (unfoldS s)).fst x).Text).fst.Group (parseS (ix (uR (unfoldS s)).fst x).Text).fst.Name (parseS (ix (uR (unfoldS s)).fst x).Text).fst.Params (parseS (ix (uR (unfoldS s)).fst x).Text).fst.Value]) x_4 x_5 x_6 x_7 x_8 x_9 x_10 x_11 x_12 x_13 x_14 x_15 x_16 x_17 x_18 x_19 x_20 x_21 x_22 x_23 x_24 x_25 < m_6 x x_1 x_2 x_3 x_4 x_5 x_6 x_7 x_8 x_9 x_10 x_11 x_12 x_13 x_14 x_15 x_16 x_17 x_18 x_19 x_20 x_21 x_22 x_23 x_24 x_25) ∧ (¬(parseS (ix (uR (unfoldS s)).fst x).Text).fst.Name ≠ sEND → ((x_8.length + [Comp.mk [] [] []].length) * (some (64 : Nat)).getD (0 : Nat) ≤ (140737488355328 : Nat) ∧ (0 : Int) ≤ (↑x_8.length : Int) ∧ (↑x_8.length : Int) < (↑(x_8 ++ [Comp.mk [] [] []]).length : Int) ∧ in64 (x + (1 : Int)) ∧ I_5 (x + (1 : Int)) x_1 x_6 x_7 ((x_8 ++ [Comp.mk [] [] []]).set (↑x_8.length : Int).toNat (Comp.mk x_2 x_3 x_4)) x_9 x_10 x_11 x_12 x_13 x_14 x_15 x_16 x_17 x_18 x_19 x_20 x_21 x_22 x_23 x_24 x_25 ∧ m_5 (x + (1 : Int)) x_1 x_6 x_7 ((x_8 ++ [Comp.mk [] [] []]).set (↑x_8.length : Int).toNat (Comp.mk x_2 x_3 x_4)) x_9 x_10 x_11 x_12 x_13 x_14 x_15 x_16 x_17 x_18 x_19 x_20 x_21 x_22 x_23 x_24 x_25 < m_6 x x_1 x_2 x_3 x_4 x_5 x_6 x_7 x_8 x_9 x_10 x_11 x_12 x_13 x_14 x_15 x_16 x_17 x_18 x_19 x_20 x_21 x_22 x_23 x_24 x_25) ∧ (x_8.length + [Comp.mk x_2 x_3 x_4].length) * (some (64 : Nat)).getD (0 : Nat) ≤ (140737488355328 : Nat) ∧ in64 (x + (1 : Int)) ∧ I_5 (x + (1 : Int)) x_1 x_6 x_7 (x_8 ++ [Comp.mk x_2 x_3 x_4]) x_9 x_10 x_11 x_12 x_13 x_14 x_15 x_16 x_17 x_18 x_19 x_20 x_21 x_22 x_23 x_24 x_25 ∧ m_5 (x + (1 : Int)) x_1 x_6 x_7 (x_8 ++ [Comp.mk x_2 x_3 x_4]) x_9 x_10 x_11 x_12 x_13 x_14 x_15 x_16 x_17 x_18 x_19 x_20 x_21 x_22 x_23 x_24 x_25 < m_6 x x_1 x_2 x_3 x_4 x_5 x_6 x_7 x_8 x_9 x_10 x_11 x_12 x_13 x_14 x_15 x_16 x_17 x_18 x_19 x_20 x_21 x_22 x_23 x_24 x_25))))) ∧ (¬(parseS (ix (uR (unfoldS s)).fst x).Text).fst.Name = sEND → ((parseS (ix (uR (unfoldS s)).fst x).Text).fst.Name = sEND ∧ x_2 ≠ [] → Q [] (atE (ix (uR (unfoldS s)).fst x).At (Err.no (11 : Int)))) ∧ (¬((parseS (ix (uR (unfoldS s)).fst x).Text).fst.Name = sEND ∧ x_2 ≠ []) → ((parseS (ix (uR (unfoldS s)).fst x).Text).fst.Name ≠ sEND → (x_3.length + [Prp.mk (parseS (ix (uR (unfoldS s)).fst x).Text).fst.Group (parseS (ix (uR (unfoldS s)).fst x).Text).fst.Name (parseS (ix (uR (unfoldS s)).fst x).Text).fst.Params (parseS (ix (uR (unfoldS s)).fst x).Text).fst.Value].length) * (some (72 : Nat)).getD (0 : Nat) ≤ (140737488355328 : Nat) ∧ in64 (x + (1 : Int)) ∧ I_6 (x + (1 : Int)) x_1 x_2 (x_3 ++ [Prp.mk (parseS (ix (uR (unfoldS s)).fst x).Text).fst.Group (parseS (ix (uR (unfoldS s)).fst x).Text).fst.Name (parseS (ix (uR (unfoldS s)).fst x).Text).fst.Params (parseS (ix (uR (unfoldS s)).fst x).Text).fst.Value]) x_4 x_5 x_6 x_7 x_8 x_9 x_10 x_11 x_12 x_13 x_14 x_15 x_16 x_17 x_18 x_19 x_20 x_21 x_22 x_23 x_24 x_25 ∧ m_6 (x + (1 : Int)) x_1 x_2 (x_3 ++ [Prp.mk (parseS (ix (uR (unfoldS s)).fst x).Text).fst.Group (parseS (ix (uR (unfoldS s)).fst x).Text).fst.Name (parseS (ix (uR (unfoldS s)).fst x).Text).fst.Params (parseS (ix (uR (unfoldS s)).fst x).Text).fst.Value]) x_4 x_5 x_6 x_7 x_8 x_9 x_10 x_11 x_12 x_13 x_14 x_15 x_16 x_17 x_18 x_19 x_20 x_21 x_22 x_23 x_24 x_25 < m_6 x x_1 x_2 x_3 x_4 x_5 x_6 x_7 x_8 x_9 x_10 x_11 x_12 x_13 x_14 x_15 x_16 x_17 x_18 x_19 x_20 x_21 x_22 x_23 x_24 x_25) ∧ (¬(parseS (ix (uR (unfoldS s)).fst x).Text).fst.Name ≠ sEND → ((x_8.length + [Comp.mk [] [] []].length) * (some (64 : Nat)).getD (0 : Nat) ≤ (140737488355328 : Nat) ∧ (0 : Int) ≤ (↑x_8.length : Int) ∧ (↑x_8.length : Int) < (↑(x_8 ++ [Comp.mk [] [] []]).length : Int) ∧ in64 (x + (1 : Int)) ∧ I_5 (x + (1 : Int)) x_1 x_6 x_7 ((x_8 ++ [Comp.mk [] [] []]).set (↑x_8.length : Int).toNat (Comp.mk x_2 x_3 x_4)) x_9 x_10 x_11 x_12 x_13 x_14 x_15 x_16 x_17 x_18 x_19 x_20 x_21 x_22 x_23 x_24 x_25 ∧ m_5 (x + (1 : Int)) x_1 x_6 x_7 ((x_8 ++ [Comp.mk [] [] []]).set (↑x_8.length : Int).toNat (Comp.mk x_2 x_3 x_4)) x_9 x_10 x_11 x_12 x_13 x_14 x_15 x_16 x_17 x_18 x_19 x_20 x_21 x_22 x_23 x_24 x_25 < m_6 x x_1 x_2 x_3 x_4 x_5 x_6 x_7 x_8 x_9 x_10 x_11 x_12 x_13 x_14 x_15 x_16 x_17 x_18 x_19 x_20 x_21 x_22 x_23 x_24 x_25) ∧ (x_8.length + [Comp.mk x_2 x_3 x_4].length) * (some (64 : Nat)).getD (0 : Nat) ≤ (140737488355328 : Nat) ∧ in64 (x + (1 : Int)) ∧ I_5 (x + (1 : Int)) x_1 x_6 x_7 (x_8 ++ [Comp.mk x_2 x_3 x_4]) x_9 x_10 x_11 x_12 x_13 x_14 x_15 x_16 x_17 x_18 x_19 x_20 x_21 x_22 x_23 x_24 x_25 ∧ m_5 (x + (1 : Int)) x_1 x_6 x_7 (x_8 ++ [Comp.mk x_2 x_3 x_4]) x_9 x_10 x_11 x_12 x_13 x_14 x_15 x_16 x_17 x_18 x_19 x_20 x_21 x_22 x_23 x_24 x_25 < m_6 x x_1 x_2 x_3 x_4 x_5 x_6 x_7 x_8 x_9 x_10 x_11 x_12 x_13 x_14 x_15 x_16 x_17 x_18 x_19 x_20 x_21 x_22 x_23 x_24 x_25))))))) ∧ (¬x < (↑(uR (unfoldS s)).fst.length : Int) → Q [] (atE x_5 (Err.no (11 : Int))))) ∧ True)
set_option maxRecDepth 100000 in
theorem V39_ok {s : Str} {Q : List Comp → Err → Prop} (h : V39 s Q) : vcFun (E := NI86) (inlN an39 3) (an39 39) Tryd.f39 [.str s] [] [] 0 (resP NI86 [.acc 68, .err] Q) := Eq.mp (show V39 s Q = vcFun (E := NI86) (inlN an39 3) (an39 39) Tryd.f39 [.str s] [] [] 0 (resP NI86 [.acc 68, .err] Q) by kernel_rfl) h
theorem p39 (s : Str) (hs : s.length ≤ 100000) : V39 s (fun y0 y1 => y0 = (cR (compS s)).1 ∧ y1 = cE (compS s)) := by
  unfold V39
  refine ⟨hs, fun he => ?_, fun he => ?_⟩
  · unfold compS
    cases hu : unfoldS s with
    | ok rows => rw [hu] at he; exact absurd rfl he
    | error e => exact ⟨rfl, rfl⟩
  cases hu : unfoldS s with
  | error e => rw [hu] at he; exact absurd (fun h => by cases h) he
  | ok rows =>
  have hR : compS s = goC rows [] [] := by unfold compS; rw [hu]
  have hrows : (uR (.ok rows)).1 = rows := rfl
  generalize compS s = R at hR ⊢
  rw [hrows]
  obtain ⟨hr1, hr2⟩ := unfold_short hu
  clear he hu
  have h0 : InvC rows R 0 [] [] := ⟨⟨by omega, by omega, by simp, fun f hf => by cases hf⟩, hR⟩
  have in1 : ∀ {x : Int} {out : List Comp} {st : List Co.Frm}, InvC rows R x out st → x < rows.length → in64 (x + 1) := fun h hx => by have := h.1; exact ⟨by omega, by omega⟩
  have bd : ∀ {x : Int} {α : Type} (l : List α) (z : α) (m : Nat), (l.length : Int) ≤ x → x < rows.length → m ≤ 1000 → (l.length + [z].length) * m ≤ 140737488355328 := fun l z m h1 h2 h3 => by
    have e1 : l.length + [z].length ≤ 1001 := by simp only [List.length_cons, List.length_nil]; omega
    have := Nat.mul_le_mul e1 h3; omega
  refine ⟨fun x out  => InvC rows R x out [], fun x _  => ((rows.length : Int) - x).toNat, fun x out n1 p1 c1 a1 => InvC rows R x out [(.mk n1 p1 c1, a1)], fun x _ _ _ _ _ => ((rows.length : Int) - x).toNat, fun x out n1 p1 c1 a1 n2 p2 c2 a2 => InvC rows R x out [(.mk n1 p1 c1, a1), (.mk n2 p2 c2, a2)], fun x _ _ _ _ _ _ _ _ _ => ((rows.length : Int) - x).toNat, fun x out n1 p1 c1 a1 n2 p2 c2 a2 n3 p3 c3 a3 => InvC rows R x out [(.mk n1 p1 c1, a1), (.mk n2 p2 c2, a2), (.mk n3 p3 c3, a3)], fun x _ _ _ _ _ _ _ _ _ _ _ _ _ => ((rows.length : Int) - x).toNat, fun x out n1 p1 c1 a1 n2 p2 c2 a2 n3 p3 c3 a3 n4 p4 c4 a4 => InvC rows R x out [(.mk n1 p1 c1, a1), (.mk n2 p2 c2, a2), (.mk n3 p3 c3, a3), (.mk n4 p4 c4, a4)], fun x _ _ _ _ _ _ _ _ _ _ _ _ _ _ _ _ _ => ((rows.length : Int) - x).toNat, fun x out n1 p1 c1 a1 n2 p2 c2 a2 n3 p3 c3 a3 n4 p4 c4 a4 n5 p5 c5 a5 => InvC rows R x out [(.mk n1 p1 c1, a1), (.mk n2 p2 c2, a2), (.mk n3 p3 c3, a3), (.mk n4 p4 c4, a4), (.mk n5 p5 c5, a5)], fun x _ _ _ _ _ _ _ _ _ _ _ _ _ _ _ _ _ _ _ _ _ => ((rows.length : Int) - x).toNat, fun x out n1 p1 c1 a1 n2 p2 c2 a2 n3 p3 c3 a3 n4 p4 c4 a4 n5 p5 c5 a5 n6 p6 c6 a6 => InvC rows R x out [(.mk n1 p1 c1, a1), (.mk n2 p2 c2, a2), (.mk n3 p3 c3, a3), (.mk n4 p4 c4, a4), (.mk n5 p5 c5, a5), (.mk n6 p6 c6, a6)], fun x _ _ _ _ _ _ _ _ _ _ _ _ _ _ _ _ _ _ _ _ _ _ _ _ _ => ((rows.length : Int) - x).toNat, h0, ?_, ?_, ?_, ?_, ?_, ?_, ?_, trivial⟩
  · intro x out  h
    have h : InvC rows R x out [] := h
    refine ⟨fun hx => ?_, fun hx => h.fin0 hx⟩
    obtain ⟨tl, vl⟩ := h.pp hx hr2
    have hl := h.less hx
    exact ⟨h.1.1, hx, fun _ => ⟨by omega, fun he => h.bad hx he, fun ho => ⟨fun hB => ⟨fun _ => ⟨by omega, fun hn => h.begE hx ho hB hn, fun hn => ⟨fun _ => ⟨⟨by omega, by omega⟩, fun hh => absurd hh (by decide), fun _ => ⟨in1 h hx, h.beg hx ho hB hn (show (0 : Nat) < 6 by decide), hl⟩⟩, fun hh => absurd hB hh⟩⟩, fun hh => absurd hB hh⟩, fun hB => ⟨fun hE => ⟨by omega, fun hn => h.endE hx ho hB hE hn, fun hn => ⟨fun hh => absurd hh hB, fun _ => h.none hx ho hB⟩⟩, fun hE => h.none hx ho hB⟩⟩⟩⟩
  · intro x out n1 p1 c1 a1 h
    have h : InvC rows R x out [(.mk n1 p1 c1, a1)] := h
    refine ⟨fun hx => ?_, fun hx => h.fin hx⟩
    obtain ⟨tl, vl⟩ := h.pp hx hr2
    have hl := h.less hx
    have h1 := h.1.2.2.2 _ (List.mem_cons_self ..)
    exact ⟨h.1.1, hx, fun _ => ⟨by omega, fun he => h.bad hx he, fun ho => ⟨fun hB => ⟨fun _ => ⟨by omega, fun hn => h.begE hx ho hB hn, fun hn => ⟨fun _ => ⟨⟨by omega, by omega⟩, ⟨by omega, by omega⟩, fun hh => absurd hh (by decide), fun _ => ⟨in1 h hx, h.beg hx ho hB hn (show (1 : Nat) < 6 by decide), hl⟩⟩, fun hh => absurd hB hh⟩⟩, fun hh => absurd hB hh⟩, fun hB => ⟨fun hE => ⟨by omega, fun hn => h.endE hx ho hB hE hn, fun hn => ⟨fun hh => absurd hh hB, fun _ => ⟨fun hh => h.endN hx ho hB hh, fun hh => ⟨fun hp => absurd hE hp, fun _ => ⟨bd out _ 64 h.1.2.2.1 hx (by decide), in1 h hx, h.pop1 hx ho hB hE hn hh, hl⟩⟩⟩⟩⟩, fun hE => ⟨fun hh => absurd hh.1 hE, fun _ => ⟨fun hp => ⟨bd p1 _ 72 h1.1 hx (by decide), in1 h hx, h.prop hx ho hB hp, hl⟩, fun hp => (hp hE).elim⟩⟩⟩⟩⟩⟩
  · intro x out n1 p1 c1 a1 n2 p2 c2 a2 h
    have h : InvC rows R x out [(.mk n1 p1 c1, a1), (.mk n2 p2 c2, a2)] := h
    refine ⟨fun hx => ?_, fun hx => h.fin hx⟩
    obtain ⟨tl, vl⟩ := h.pp hx hr2
    have hl := h.less hx
    have h1 := h.1.2.2.2 _ (List.mem_cons_self ..)
    have h2 := h.1.2.2.2 _ (List.mem_cons_of_mem _ (List.mem_cons_self ..))
    exact ⟨h.1.1, hx, fun _ => ⟨by omega, fun he => h.bad hx he, fun ho => ⟨fun hB => ⟨fun _ => ⟨by omega, fun hn => h.begE hx ho hB hn, fun hn => ⟨fun _ => ⟨⟨by omega, by omega⟩, ⟨by omega, by omega⟩, ⟨by omega, by omega⟩, fun hh => absurd hh (by decide), fun _ => ⟨in1 h hx, h.beg hx ho hB hn (show (2 : Nat) < 6 by decide), hl⟩⟩, fun hh => absurd hB hh⟩⟩, fun hh => absurd hB hh⟩, fun hB => ⟨fun hE => ⟨by omega, fun hn => h.endE hx ho hB hE hn, fun hn => ⟨fun hh => absurd hh hB, fun _ => ⟨fun hh => h.endN hx ho hB hh, fun hh => ⟨fun hp => absurd hE hp, fun _ => ⟨⟨bd c2 _ 64 h2.2 hx (by decide), by omega, by simp only [List.length_append, List.length_cons, List.length_nil]; omega, in1 h hx, h.pop0 hx ho hB hE hn hh, hl⟩, bd c2 _ 64 h2.2 hx (by decide), in1 h hx, h.pop hx ho hB hE hn hh, hl⟩⟩⟩⟩⟩, fun hE => ⟨fun hh => absurd hh.1 hE, fun _ => ⟨fun hp => ⟨bd p1 _ 72 h1.1 hx (by decide), in1 h hx, h.prop hx ho hB hp, hl⟩, fun hp => (hp hE).elim⟩⟩⟩⟩⟩⟩
  · intro x out n1 p1 c1 a1 n2 p2 c2 a2 n3 p3 c3 a3 h
    have h : InvC rows R x out [(.mk n1 p1 c1, a1), (.mk n2 p2 c2, a2), (.mk n3 p3 c3, a3)] := h
    refine ⟨fun hx => ?_, fun hx => h.fin hx⟩
    obtain ⟨tl, vl⟩ := h.pp hx hr2
    have hl := h.less hx
    have h1 := h.1.2.2.2 _ (List.mem_cons_self ..)
    have h2 := h.1.2.2.2 _ (List.mem_cons_of_mem _ (List.mem_cons_self ..))
    exact ⟨h.1.1, hx, fun _ => ⟨by omega, fun he => h.bad hx he, fun ho => ⟨fun hB => ⟨fun _ => ⟨by omega, fun hn => h.begE hx ho hB hn, fun hn => ⟨fun _ => ⟨⟨by omega, by omega⟩, ⟨by omega, by omega⟩, ⟨by omega, by omega⟩, ⟨by omega, by omega⟩, fun hh => absurd hh (by decide), fun _ => ⟨in1 h hx, h.beg hx ho hB hn (show (3 : Nat) < 6 by decide), hl⟩⟩, fun hh => absurd hB hh⟩⟩, fun hh => absurd hB hh⟩, fun hB => ⟨fun hE => ⟨by omega, fun hn => h.endE hx ho hB hE hn, fun hn => ⟨fun hh => absurd hh hB, fun _ => ⟨fun hh => h.endN hx ho hB hh, fun hh => ⟨fun hp => absurd hE hp, fun _ => ⟨⟨bd c2 _ 64 h2.2 hx (by decide), by omega, by simp only [List.length_append, List.length_cons, List.length_nil]; omega, in1 h hx, h.pop0 hx ho hB hE hn hh, hl⟩, bd c2 _ 64 h2.2 hx (by decide), in1 h hx, h.pop hx ho hB hE hn hh, hl⟩⟩⟩⟩⟩, fun hE => ⟨fun hh => absurd hh.1 hE, fun _ => ⟨fun hp => ⟨bd p1 _ 72 h1.1 hx (by decide), in1 h hx, h.prop hx ho hB hp, hl⟩, fun hp => (hp hE).elim⟩⟩⟩⟩⟩⟩
  · intro x out n1 p1 c1 a1 n2 p2 c2 a2 n3 p3 c3 a3 n4 p4 c4 a4 h
    have h : InvC rows R x out [(.mk n1 p1 c1, a1), (.mk n2 p2 c2, a2), (.mk n3 p3 c3, a3), (.mk n4 p4 c4, a4)] := h
    refine ⟨fun hx => ?_, fun hx => h.fin hx⟩
    obtain ⟨tl, vl⟩ := h.pp hx hr2
    have hl := h.less hx
    have h1 := h.1.2.2.2 _ (List.mem_cons_self ..)
    have h2 := h.1.2.2.2 _ (List.mem_cons_of_mem _ (List.mem_cons_self ..))
    exact ⟨h.1.1, hx, fun _ => ⟨by omega, fun he => h.bad hx he, fun ho => ⟨fun hB => ⟨fun _ => ⟨by omega, fun hn => h.begE hx ho hB hn, fun hn => ⟨fun _ => ⟨⟨by omega, by omega⟩, ⟨by omega, by omega⟩, ⟨by omega, by omega⟩, ⟨by omega, by omega⟩, ⟨by omega, by omega⟩, fun hh => absurd hh (by decide), fun _ => ⟨in1 h hx, h.beg hx ho hB hn (show (4 : Nat) < 6 by decide), hl⟩⟩, fun hh => absurd hB hh⟩⟩, fun hh => absurd hB hh⟩, fun hB => ⟨fun hE => ⟨by omega, fun hn => h.endE hx ho hB hE hn, fun hn => ⟨fun hh => absurd hh hB, fun _ => ⟨fun hh => h.endN hx ho hB hh, fun hh => ⟨fun hp => absurd hE hp, fun _ => ⟨⟨bd c2 _ 64 h2.2 hx (by decide), by omega, by simp only [List.length_append, List.length_cons, List.length_nil]; omega, in1 h hx, h.pop0 hx ho hB hE hn hh, hl⟩, bd c2 _ 64 h2.2 hx (by decide), in1 h hx, h.pop hx ho hB hE hn hh, hl⟩⟩⟩⟩⟩, fun hE => ⟨fun hh => absurd hh.1 hE, fun _ => ⟨fun hp => ⟨bd p1 _ 72 h1.1 hx (by decide), in1 h hx, h.prop hx ho hB hp, hl⟩, fun hp => (hp hE).elim⟩⟩⟩⟩⟩⟩
  · intro x out n1 p1 c1 a1 n2 p2 c2 a2 n3 p3 c3 a3 n4 p4 c4 a4 n5 p5 c5 a5 h
    have h : InvC rows R x out [(.mk n1 p1 c1, a1), (.mk n2 p2 c2, a2), (.mk n3 p3 c3, a3), (.mk n4 p4 c4, a4), (.mk n5 p5 c5, a5)] := h
    refine ⟨fun hx => ?_, fun hx => h.fin hx⟩
    obtain ⟨tl, vl⟩ := h.pp hx hr2
    have hl := h.less hx
    have h1 := h.1.2.2.2 _ (List.mem_cons_self ..)
    have h2 := h.1.2.2.2 _ (List.mem_cons_of_mem _ (List.mem_cons_self ..))
    exact ⟨h.1.1, hx, fun _ => ⟨by omega, fun he => h.bad hx he, fun ho => ⟨fun hB => ⟨fun _ => ⟨by omega, fun hn => h.begE hx ho hB hn, fun hn => ⟨fun _ => ⟨⟨by omega, by omega⟩, ⟨by omega, by omega⟩, ⟨by omega, by omega⟩, ⟨by omega, by omega⟩, ⟨by omega, by omega⟩, ⟨by omega, by omega⟩, fun hh => absurd hh (by decide), fun _ => ⟨in1 h hx, h.beg hx ho hB hn (show (5 : Nat) < 6 by decide), hl⟩⟩, fun hh => absurd hB hh⟩⟩, fun hh => absurd hB hh⟩, fun hB => ⟨fun hE => ⟨by omega, fun hn => h.endE hx ho hB hE hn, fun hn => ⟨fun hh => absurd hh hB, fun _ => ⟨fun hh => h.endN hx ho hB hh, fun hh => ⟨fun hp => absurd hE hp, fun _ => ⟨⟨bd c2 _ 64 h2.2 hx (by decide), by omega, by simp only [List.length_append, List.length_cons, List.length_nil]; omega, in1 h hx, h.pop0 hx ho hB hE hn hh, hl⟩, bd c2 _ 64 h2.2 hx (by decide), in1 h hx, h.pop hx ho hB hE hn hh, hl⟩⟩⟩⟩⟩, fun hE => ⟨fun hh => absurd hh.1 hE, fun _ => ⟨fun hp => ⟨bd p1 _ 72 h1.1 hx (by decide), in1 h hx, h.prop hx ho hB hp, hl⟩, fun hp => (hp hE).elim⟩⟩⟩⟩⟩⟩
  · intro x out n1 p1 c1 a1 n2 p2 c2 a2 n3 p3 c3 a3 n4 p4 c4 a4 n5 p5 c5 a5 n6 p6 c6 a6 h
    have h : InvC rows R x out [(.mk n1 p1 c1, a1), (.mk n2 p2 c2, a2), (.mk n3 p3 c3, a3), (.mk n4 p4 c4, a4), (.mk n5 p5 c5, a5), (.mk n6 p6 c6, a6)] := h
    refine ⟨fun hx => ?_, fun hx => h.fin hx⟩
    obtain ⟨tl, vl⟩ := h.pp hx hr2
    have hl := h.less hx
    have h1 := h.1.2.2.2 _ (List.mem_cons_self ..)
    have h2 := h.1.2.2.2 _ (List.mem_cons_of_mem _ (List.mem_cons_self ..))
    exact ⟨h.1.1, hx, fun _ => ⟨by omega, fun he => h.bad hx he, fun ho => ⟨fun hB => ⟨fun _ => ⟨by omega, fun hn => h.begE hx ho hB hn, fun hn => ⟨fun _ => ⟨⟨by omega, by omega⟩, ⟨by omega, by omega⟩, ⟨by omega, by omega⟩, ⟨by omega, by omega⟩, ⟨by omega, by omega⟩, ⟨by omega, by omega⟩, ⟨by omega, by omega⟩, fun _ => h.begD hx ho hB hn (show 6 ≤ 6 by decide), fun hh => absurd (by decide) hh⟩, fun hh => absurd hB hh⟩⟩, fun hh => absurd hB hh⟩, fun hB => ⟨fun hE => ⟨by omega, fun hn => h.endE hx ho hB hE hn, fun hn => ⟨fun hh => absurd hh hB, fun _ => ⟨fun hh => h.endN hx ho hB hh, fun hh => ⟨fun hp => absurd hE hp, fun _ => ⟨⟨bd c2 _ 64 h2.2 hx (by decide), by omega, by simp only [List.length_append, List.length_cons, List.length_nil]; omega, in1 h hx, h.pop0 hx ho hB hE hn hh, hl⟩, bd c2 _ 64 h2.2 hx (by decide), in1 h hx, h.pop hx ho hB hE hn hh, hl⟩⟩⟩⟩⟩, fun hE => ⟨fun hh => absurd hh.1 hE, fun _ => ⟨fun hp => ⟨bd p1 _ 72 h1.1 hx (by decide), in1 h hx, h.prop hx ho hB hp, hl⟩, fun hp => (hp hE).elim⟩⟩⟩⟩⟩⟩
def c39 (a : List (SV U)) (nx : Nat) : Option (CR U) := match a with | [.str s] => some ⟨[List.length (α := UInt8) s ≤ 100000], [], .tup [.acc nx, .err (cE (compS s))], [.ac 68 ((cR (compS s)).1)]⟩ | _ => none
set_option maxRecDepth 100000 in
theorem c39_ok (args : List (SV U)) (nx : Nat) (c : CR U) (h : c39 args nx = some c) (hp : args.all pureS = true) (ho : allP c.ob) : ConOK NI86.P NI86.N NI86.T NI86.G 39 args nx c := by
  unfold c39 at h
  split at h
  · rename_i s
    cases h
    exact con2 NI86_ok (inlN_ok NI86_ok an39 3) Tryd.func39 (k1 := .acc 68) (k2 := .err) (x1 := (cR (compS s)).1) (x2 := cE (compS s)) rfl hp (V39_ok (p39 s ho.1))
  · cases h
noncomputable def N39 : Env := NI86.addC 39 c39
theorem N39_ok : EnvOK N39 := NI86_ok.addC Tryd.call39 c39_ok
end Go.Proofs.YtadgfmmmdhlljaaDoor
end
section
namespace Go.Co
open Go Go.Wk Go.Wl Go.Rx Go.Fo Go.Li
theorem uTop_no0 {a : Int} {out : List Row} {e : Int × Int} (h : uTop a out = .error e) : e.1 ≠ 0 := by
  unfold uTop at h
  split at h
  · cases h; exact (by decide : (4 : Int) ≠ 0)
  · split at h
    · cases h; exact (by decide : (5 : Int) ≠ 0)
    · cases h
theorem uGo_no0 : ∀ (ls : List Str) (a : Int) (out : List Row) (o : Bool) (e : Int × Int), uGo ls a out o = .error e → e.1 ≠ 0
  | [], _, out, _, e, h => by unfold uGo at h; cases h
  | l :: ls, a, out, o, e, h => by
    rw [uGo] at h
    cases hs : uStep a l out o with
    | error e' =>
      rw [hs] at h
      cases h
      unfold uStep at hs
      split at hs
      · cases hs
      · split at hs
        · split at hs
          · exact uTop_no0 hs
          · cases hs; exact (by decide : (11 : Int) ≠ 0)
        · exact uTop_no0 hs
    | ok q => rw [hs] at h; exact uGo_no0 ls _ _ _ e h
theorem unfold_no0 {s : Str} {e : Int × Int} (h : unfoldS s = .error e) : e.1 ≠ 0 := uGo_no0 _ _ _ _ _ h
def rGo : List Row → List CRow × Int × Int
  | [] => ([], 0, 0)
  | r :: l => if (parseR r.Text).2 ≠ 0 then ([], (parseR r.Text).2, r.At) else (⟨r.At, (parseR r.Text).1⟩ :: (rGo l).1, (rGo l).2.1, (rGo l).2.2)
def rowsR (s : Str) : List CRow × Int × Int := match unfoldS s with | .error e => ([], e.1, e.2) | .ok l => rGo l
def finR (e a : Int) (r : Except (Int × Int) (List Comp)) : Except (Int × Int) (List Comp) := if e ≠ 0 then .error (e, a) else r
def goR (e a : Int) : List CRow → List Frm → List Comp → Except (Int × Int) (List Comp)
  | [], [], out => finR e a (.ok out)
  | [], (_, b) :: _, _ => finR e a (.error (11, b))
  | r :: rs, st, out => match stepC st out r.At r.P with
    | .error e => .error e
    | .ok q => goR e a rs q.1 q.2
theorem goR_goC : ∀ (l : List Row) (st : List Frm) (out : List Comp), goR (rGo l).2.1 (rGo l).2.2 (rGo l).1 st out = goC l st out
  | [], [], out => rfl
  | [], (_, b) :: _, _ => rfl
  | r :: l, st, out => by
    by_cases h : (parseS r.Text).2 = .nil
    · have e := parse_ok h
      have e0 : ¬ (parseR r.Text).2 ≠ 0 := by rw [e]; simp
      unfold rGo goC
      rw [if_neg e0, if_neg (fun hh => hh h), e]
      simp only [goR]
      cases stepC st out r.At (parseS r.Text).1 with
      | error e => rfl
      | ok q => exact goR_goC l q.1 q.2
    · obtain ⟨-, n, e1, e2, e3⟩ := parse_err h
      have hn : n ≠ 0 := by rcases e2 with rfl | rfl <;> decide
      have e0 : (parseR r.Text).2 ≠ 0 := by rw [e3]; exact hn
      have e4 : (parseR r.Text).2 = n := by rw [e3]
      unfold rGo goC
      rw [if_pos e0, if_pos h, e1, e4]
      cases st with
      | nil => show finR n r.At _ = _; unfold finR; rw [if_pos hn]; rfl
      | cons f st => obtain ⟨c, b⟩ := f; show finR n r.At _ = _; unfold finR; rw [if_pos hn]; rfl
theorem compS_rows (s : Str) : compS s = goR (rowsR s).2.1 (rowsR s).2.2 (rowsR s).1 [] [] := by
  unfold compS rowsR
  cases h : unfoldS s with
  | error e => show _ = finR e.1 e.2 _; unfold finR; rw [if_pos (unfold_no0 h)]
  | ok l => exact (goR_goC l [] []).symm
def sameP (a b : List Prp) : Bool := decide (a = b)
noncomputable def sameC (a b : List Comp) : Bool := @decide (a = b) (Classical.propDecidable _)
theorem sameC_iff {a b : List Comp} : sameC a b = true ↔ a = b := by
  unfold sameC
  exact @decide_eq_true_iff _ (Classical.propDecidable _)
noncomputable def csz (l : List Comp) : Nat := SizeOf.sizeOf l
theorem csz_in {l : List Comp} {i : Int} (h0 : 0 ≤ i) (h1 : i < l.length) : csz (ix l i).Comps < csz l := by
  have h2 := List.sizeOf_lt_of_mem (ix_mem h0 h1)
  unfold csz
  generalize ix l i = c at h2 ⊢
  obtain ⟨n, p, cs⟩ := c
  rw [Comp.mk.sizeOf_spec] at h2
  show SizeOf.sizeOf cs < SizeOf.sizeOf l
  omega
theorem Comp.ext' {a b : Comp} (h1 : a.Name = b.Name) (h2 : a.Props = b.Props) (h3 : a.Comps = b.Comps) : a = b := by
  obtain ⟨n, p, c⟩ := a
  obtain ⟨n', p', c'⟩ := b
  have h1 : n = n' := h1
  have h2 : p = p' := h2
  have h3 : c = c' := h3
  rw [h1, h2, h3]
def okP (p : Prp) : Prop := p.Params.length ≤ 9223372036854775807 ∧ ∀ x ∈ p.Params, x.Values.length ≤ 9223372036854775807
inductive OkC : Comp → Prop
  | mk {n : Str} {p : List Prp} {c : List Comp} : p.length ≤ 100000000 → (∀ x ∈ p, okP x) → c.length ≤ 100000000 → (∀ x ∈ c, OkC x) → OkC (.mk n p c)
theorem OkC.out {c : Comp} (h : OkC c) : c.Props.length ≤ 100000000 ∧ (∀ x ∈ c.Props, okP x) ∧ c.Comps.length ≤ 100000000 ∧ ∀ x ∈ c.Comps, OkC x := by
  cases h with | mk h1 h2 h3 h4 => exact ⟨h1, h2, h3, h4⟩
def rApp (p : List CRow × Int × Int) (out : List CRow) : List CRow × Int × Int := (out ++ p.1, p.2.1, p.2.2)
theorem rGo_next {l : List Row} {x : Int} (h0 : 0 ≤ x) (h1 : x < l.length) (out : List CRow) (he : ¬ (parseR (ix l x).Text).2 ≠ 0) : rApp (rGo (l.drop x.toNat)) out = rApp (rGo (l.drop (x + 1).toNat)) (out ++ [⟨(ix l x).At, (parseR (ix l x).Text).1⟩]) := by
  rw [drop_ix h0 h1, rGo, if_neg he]
  unfold rApp
  simp
theorem rGo_stop {l : List Row} {x : Int} (h0 : 0 ≤ x) (h1 : x < l.length) (out : List CRow) (he : (parseR (ix l x).Text).2 ≠ 0) : rApp (rGo (l.drop x.toNat)) out = (out, (parseR (ix l x).Text).2, (ix l x).At) := by
  rw [drop_ix h0 h1, rGo, if_pos he]
  unfold rApp
  simp
theorem rGo_end {l : List Row} {x : Int} (h1 : ¬ x < l.length) (h0 : 0 ≤ x) (out : List CRow) : rApp (rGo (l.drop x.toNat)) out = (out, 0, 0) := by
  rw [List.drop_eq_nil_of_le (by omega), rGo]
  unfold rApp
  simp
end Go.Co
end
section
namespace Go.Proofs.YtadgfmmmdhlljaaDoor
open Go Go.Wk Go.Wl Go.Rx Go.Fo Go.Li Go.Co 
def an88 : Nat → Ann := fun | 88 => ⟨22, fun _ => none, fun  | _ => none⟩ | _ => ⟨0, fun _ => none, fun _ => none⟩
def V88 (p : Prp) (Q : Str → Prop) : Prop :=
(¬(p.Group ≠ [] ∨ (0 : Int) < (↑p.Params.length : Int)) → List.length (upper p.Value) ≤ (100000000 : Nat)) ∧
  ((p.Group ≠ [] ∨ (0 : Int) < (↑p.Params.length : Int)) ∨ ¬nameB (upper p.Value) = true → Q []) ∧
    (¬((p.Group ≠ [] ∨ (0 : Int) < (↑p.Params.length : Int)) ∨ ¬nameB (upper p.Value) = true) → Q (upper p.Value))
set_option maxRecDepth 100000 in
theorem V88_ok {p : Prp} {Q : Str → Prop} (h : V88 p Q) : vcFun (E := N39) (inlN an88 2) (an88 88) Tryd.f88 [.agg [.str p.Group, .str p.Name, .sl (N := U) 59 p.Params, .str p.Value]] [] [] 0 (resP N39 [.str] Q) := Eq.mp (show V88 p Q = vcFun (E := N39) (inlN an88 2) (an88 88) Tryd.f88 [.agg [.str p.Group, .str p.Name, .sl (N := U) 59 p.Params, .str p.Value]] [] [] 0 (resP N39 [.str] Q) by kernel_rfl) h
theorem p88 (p : Prp) (hs : p.Value.length ≤ 100000) : V88 p (fun y0 => y0 = nameP p) := by
  unfold V88
  have hl : (0 : Int) < (p.Params.length : Int) ↔ p.Params ≠ [] := by cases p.Params <;> simp
  have hu : (upper p.Value).length = p.Value.length := by unfold upper; rw [List.length_map]
  have hn : nameB (upper p.Value) = true ↔ isName (upper p.Value) := by unfold nameB; exact decide_eq_true_iff
  rw [hl, hn]
  refine ⟨fun _ => by omega, fun h => ?_, fun h => ?_⟩
  · unfold nameP
    rw [if_neg]
    rintro ⟨h1, h2, h3⟩
    rcases h with (h | h) | h
    · exact h h1
    · exact h h2
    · exact h h3
  · unfold nameP
    rw [if_pos]
    exact ⟨Classical.byContradiction fun n => h (.inl (.inl n)), Classical.byContradiction fun n => h (.inl (.inr n)), Classical.byContradiction fun n => h (.inr n)⟩
def c88s (p : Prp) : Q1 U := ⟨[List.length (α := UInt8) p.Value ≤ 100000], [], .str (nameP p)⟩
def c88 (a : List (SV U)) : Option (Q1 U) := match a with | [.agg [.str p0, .str p1, .sl 59 p2, .str p3]] => some (c88s (⟨p0, p1, p2, p3⟩)) | _ => none
set_option maxRecDepth 100000 in
theorem c88_ok (args : List (SV U)) (q : Q1 U) (h : c88 args = some q) (ho : allP q.ob) : LendOK N39 88 args ⟨q.ob, q.hy, q.v, []⟩ := by
  unfold c88 at h
  split at h
  · rename_i p0 p1 p2 p3
    cases h
    exact lend1 N39_ok (inlN_ok N39_ok an88 2) Tryd.func88 (k := .str) trivial (V88_ok (p88 (⟨p0, p1, p2, p3⟩) ho.1)) 0
  · cases h
noncomputable def N88 : Env := N39.addL 88 c88
theorem N88_ok : EnvOK N88 := N39_ok.addL Tryd.call88 c88_ok
end Go.Proofs.YtadgfmmmdhlljaaDoor
end
section
namespace Go.Proofs.YtadgfmmmdhlljaaDoor
open Go Go.Wk Go.Wl Go.Rx Go.Fo Go.Li Go.Co 
def an87 : Nat → Ann := fun | 87 => ⟨57, fun | 6 => some ⟨[5], [.slot 8 (.acc 126), .slot 9 (.int .i64)]⟩ | _ => none, fun  | _ => none⟩ | _ => ⟨0, fun _ => none, fun _ => none⟩
def V87 (s : Str) (Q : List CRow → Int → Int → Prop) : Prop :=
List.length s ≤ (100000 : Nat) ∧ ((uR (unfoldS s)).snd.fst ≠ (0 : Int) → Q [] (uR (unfoldS s)).snd.fst (uR (unfoldS s)).snd.snd) ∧ (¬(uR (unfoldS s)).snd.fst ≠ (0 : Int) → ∃ (I : List CRow → Int → Prop), ∃ (m : List CRow → Int → Nat), I [] (0 : Int) ∧ ∀ (x : List CRow) (x_1 : Int), I x x_1 → (x_1 < (↑(uR (unfoldS s)).fst.length : Int) → (0 : Int) ≤ x_1 ∧ x_1 < (↑(uR (unfoldS s)).fst.length : Int) ∧ (in64 (ix (uR (unfoldS s)).fst x_1).At → List.length (ix (uR (unfoldS s)).fst x_1).Text ≤ (100000000 : Nat) ∧ ((parseR (ix (uR (unfoldS s)).fst x_1).Text).snd ≠ (0 : Int) → (0 : Int) ≤ x_1 ∧ x_1 < (↑(uR (unfoldS s)).fst.length : Int) ∧ (in64 (ix (uR (unfoldS s)).fst x_1).At → Q x (parseR (ix (uR (unfoldS s)).fst x_1).Text).snd (ix (uR (unfoldS s)).fst x_1).At)) ∧ (¬(parseR (ix (uR (unfoldS s)).fst x_1).Text).snd ≠ (0 : Int) → ((0 : Int) ≤ x_1 ∧ x_1 < (↑(uR (unfoldS s)).fst.length : Int)) ∧ (in64 (ix (uR (unfoldS s)).fst x_1).At → (x.length + [CRow.mk (ix (uR (unfoldS s)).fst x_1).At (Prp.mk (parseR (ix (uR (unfoldS s)).fst x_1).Text).fst.Group (parseR (ix (uR (unfoldS s)).fst x_1).Text).fst.Name (parseR (ix (uR (unfoldS s)).fst x_1).Text).fst.Params (parseR (ix (uR (unfoldS s)).fst x_1).Text).fst.Value)].length) * (some (80 : Nat)).getD (0 : Nat) ≤ (140737488355328 : Nat)) ∧ (in64 (ix (uR (unfoldS s)).fst x_1).At → in64 (x_1 + (1 : Int)) ∧ I (x ++ [CRow.mk (ix (uR (unfoldS s)).fst x_1).At (Prp.mk (parseR (ix (uR (unfoldS s)).fst x_1).Text).fst.Group (parseR (ix (uR (unfoldS s)).fst x_1).Text).fst.Name (parseR (ix (uR (unfoldS s)).fst x_1).Text).fst.Params (parseR (ix (uR (unfoldS s)).fst x_1).Text).fst.Value)]) (x_1 + (1 : Int)) ∧ m (x ++ [CRow.mk (ix (uR (unfoldS s)).fst x_1).At (Prp.mk (parseR (ix (uR (unfoldS s)).fst x_1).Text).fst.Group (parseR (ix (uR (unfoldS s)).fst x_1).Text).fst.Name (parseR (ix (uR (unfoldS s)).fst x_1).Text).fst.Params (parseR (ix (uR (unfoldS s)).fst x_1).Text).fst.Value)]) (x_1 + (1 : Int)) < m x x_1)))) ∧ (¬x_1 < (↑(uR (unfoldS s)).fst.length : Int) → Q x (0 : Int) (0 : Int)))
set_option maxRecDepth 100000 in
theorem V87_ok {s : Str} {Q : List CRow → Int → Int → Prop} (h : V87 s Q) : vcFun (E := N88) (inlN an87 2) (an87 87) Tryd.f87 [.str s] [] [] 0 (resP N88 [.acc 126, .int .i64, .int .i64] Q) := Eq.mp (show V87 s Q = vcFun (E := N88) (inlN an87 2) (an87 87) Tryd.f87 [.str s] [] [] 0 (resP N88 [.acc 126, .int .i64, .int .i64] Q) by kernel_rfl) h
theorem p87 (s : Str) (hs : s.length ≤ 100000) : V87 s (fun y0 y1 y2 => y0 = (rowsR s).1 ∧ y1 = (rowsR s).2.1 ∧ y2 = (rowsR s).2.2) := by
  unfold V87
  refine ⟨hs, fun he => ?_, fun he => ?_⟩
  · cases hu : unfoldS s with
    | ok rows => rw [hu] at he; exact absurd rfl he
    | error e => unfold rowsR; rw [hu]; exact ⟨rfl, rfl, rfl⟩
  cases hu : unfoldS s with
  | error e => rw [hu] at he; exact absurd (unfold_no0 hu) he
  | ok rows =>
  have hR : rowsR s = rGo rows := by unfold rowsR; rw [hu]
  have hrows : (uR (.ok rows)).1 = rows := rfl
  rw [hrows, hR]
  obtain ⟨hr1, hr2⟩ := unfold_short hu
  clear he hu hR hrows
  refine ⟨fun x i => 0 ≤ i ∧ i ≤ rows.length ∧ (x.length : Int) ≤ i ∧ rApp (rGo (rows.drop i.toNat)) x = rGo rows, fun _ i => ((rows.length : Int) - i).toNat, ⟨by omega, by omega, by simp, by unfold rApp; simp⟩, ?_⟩
  rintro x i ⟨i0, i1, xl, h⟩
  refine ⟨fun hi => ⟨i0, hi, fun hin => ⟨by have := hr2 _ (ix_mem i0 hi); omega, fun he => ⟨i0, hi, fun _ => ?_⟩, fun he => ⟨⟨i0, hi⟩, fun _ => ?_, fun _ => ⟨⟨by omega, by omega⟩, ⟨by omega, by omega, ?_, (rGo_next i0 hi x he).symm.trans h⟩, by dsimp only; omega⟩⟩⟩⟩, fun hi => ?_⟩
  · rw [rGo_stop i0 hi x he] at h; rw [← h]; exact ⟨rfl, rfl, rfl⟩
  · simp only [List.length_cons, List.length_nil, Option.getD_some]; omega
  · simp only [List.length_append, List.length_cons, List.length_nil]; omega
  · rw [rGo_end hi i0 x] at h; rw [← h]; exact ⟨rfl, rfl, rfl⟩
def c87 (a : List (SV U)) (nx : Nat) : Option (CR U) := match a with | [.str s] => some ⟨[List.length (α := UInt8) s ≤ 100000], [], .tup [.acc nx, .int .i64 ((rowsR s).2.1), .int .i64 ((rowsR s).2.2)], [.ac 126 ((rowsR s).1)]⟩ | _ => none
set_option maxRecDepth 100000 in
theorem c87_ok (args : List (SV U)) (nx : Nat) (c : CR U) (h : c87 args nx = some c) (hp : args.all pureS = true) (ho : allP c.ob) : ConOK N88.P N88.N N88.T N88.G 87 args nx c := by
  unfold c87 at h
  split at h
  · rename_i s
    cases h
    exact con3 N88_ok (inlN_ok N88_ok an87 2) Tryd.func87 (k1 := .acc 126) (k2 := .int .i64) (k3 := .int .i64) (x1 := (rowsR s).1) (x2 := (rowsR s).2.1) (x3 := (rowsR s).2.2) rfl rfl hp (V87_ok (p87 s ho.1))
  · cases h
noncomputable def N87 : Env := N88.addC 87 c87
theorem N87_ok : EnvOK N87 := N88_ok.addC Tryd.call87 c87_ok
end Go.Proofs.YtadgfmmmdhlljaaDoor
end
section
namespace Go.Proofs.YtadgfmmmdhlljaaDoor
open Go Go.Wk Go.Wl Go.Rx Go.Fo Go.Li Go.Co 
def an45 : Nat → Ann := fun | 45 => ⟨27, fun | 4 => some ⟨[0, 1], [.slot 5 (.int .i64)]⟩ | _ => none, fun  | _ => none⟩ | _ => ⟨0, fun _ => none, fun _ => none⟩
def V45 (a : List Prp) (b : List Prp) (Q : Bool → Prop) : Prop :=
((↑a.length : Int) ≠ (↑b.length : Int) → Q false) ∧
  (¬(↑a.length : Int) ≠ (↑b.length : Int) →
    ∃ (I : Int → Prop),
      ∃ (m : Int → Nat),
        I (0 : Int) ∧
          ∀ (x : Int),
            I x →
              (x < (↑a.length : Int) →
                  ((0 : Int) ≤ x ∧ x < (↑a.length : Int)) ∧
                    ((0 : Int) ≤ x ∧ x < (↑b.length : Int)) ∧
                      ((ix a x).Params.length ≤ (9223372036854775807 : Nat) ∧ ∀ (x_1 : Param), x_1 ∈ (ix a x).Params → x_1.Values.length ≤ (9223372036854775807 : Nat)) ∧
                        (¬decide (Prp.mk (ix a x).Group (ix a x).Name (ix a x).Params (ix a x).Value = Prp.mk (ix b x).Group (ix b x).Name (ix b x).Params (ix b x).Value) = true → Q false) ∧
                          (¬¬decide (Prp.mk (ix a x).Group (ix a x).Name (ix a x).Params (ix a x).Value = Prp.mk (ix b x).Group (ix b x).Name (ix b x).Params (ix b x).Value) = true →
                            in64 (x + (1 : Int)) ∧ I (x + (1 : Int)) ∧ m (x + (1 : Int)) < m x)) ∧
                (¬x < (↑a.length : Int) → Q true))
set_option maxRecDepth 100000 in
theorem V45_ok {a : List Prp} {b : List Prp} {Q : Bool → Prop} (h : V45 a b Q) : vcFun (E := N87) (inlN an45 2) (an45 45) Tryd.f45 [.sl (N := U) 45 a, .sl (N := U) 45 b] [] [] 0 (resP N87 [.bool] Q) := Eq.mp (show V45 a b Q = vcFun (E := N87) (inlN an45 2) (an45 45) Tryd.f45 [.sl (N := U) 45 a, .sl (N := U) 45 b] [] [] 0 (resP N87 [.bool] Q) by kernel_rfl) h
theorem p45 (a : List Prp) (b : List Prp) (hs : a.length ≤ 100000000) (hk : ∀ x ∈ a, okP x) : V45 a b (fun y0 => y0 = sameP a b) := by
  unfold V45 sameP
  refine ⟨fun h => (decide_eq_false fun e => by subst e; exact h rfl).symm, fun h => ?_⟩
  have hl : (a.length : Int) = b.length := Classical.not_not.1 h
  refine ⟨fun x => 0 ≤ x ∧ x ≤ a.length ∧ ∀ j : Int, 0 ≤ j → j < x → ix a j = ix b j, fun x => ((a.length : Int) - x).toNat, ⟨by omega, by omega, fun j _ _ => by omega⟩, ?_⟩
  rintro x ⟨x0, x1, hx⟩
  refine ⟨fun hi => ⟨⟨x0, hi⟩, ⟨x0, by omega⟩, hk _ (ix_mem x0 hi), fun hb => ?_, fun hb => ⟨⟨by omega, by omega⟩, ⟨by omega, by omega, fun j j0 j1 => ?_⟩, by dsimp only; omega⟩⟩, fun hi => ?_⟩
  · refine (decide_eq_false fun e => hb ?_).symm
    subst e; exact decide_eq_true rfl
  · by_cases e : j = x
    · subst e; exact of_decide_eq_true (Classical.not_not.1 hb)
    · exact hx j j0 (by omega)
  · exact (decide_eq_true (list_ix (by omega) fun j j0 j1 => hx j j0 (by omega))).symm
def c45 (a : List (SV U)) : Option (Q1 U) := match a with | [.sl 45 a, .sl 45 b] => some ⟨[List.length (α := Prp) a ≤ 100000000, ∀ x ∈ (a : List Prp), okP x], [], blB (sameP a b)⟩ | _ => none
set_option maxRecDepth 100000 in
theorem c45_ok (args : List (SV U)) (q : Q1 U) (h : c45 args = some q) (ho : allP q.ob) : LendOK N87 45 args ⟨q.ob, q.hy, q.v, []⟩ := by
  unfold c45 at h
  split at h
  · rename_i a b
    cases h
    exact lend1 N87_ok (inlN_ok N87_ok an45 2) Tryd.func45 (k := .bool) (x := sameP a b) trivial (V45_ok (p45 a b ho.1 ho.2.1)) 0
  · cases h
noncomputable def N45 : Env := N87.addL 45 c45
theorem N45_ok : EnvOK N45 := N87_ok.addL Tryd.call45 c45_ok
end Go.Proofs.YtadgfmmmdhlljaaDoor
end
section
namespace Go.Proofs.YtadgfmmmdhlljaaDoor
open Go Go.Wk Go.Wl Go.Rx Go.Fo Go.Li Go.Co 
noncomputable def c41b (o : List Prop) (a : List Comp) (b : List Comp) : Q1 U := ⟨o, [], blB (sameC a b)⟩
noncomputable def c41n (n : Nat) (a : List (SV U)) : Option (Q1 U) := match a with | [.sl 68 a, .sl 68 b] => some (c41b [List.length (α := Comp) a ≤ 100000000, ∀ x ∈ (a : List Comp), OkC x, csz a < n] a b) | _ => none
noncomputable def E41 (n : Nat) : Env := N45.addL 41 (c41n n)
theorem E41_ok {n : Nat} (h : ∀ args q, c41n n args = some q → allP q.ob → LendOK N45 41 args ⟨q.ob, q.hy, q.v, []⟩) : EnvOK (E41 n) := N45_ok.addL Tryd.call41 h
end Go.Proofs.YtadgfmmmdhlljaaDoor
end
section
namespace Go.Proofs.YtadgfmmmdhlljaaDoor
open Go Go.Wk Go.Wl Go.Rx Go.Fo Go.Li Go.Co 
def an41 : Nat → Ann := fun | 41 => ⟨56, fun | 4 => some ⟨[0, 1], [.slot 5 (.int .i64)]⟩ | _ => none, fun  | _ => none⟩ | _ => ⟨0, fun _ => none, fun _ => none⟩
def V41 (n : Nat) (a : List Comp) (b : List Comp) (Q : Bool → Prop) : Prop :=
((↑a.length : Int) ≠ (↑b.length : Int) → Q false) ∧
  (¬(↑a.length : Int) ≠ (↑b.length : Int) →
    ∃ (I : Int → Prop),
      ∃ (m : Int → Nat),
        I (0 : Int) ∧
          ∀ (x : Int),
            I x →
              (x < (↑a.length : Int) →
                  ((0 : Int) ≤ x ∧ x < (↑a.length : Int)) ∧
                    ((0 : Int) ≤ x ∧ x < (↑b.length : Int)) ∧
                      ((¬(ix a x).Name ≠ (ix b x).Name → (0 : Int) ≤ x) ∧ (¬(ix a x).Name ≠ (ix b x).Name → x < (↑a.length : Int))) ∧
                        ((¬(ix a x).Name ≠ (ix b x).Name → (0 : Int) ≤ x) ∧ (¬(ix a x).Name ≠ (ix b x).Name → x < (↑b.length : Int))) ∧
                          ((¬(ix a x).Name ≠ (ix b x).Name → (ix a x).Props.length ≤ (100000000 : Nat)) ∧ (¬(ix a x).Name ≠ (ix b x).Name → ∀ (x_1 : Prp), x_1 ∈ (ix a x).Props → okP x_1)) ∧
                            ((¬((ix a x).Name ≠ (ix b x).Name ∨ ¬sameP (ix a x).Props (ix b x).Props = true) → (0 : Int) ≤ x) ∧
                                (¬((ix a x).Name ≠ (ix b x).Name ∨ ¬sameP (ix a x).Props (ix b x).Props = true) → x < (↑a.length : Int))) ∧
                              ((¬((ix a x).Name ≠ (ix b x).Name ∨ ¬sameP (ix a x).Props (ix b x).Props = true) → (0 : Int) ≤ x) ∧
                                  (¬((ix a x).Name ≠ (ix b x).Name ∨ ¬sameP (ix a x).Props (ix b x).Props = true) → x < (↑b.length : Int))) ∧
                                ((¬((ix a x).Name ≠ (ix b x).Name ∨ ¬sameP (ix a x).Props (ix b x).Props = true) → (ix a x).Comps.length ≤ (100000000 : Nat)) ∧
                                    (¬((ix a x).Name ≠ (ix b x).Name ∨ ¬sameP (ix a x).Props (ix b x).Props = true) → ∀ (x_1 : Comp), x_1 ∈ (ix a x).Comps → OkC x_1) ∧
                                      (¬((ix a x).Name ≠ (ix b x).Name ∨ ¬sameP (ix a x).Props (ix b x).Props = true) → csz (ix a x).Comps < n)) ∧
                                  (((ix a x).Name ≠ (ix b x).Name ∨ ¬sameP (ix a x).Props (ix b x).Props = true) ∨ ¬sameC (ix a x).Comps (ix b x).Comps = true → Q false) ∧
                                    (¬(((ix a x).Name ≠ (ix b x).Name ∨ ¬sameP (ix a x).Props (ix b x).Props = true) ∨ ¬sameC (ix a x).Comps (ix b x).Comps = true) →
                                      in64 (x + (1 : Int)) ∧ I (x + (1 : Int)) ∧ m (x + (1 : Int)) < m x)) ∧
                (¬x < (↑a.length : Int) → Q true))
set_option maxRecDepth 100000 in
theorem V41_ok {n : Nat} {a : List Comp} {b : List Comp} {Q : Bool → Prop} (h : V41 n a b Q) : vcFun (E := E41 n) (inlN an41 2) (an41 41) Tryd.f41 [.sl (N := U) 68 a, .sl (N := U) 68 b] [] [] 0 (resP (E41 n) [.bool] Q) := Eq.mp (show V41 n a b Q = vcFun (E := E41 n) (inlN an41 2) (an41 41) Tryd.f41 [.sl (N := U) 68 a, .sl (N := U) 68 b] [] [] 0 (resP (E41 n) [.bool] Q) by kernel_rfl) h
theorem p41 (n : Nat) (a : List Comp) (b : List Comp) (hs : a.length ≤ 100000000) (hk : ∀ x ∈ a, OkC x) (hr : csz a < n + 1) : V41 n a b (fun y => y = sameC a b) := by
  unfold V41
  have ne : ¬ a = b → false = sameC a b := fun h => by
    cases e : sameC a b with
    | false => rfl
    | true => exact absurd (sameC_iff.1 e) h
  refine ⟨fun h => ne fun e => by subst e; exact h rfl, fun h => ?_⟩
  have hl : (a.length : Int) = b.length := Classical.not_not.1 h
  refine ⟨fun x => 0 ≤ x ∧ x ≤ a.length ∧ ∀ j : Int, 0 ≤ j → j < x → ix a j = ix b j, fun x => ((a.length : Int) - x).toNat, ⟨by omega, by omega, fun j _ _ => by omega⟩, ?_⟩
  rintro x ⟨x0, x1, hx⟩
  refine ⟨fun hi => ?_, fun hi => ?_⟩
  · have hb : x < (b.length : Int) := by omega
    obtain ⟨k1, k2, k3, k4⟩ := (hk _ (ix_mem x0 hi)).out
    refine ⟨⟨x0, hi⟩, ⟨x0, hb⟩, ⟨fun _ => x0, fun _ => hi⟩, ⟨fun _ => x0, fun _ => hb⟩, ⟨fun _ => k1, fun _ => k2⟩, ⟨fun _ => x0, fun _ => hi⟩, ⟨fun _ => x0, fun _ => hb⟩, ⟨fun _ => k3, fun _ => k4, fun _ => by have := csz_in x0 hi; omega⟩, fun hd => ?_, fun hd => ⟨⟨by omega, by omega⟩, ⟨by omega, by omega, fun j j0 j1 => ?_⟩, by dsimp only; omega⟩⟩
    · refine ne fun e => ?_
      subst e
      rcases hd with (hd | hd) | hd
      · exact hd rfl
      · exact hd (by unfold sameP; exact decide_eq_true rfl)
      · exact hd (sameC_iff.2 rfl)
    · by_cases e : j = x
      · subst e
        have h2 : sameP (ix a j).Props (ix b j).Props = true := Classical.byContradiction fun n => hd (.inl (.inr n))
        unfold sameP at h2
        exact Comp.ext' (Classical.byContradiction fun n => hd (.inl (.inl n))) (of_decide_eq_true h2) (sameC_iff.1 (Classical.byContradiction fun n => hd (.inr n)))
      · exact hx j j0 (by omega)
  · exact (sameC_iff.2 (list_ix (by omega) fun j j0 j1 => hx j j0 (by omega))).symm
set_option maxRecDepth 100000 in
theorem c41n_ok : ∀ (n : Nat) (args : List (SV U)) (q : Q1 U), c41n n args = some q → allP q.ob → LendOK N45 41 args ⟨q.ob, q.hy, q.v, []⟩
  | 0, args, q, h, ho => by
    unfold c41n at h
    split at h
    · rename_i a b
      cases h
      exact absurd ho.2.2.1 (Nat.not_lt_zero _)
    · cases h
  | n + 1, args, q, h, ho => by
    have hE := E41_ok (c41n_ok n)
    unfold c41n at h
    split at h
    · rename_i a b
      cases h
      exact fun D w vs h1 h2 h3 => lend1 hE (inlN_ok hE an41 2) Tryd.func41 (k := .bool) trivial (V41_ok (p41 n a b ho.1 ho.2.1 ho.2.2.1)) 0 D w vs h1 h2 h3
    · cases h
noncomputable def c41 (a : List (SV U)) : Option (Q1 U) := match a with | [.sl 68 a, .sl 68 b] => some (c41b [List.length (α := Comp) a ≤ 100000000, ∀ x ∈ (a : List Comp), OkC x] a b) | _ => none
theorem c41_ok (args : List (SV U)) (q : Q1 U) (h : c41 args = some q) (ho : allP q.ob) : LendOK N45 41 args ⟨q.ob, q.hy, q.v, []⟩ := by
  unfold c41 at h
  split at h
  · rename_i a b
    cases h
    exact fun D w vs h1 h2 h3 => c41n_ok (csz a + 1) [.sl 68 a, .sl 68 b] (c41b [List.length (α := Comp) a ≤ 100000000, ∀ x ∈ (a : List Comp), OkC x, csz a < csz a + 1] a b) rfl ⟨ho.1, ho.2.1, Nat.lt_succ_self _, trivial⟩ D w vs h1 h2 h3
  · cases h
noncomputable def N41 : Env := N45.addL 41 c41
theorem N41_ok : EnvOK N41 := N45_ok.addL Tryd.call41 c41_ok
end Go.Proofs.YtadgfmmmdhlljaaDoor
end
section
namespace Go.Proofs.YtadgfmmmdhlljaaDoor
open Go Go.Wk Go.Wl Go.Rx Go.Fo Go.Li Go.Co 
noncomputable def EWr : Env := { N41 with rws := fun t => Nat.beq t 68 }
theorem EWr_ok : EnvOK EWr := ⟨N41_ok.mixed, N41_ok.zob, N41_ok.call, N41_ok.inl, N41_ok.con, N41_ok.lend, N41_ok.obc, N41_ok.wrc⟩
end Go.Proofs.YtadgfmmmdhlljaaDoor
end
section
namespace Go.Co
open Go Go.Wk Go.Wl Go.Rx Go.Fo Go.Li
section
variable (rows : List CRow) (e a : Int) (R : Except (Int × Int) (List Comp))
def InvR (x : Int) (out : List Comp) (st : List Frm) : Prop :=
  (0 ≤ x ∧ x ≤ rows.length ∧ (out.length : Int) ≤ x ∧ ∀ f ∈ st, (f.1.Props.length : Int) ≤ x ∧ (f.1.Comps.length : Int) ≤ x) ∧ R = goR e a (rows.drop x.toNat) st out
end
section
variable {rows : List CRow} {e a : Int} {R : Except (Int × Int) (List Comp)} {x : Int} {out : List Comp} {st : List Frm} {c d : Comp} {b b' : Int}
theorem InvR.next (h : InvR rows e a R x out st) (hx : x < rows.length) : R = goR e a (ix rows x :: rows.drop (x + 1).toNat) st out := by rw [← drop_ix h.1.1 hx]; exact h.2
theorem InvR.err (h : InvR rows e a R x out st) (hx : x < rows.length) {n : Int} (hs : stepC st out (ix rows x).At (ix rows x).P = .error (n, (ix rows x).At)) : [] = (cR R).1 ∧ n = (cR R).2.1 ∧ (ix rows x).At = (cR R).2.2 := by
  rw [h.next hx, goR, hs]
  exact ⟨rfl, rfl, rfl⟩
theorem InvR.ok (h : InvR rows e a R x out st) (hx : x < rows.length) {st' : List Frm} {out' : List Comp} (hs : stepC st out (ix rows x).At (ix rows x).P = .ok (st', out')) (h1 : (out'.length : Int) ≤ x + 1) (h2 : ∀ f ∈ st', (f.1.Props.length : Int) ≤ x + 1 ∧ (f.1.Comps.length : Int) ≤ x + 1) : InvR rows e a R (x + 1) out' st' := by
  have h0 := h.1.1
  refine ⟨⟨by omega, by omega, h1, h2⟩, ?_⟩
  rw [h.next hx, goR, hs]
theorem InvR.fr (h : InvR rows e a R x out st) : ∀ f ∈ st, (f.1.Props.length : Int) ≤ x + 1 ∧ (f.1.Comps.length : Int) ≤ x + 1 := fun f hf => by
  have := h.1.2.2.2 f hf; omega
theorem InvR.begE (h : InvR rows e a R x out st) (hx : x < rows.length) (hB : (ix rows x).P.Name = sBEGIN) (hn : nameP (ix rows x).P = []) : [] = (cR R).1 ∧ 11 = (cR R).2.1 ∧ (ix rows x).At = (cR R).2.2 :=
  h.err hx (by unfold stepC; rw [if_pos hB, if_pos hn])
theorem InvR.begD (h : InvR rows e a R x out st) (hx : x < rows.length) (hB : (ix rows x).P.Name = sBEGIN) (hn : ¬ nameP (ix rows x).P = []) (hl : 6 ≤ st.length) : [] = (cR R).1 ∧ 12 = (cR R).2.1 ∧ (ix rows x).At = (cR R).2.2 :=
  h.err hx (by unfold stepC; rw [if_pos hB, if_neg hn, if_pos (by omega)])
theorem InvR.beg (h : InvR rows e a R x out st) (hx : x < rows.length) (hB : (ix rows x).P.Name = sBEGIN) (hn : ¬ nameP (ix rows x).P = []) (hl : st.length < 6) : InvR rows e a R (x + 1) out ((.mk (nameP (ix rows x).P) [] [], (ix rows x).At) :: st) := by
  have h0 := h.1.1; have h1 := h.1.2.2.1
  refine h.ok hx (by unfold stepC; rw [if_pos hB, if_neg hn, if_neg (by omega)]) (by omega) fun f hf => ?_
  rcases List.mem_cons.1 hf with rfl | hf
  · show ((([] : List Prp).length : Int) ≤ x + 1) ∧ ((([] : List Comp).length : Int) ≤ x + 1)
    simp only [List.length_nil]; omega
  · exact h.fr f hf
theorem InvR.none (h : InvR rows e a R x out []) (hx : x < rows.length) (hB : ¬ (ix rows x).P.Name = sBEGIN) : [] = (cR R).1 ∧ 11 = (cR R).2.1 ∧ (ix rows x).At = (cR R).2.2 :=
  h.err hx (by unfold stepC; rw [if_neg hB])
theorem InvR.endE (h : InvR rows e a R x out ((c, b) :: st)) (hx : x < rows.length) (hB : ¬ (ix rows x).P.Name = sBEGIN) (hE : (ix rows x).P.Name = sEND ∧ (nameP (ix rows x).P = [] ∨ nameP (ix rows x).P ≠ c.Name)) : [] = (cR R).1 ∧ 11 = (cR R).2.1 ∧ (ix rows x).At = (cR R).2.2 :=
  h.err hx (by unfold stepC; rw [if_neg hB]; simp only; rw [if_pos hE.1, if_pos hE.2])
theorem InvR.prop (h : InvR rows e a R x out ((c, b) :: st)) (hx : x < rows.length) (hB : ¬ (ix rows x).P.Name = sBEGIN) (hE : ¬ (ix rows x).P.Name = sEND) : InvR rows e a R (x + 1) out ((.mk c.Name (c.Props ++ [(ix rows x).P]) c.Comps, b) :: st) := by
  have h0 := h.1.1; have h1 := h.1.2.2.1; have h2 := h.1.2.2.2 _ (List.mem_cons_self ..)
  refine h.ok hx (by unfold stepC; rw [if_neg hB]; simp only; rw [if_neg hE]; rfl) (by omega) fun f hf => ?_
  rcases List.mem_cons.1 hf with rfl | hf
  · show (((c.Props ++ [_]).length : Int) ≤ x + 1) ∧ ((c.Comps.length : Int) ≤ x + 1)
    simp only [List.length_append, List.length_cons, List.length_nil] at h2 ⊢; omega
  · exact h.fr f (List.mem_cons_of_mem _ hf)
theorem InvR.pap1 (h : InvR rows e a R x out [(c, b)]) (hx : x < rows.length) (hB : ¬ (ix rows x).P.Name = sBEGIN) (hE : (ix rows x).P.Name = sEND) (hn : ¬ (nameP (ix rows x).P = [] ∨ nameP (ix rows x).P ≠ c.Name)) : InvR rows e a R (x + 1) (out ++ [c]) [] := by
  have h0 := h.1.1; have h1 := h.1.2.2.1
  exact h.ok hx (by unfold stepC; rw [if_neg hB]; simp only; rw [if_pos hE, if_neg hn]) (by simp only [List.length_append, List.length_cons, List.length_nil]; omega) fun f hf => (by cases hf)
theorem InvR.pap (h : InvR rows e a R x out ((c, b) :: (d, b') :: st)) (hx : x < rows.length) (hB : ¬ (ix rows x).P.Name = sBEGIN) (hE : (ix rows x).P.Name = sEND) (hn : ¬ (nameP (ix rows x).P = [] ∨ nameP (ix rows x).P ≠ c.Name)) : InvR rows e a R (x + 1) out ((.mk d.Name d.Props (d.Comps ++ [c]), b') :: st) := by
  have h0 := h.1.1; have h1 := h.1.2.2.1; have h2 := h.1.2.2.2 _ (List.mem_cons_of_mem _ (List.mem_cons_self ..))
  refine h.ok hx (by unfold stepC; rw [if_neg hB]; simp only; rw [if_pos hE, if_neg hn]; rfl) (by omega) fun f hf => ?_
  rcases List.mem_cons.1 hf with rfl | hf
  · show ((d.Props.length : Int) ≤ x + 1) ∧ (((d.Comps ++ [c]).length : Int) ≤ x + 1)
    simp only [List.length_append, List.length_cons, List.length_nil] at h2 ⊢; omega
  · exact h.fr f (List.mem_cons_of_mem _ (List.mem_cons_of_mem _ hf))
theorem InvR.pop1 (h : InvR rows e a R x out [(c, b)]) (hx : x < rows.length) (hB : ¬ (ix rows x).P.Name = sBEGIN) (hE : (ix rows x).P.Name = sEND) (hn : ¬ (nameP (ix rows x).P = [] ∨ nameP (ix rows x).P ≠ c.Name)) : InvR rows e a R (x + 1) ((out ++ [Comp.mk [] [] []]).set (out.length : Int).toNat c) [] := by
  rw [set_last]; exact h.pap1 hx hB hE hn
theorem InvR.pop (h : InvR rows e a R x out ((c, b) :: (d, b') :: st)) (hx : x < rows.length) (hB : ¬ (ix rows x).P.Name = sBEGIN) (hE : (ix rows x).P.Name = sEND) (hn : ¬ (nameP (ix rows x).P = [] ∨ nameP (ix rows x).P ≠ c.Name)) : InvR rows e a R (x + 1) out ((.mk d.Name d.Props ((d.Comps ++ [Comp.mk [] [] []]).set (d.Comps.length : Int).toNat c), b') :: st) := by
  rw [set_last]; exact h.pap hx hB hE hn
theorem InvR.finE (h : InvR rows e a R x out st) (hx : ¬ x < rows.length) (he : e ≠ 0) : [] = (cR R).1 ∧ e = (cR R).2.1 ∧ a = (cR R).2.2 := by
  have h0 := h.1
  have k := h.2
  rw [List.drop_eq_nil_of_le (by omega)] at k
  cases st with
  | nil => rw [goR] at k; unfold finR at k; rw [if_pos he] at k; rw [k]; exact ⟨rfl, rfl, rfl⟩
  | cons f st => obtain ⟨c, b⟩ := f; rw [goR] at k; unfold finR at k; rw [if_pos he] at k; rw [k]; exact ⟨rfl, rfl, rfl⟩
theorem InvR.fin0 (h : InvR rows e a R x out []) (hx : ¬ x < rows.length) (he : ¬ e ≠ 0) : out = (cR R).1 ∧ 0 = (cR R).2.1 ∧ 0 = (cR R).2.2 := by
  have h0 := h.1
  have k := h.2
  rw [List.drop_eq_nil_of_le (by omega), goR] at k
  unfold finR at k
  rw [if_neg he] at k
  rw [k]; exact ⟨rfl, rfl, rfl⟩
theorem InvR.fin (h : InvR rows e a R x out ((c, b) :: st)) (hx : ¬ x < rows.length) (he : ¬ e ≠ 0) : [] = (cR R).1 ∧ 11 = (cR R).2.1 ∧ b = (cR R).2.2 := by
  have h0 := h.1
  have k := h.2
  rw [List.drop_eq_nil_of_le (by omega), goR] at k
  unfold finR at k
  rw [if_neg he] at k
  rw [k]; exact ⟨rfl, rfl, rfl⟩
theorem InvR.less (h : InvR rows e a R x out st) (hx : x < rows.length) : ((rows.length : Int) - (x + 1)).toNat < ((rows.length : Int) - x).toNat := by
  have := h.1.1; omega
end
theorem rGo_short : ∀ (l : List Row), (∀ r ∈ l, r.Text.length ≤ 5000) → (rGo l).1.length ≤ l.length ∧ ∀ r ∈ (rGo l).1, smallP r.P
  | [], _ => ⟨Nat.le_refl _, fun r hr => by cases hr⟩
  | r :: l, h => by
    have ih := rGo_short l fun q hq => h q (List.mem_cons_of_mem _ hq)
    unfold rGo
    split
    · exact ⟨Nat.zero_le _, fun r hr => by cases hr⟩
    · rename_i he
      refine ⟨by simp only [List.length_cons]; omega, fun q hq => ?_⟩
      rcases List.mem_cons.1 hq with rfl | hq
      · show smallP (parseR r.Text).1
        by_cases h0 : (parseS r.Text).2 = .nil
        · rw [parse_ok h0]; exact parse_small (h r (List.mem_cons_self ..))
        · obtain ⟨-, n, -, -, e3⟩ := parse_err h0
          rw [e3]; exact small0
      · exact ih.2 q hq
theorem rows_short (s : Str) : (rowsR s).1.length ≤ 1000 ∧ ∀ r ∈ (rowsR s).1, smallP r.P := by
  unfold rowsR
  cases h : unfoldS s with
  | error e => exact ⟨Nat.zero_le _, fun r hr => by cases hr⟩
  | ok l =>
    obtain ⟨h1, h2⟩ := unfold_short h
    obtain ⟨h3, h4⟩ := rGo_short l h2
    exact ⟨Nat.le_trans h3 h1, h4⟩
inductive FewC (few : Prp → Bool) : Comp → Prop
  | mk {n : Str} {p : List Prp} {c : List Comp} : n.length ≤ 8000 → p.length ≤ 60 → (∀ x ∈ p, few x = true) → c.length ≤ 60 → (∀ x ∈ c, FewC few x) → FewC few (.mk n p c)
theorem FewC.out {few : Prp → Bool} {c : Comp} (h : FewC few c) : c.Name.length ≤ 8000 ∧ c.Props.length ≤ 60 ∧ (∀ x ∈ c.Props, few x = true) ∧ c.Comps.length ≤ 60 ∧ ∀ x ∈ c.Comps, FewC few x := by
  cases h with | mk h1 h2 h3 h4 h5 => exact ⟨h1, h2, h3, h4, h5⟩
theorem FewC.okC {few : Prp → Bool} (hf : ∀ p, few p = true → okP p) : ∀ {c : Comp}, FewC few c → OkC c := fun {c} h => by
  induction h with
  | mk h1 h2 h3 h4 _ ih => exact .mk (by omega) (fun x hx => hf x (h3 x hx)) (by omega) ih
end Go.Co
end
