/- A statement and its own function. -/
import Derived.Test.YtadgfmmmdhlljaaDoorZLV
set_option linter.unusedVariables false
set_option linter.unusedSimpArgs false
namespace Go.Proofs.YtadgfmmmdhlljaaDoor
open Go Go.Wk Go.Wl Go.Rx Go.Fo Go.Li 
def an8 : Nat → Ann := fun | 8 => ⟨84, fun | 12 => some ⟨[3, 5, 32], [.slot 8 (.int .i64), .slot 33 (.int .i64)]⟩ | 6 => some ⟨[3, 19, 20], [.slot 5 .bool, .slot 21 (.int .i64)]⟩ | _ => none, fun  | _ => none⟩ | _ => ⟨0, fun _ => none, fun _ => none⟩
def V8 (l : List Str) (Q : Bool → Prop) : Prop :=
l.length ≤ (9223372036854775807 : Nat) ∧
  (¬fewS l = true → Q (decide (true = true))) ∧
    (¬¬fewS l = true →
      l.length ≤ (100000 : Nat) ∧
        ∃ (I : Bool → Int → Prop),
          ∃ (m : Bool → Int → Nat),
            I true (0 : Int) ∧
              ∀ (x : Bool) (x_1 : Int),
                I x x_1 →
                  (x_1 < (↑l.length : Int) →
                      (0 : Int) ≤ x_1 ∧
                        x_1 < (↑l.length : Int) ∧
                          in64 (x_1 + (1 : Int)) ∧
                            I (decide (x = true ∧ Lib.validD (ix l x_1) = true)) (x_1 + (1 : Int)) ∧ m (decide (x = true ∧ Lib.validD (ix l x_1) = true)) (x_1 + (1 : Int)) < m x x_1) ∧
                    (¬x_1 < (↑l.length : Int) →
                      ∃ (I : Int → Int → Prop),
                        ∃ (m : Int → Int → Nat),
                          I (0 : Int) (0 : Int) ∧
                            ∀ (x_2 x_3 : Int),
                              I x_2 x_3 →
                                (x_3 < (↑(List.length (foldS dec l).fst) : Int) →
                                    (0 : Int) ≤ x_3 ∧
                                      x_3 < (↑(List.length (foldS dec l).fst) : Int) ∧
                                        (ix (foldS dec l).fst x_3 ≠ (10 : UInt8) → in64 (x_3 + (1 : Int)) ∧ I x_2 (x_3 + (1 : Int)) ∧ m x_2 (x_3 + (1 : Int)) < m x_2 x_3) ∧
                                          (¬ix (foldS dec l).fst x_3 ≠ (10 : UInt8) →
                                            (¬x_3 = (0 : Int) → in64 (x_3 - (1 : Int))) ∧
                                              (¬x_3 = (0 : Int) → (0 : Int) ≤ x_3 - (1 : Int)) ∧
                                                (¬x_3 = (0 : Int) → x_3 - (1 : Int) < (↑(List.length (foldS dec l).fst) : Int)) ∧
                                                  (¬(x_3 = (0 : Int) ∨ ix (foldS dec l).fst (x_3 - (1 : Int)) ≠ (13 : UInt8)) → in64 (x_3 - (1 : Int))) ∧
                                                    (¬(x_3 = (0 : Int) ∨ ix (foldS dec l).fst (x_3 - (1 : Int)) ≠ (13 : UInt8)) → in64 (x_3 - (1 : Int) - x_2)) ∧
                                                      (¬((x_3 = (0 : Int) ∨ ix (foldS dec l).fst (x_3 - (1 : Int)) ≠ (13 : UInt8)) ∨ (75 : Int) < x_3 - (1 : Int) - x_2) → in64 (x_3 - (1 : Int))) ∧
                                                        (¬(((x_3 = (0 : Int) ∨ ix (foldS dec l).fst (x_3 - (1 : Int)) ≠ (13 : UInt8)) ∨ (75 : Int) < x_3 - (1 : Int) - x_2) ∨ x_3 - (1 : Int) = x_2) ∧
                                                              x = true →
                                                            in64 (x_3 - (1 : Int))) ∧
                                                          (¬(((x_3 = (0 : Int) ∨ ix (foldS dec l).fst (x_3 - (1 : Int)) ≠ (13 : UInt8)) ∨ (75 : Int) < x_3 - (1 : Int) - x_2) ∨ x_3 - (1 : Int) = x_2) ∧
                                                                x = true →
                                                              (0 : Int) ≤ x_2) ∧
                                                            (¬(((x_3 = (0 : Int) ∨ ix (foldS dec l).fst (x_3 - (1 : Int)) ≠ (13 : UInt8)) ∨ (75 : Int) < x_3 - (1 : Int) - x_2) ∨
                                                                      x_3 - (1 : Int) = x_2) ∧
                                                                  x = true →
                                                                x_2 ≤ x_3 - (1 : Int)) ∧
                                                              (¬(((x_3 = (0 : Int) ∨ ix (foldS dec l).fst (x_3 - (1 : Int)) ≠ (13 : UInt8)) ∨ (75 : Int) < x_3 - (1 : Int) - x_2) ∨
                                                                        x_3 - (1 : Int) = x_2) ∧
                                                                    x = true →
                                                                  x_3 - (1 : Int) ≤ (↑(List.length (foldS dec l).fst) : Int)) ∧
                                                                ((((x_3 = (0 : Int) ∨ ix (foldS dec l).fst (x_3 - (1 : Int)) ≠ (13 : UInt8)) ∨ (75 : Int) < x_3 - (1 : Int) - x_2) ∨
                                                                        x_3 - (1 : Int) = x_2) ∨
                                                                      x = true ∧ ¬Lib.validD (List.drop x_2.toNat (List.take (x_3 - (1 : Int)).toNat (foldS dec l).fst)) = true →
                                                                    Q false) ∧
                                                                  (¬((((x_3 = (0 : Int) ∨ ix (foldS dec l).fst (x_3 - (1 : Int)) ≠ (13 : UInt8)) ∨ (75 : Int) < x_3 - (1 : Int) - x_2) ∨
                                                                          x_3 - (1 : Int) = x_2) ∨
                                                                        x = true ∧ ¬Lib.validD (List.drop x_2.toNat (List.take (x_3 - (1 : Int)).toNat (foldS dec l).fst)) = true) →
                                                                    in64 (x_3 + (1 : Int)) ∧
                                                                      in64 (x_3 + (1 : Int)) ∧ I (x_3 + (1 : Int)) (x_3 + (1 : Int)) ∧ m (x_3 + (1 : Int)) (x_3 + (1 : Int)) < m x_2 x_3))) ∧
                                  (¬x_3 < (↑(List.length (foldS dec l).fst) : Int) → Q (decide (x_2 = (↑(List.length (foldS dec l).fst) : Int) ∧ true = true)))))
set_option maxRecDepth 100000 in
theorem V8_ok {l : List Str} {Q : Bool → Prop} (h : V8 l Q) : vcFun (E := NV) (inlN an8 2) (an8 8) Tryd.f8 [.sl (N := U) 9 l] [] [] 0 (resP NV [.bool] Q) := Eq.mp (show V8 l Q = vcFun (E := NV) (inlN an8 2) (an8 8) Tryd.f8 [.sl (N := U) 9 l] [] [] 0 (resP NV [.bool] Q) by kernel_rfl) h
def lineOk (g : Bool) (x : Str) : Prop := x ≠ [] ∧ x.length ≤ 75 ∧ (∀ c ∈ x, c ≠ 10 ∧ c ≠ 13) ∧ (g = true → Lib.validD x = true)
theorem row_lines {g : Bool} {row : Str} (h : rMay row = 0) (hg : g = true → Lib.validD row = true) : ∀ x ∈ linesG dec [] row, lineOk g x := by
  obtain ⟨h1, h2, h3, h4, h5⟩ := rMay_ok h
  obtain ⟨a, ps, e, hf, hn⟩ := lines_pieces dec row.length [] row (Nat.le_refl _)
  have ha := hn h2 (by decide)
  intro x hx
  refine ⟨?_, lines_len row.length [] row (Nat.le_refl _) (by simp) x hx, ?_, fun hh => letters_valid (lines_valid row.length [] row (Nat.le_refl _) ⟨[], fun c hc => (by cases hc), rfl⟩ (hg hh) (by simp) x hx).1⟩
  · rw [e] at hx
    rcases List.mem_cons.1 hx with rfl | hx
    · simpa using ha
    · obtain ⟨q, _, rfl⟩ := List.mem_map.1 hx
      simp
  · intro c hc
    rw [e] at hx
    rcases List.mem_cons.1 hx with rfl | hx
    · exact h5 c (by rw [← hf]; exact List.mem_append_left _ (by simpa using hc))
    · obtain ⟨q, hq, rfl⟩ := List.mem_map.1 hx
      rcases List.mem_cons.1 hc with rfl | hc
      · exact ⟨by decide, by decide⟩
      · exact h5 c (by rw [← hf]; exact List.mem_append_right _ (List.mem_flatten.2 ⟨q, hq, hc⟩))
theorem cat_rows : ∀ l : List Str, cat (l.flatMap (linesG dec [])) = l.flatMap (rowGo dec 75)
  | [] => rfl
  | r :: l => by rw [List.flatMap_cons, List.flatMap_cons, cat_app, cat_row, cat_rows l]
theorem fold_lines {g : Bool} {l : List Str} (hg : g = true → ∀ r ∈ l, Lib.validD r = true) : ∃ L : List Str, (foldS dec l).1 = cat L ∧ ∀ x ∈ L, lineOk g x := by
  rcases foldS_cases l with ⟨hok, e⟩ | ⟨_, n, a, e, _⟩
  · refine ⟨l.flatMap (linesG dec []), by rw [e, cat_rows], fun x hx => ?_⟩
    obtain ⟨r, hr, hx⟩ := List.mem_flatMap.1 hx
    exact row_lines (hok r hr) (fun h => hg h r hr) x hx
  · exact ⟨[], by rw [e]; rfl, fun x hx => by cases hx⟩
theorem ix_off {s t : Str} {f k : Nat} (h : s.drop f = t) : ix s ((f : Int) + k) = ix t k := by
  subst h
  unfold ix
  rw [show ((f : Int) + k).toNat = f + k by omega]
  simp [List.getD_eq_getElem?_getD, List.getElem?_drop]
theorem ix_in {x r : Str} {k : Nat} (h : k < x.length) : ix (x ++ r) k ∈ x := by
  rw [ix_get (by rw [List.length_append]; omega)]
  simp only [Int.toNat_natCast]
  rw [List.getElem_append_left h]
  exact List.getElem_mem h
theorem ix_13 {x r : Str} : ix (x ++ [13, 10] ++ r) (x.length : Nat) = 13 := by simp [ix, List.getD_eq_getElem?_getD]
theorem ix_10 {x r : Str} : ix (x ++ [13, 10] ++ r) (x.length + 1 : Nat) = 10 := by
  have e : x ++ [13, 10] ++ r = (x ++ [13]) ++ 10 :: r := by simp
  rw [e]
  unfold ix
  rw [Int.toNat_natCast, List.getD_eq_getElem?_getD, List.getElem?_append_right (by simp)]
  simp
theorem p8 (l : List Str) (hs : l.length ≤ 9223372036854775807) : V8 l (fun y0 => y0 = true) := by
  unfold V8
  refine ⟨hs, fun _ => rfl, fun h => ?_⟩
  have h := Classical.not_not.1 h
  have hf := (few_of h).1
  have hlen := fold_len h
  refine ⟨by omega, fun b i => 0 ≤ i ∧ i ≤ l.length ∧ (b = true → ∀ r ∈ l.take i.toNat, Lib.validD r = true), fun _ i => ((l.length : Int) - i).toNat, ⟨by omega, by omega, fun _ r hr => by simp at hr⟩, ?_⟩
  rintro g i ⟨i0, i1, hg⟩
  refine ⟨fun hi => ⟨i0, hi, ⟨by omega, by omega⟩, ⟨by omega, by omega, fun hb r hr => ?_⟩, by dsimp only; omega⟩, fun hi => ?_⟩
  · obtain ⟨b1, b2⟩ := of_decide_eq_true hb
    rw [take_next i0 hi] at hr
    rcases List.mem_append.1 hr with hr | hr
    · exact hg b1 r hr
    · rw [List.mem_singleton.1 hr]; exact b2
  have e5 : l.take i.toNat = l := List.take_of_length_le (by omega)
  rw [e5] at hg
  obtain ⟨L, hL, hok⟩ := fold_lines hg
  generalize (foldS dec l).1 = s at hL hlen ⊢
  refine ⟨fun fr i => ∃ (f k : Nat) (M : List Str), fr = f ∧ i = (f : Int) + k ∧ f ≤ s.length ∧ s.drop f = cat M ∧ (∀ x ∈ M, lineOk g x) ∧ (match M with | [] => k = 0 | x :: _ => k ≤ x.length + 1), fun _ i => ((s.length : Int) - i).toNat, ⟨0, 0, L, rfl, rfl, by omega, hL, hok, by cases L with | nil => rfl | cons x r => exact Nat.zero_le _⟩, ?_⟩
  rintro fr i ⟨f, k, M, rfl, rfl, hfs, hd, hM, hk⟩
  have hdl := congrArg List.length hd
  rw [List.length_drop] at hdl
  cases M with
  | nil =>
    have hk0 : k = 0 := hk
    have h0 : s.length - f = 0 := hdl
    exact ⟨fun hi => absurd hi (by omega), fun _ => decide_eq_true ⟨by omega, rfl⟩⟩
  | cons x r =>
    have hk1 : k ≤ x.length + 1 := hk
    obtain ⟨x0, x75, xc, xv⟩ := hM x (by simp)
    have xp : 0 < x.length := List.length_pos_iff.2 x0
    rw [cat_cons] at hd hdl
    simp only [List.length_append, List.length_cons, List.length_nil] at hdl
    have hix := ix_off (k := k) hd
    refine ⟨fun hi => ⟨by omega, hi, fun hn => ?_, fun hn => ?_⟩, fun hi => absurd (show ((f : Int) + k) < s.length by omega) hi⟩
    · refine ⟨⟨by omega, by omega⟩, ⟨f, k + 1, x :: r, rfl, by omega, hfs, by rw [hd, cat_cons], hM, ?_⟩, by dsimp only; omega⟩
      show k + 1 ≤ x.length + 1
      apply Classical.byContradiction
      intro hc
      have : k = x.length + 1 := by omega
      rw [hix, this, ix_10] at hn
      exact hn rfl
    · have hn := Classical.not_not.1 hn
      rw [hix] at hn
      have hkx : k = x.length + 1 := by
        apply Classical.byContradiction
        intro hc
        by_cases hl : k < x.length
        · rw [List.append_assoc] at hn
          have := xc _ (ix_in (r := [13, 10] ++ cat r) hl)
          exact this.1 hn
        · have : k = x.length := by omega
          rw [this, ix_13] at hn
          exact absurd hn (by decide)
      subst hkx
      have h13 : ix s ((f : Int) + ((x.length + 1 : Nat) : Int) - 1) = 13 := by
        rw [show (f : Int) + ((x.length + 1 : Nat) : Int) - 1 = (f : Int) + (x.length : Nat) by omega, ix_off hd, ix_13]
      have hpc : List.drop (Int.toNat f) (List.take ((f : Int) + ((x.length + 1 : Nat) : Int) - 1).toNat s) = x := by
        rw [Int.toNat_natCast, show ((f : Int) + ((x.length + 1 : Nat) : Int) - 1).toNat = f + x.length by omega, List.drop_take, hd, show f + x.length - f = x.length by omega, List.append_assoc, List.take_left']
        rfl
      rw [h13, hpc]
      refine ⟨fun _ => ⟨by omega, by omega⟩, fun _ => by omega, fun _ => by omega, fun _ => ⟨by omega, by omega⟩, fun _ => ⟨by omega, by omega⟩, fun _ => ⟨by omega, by omega⟩, fun _ => ⟨by omega, by omega⟩, fun _ => by omega, fun _ => by omega, fun _ => by omega, fun hb => ?_, fun _ => ⟨⟨by omega, by omega⟩, ⟨by omega, by omega⟩, ⟨f + x.length + 2, 0, r, by omega, by omega, by omega, ?_, fun y hy => hM y (by simp [hy]), ?_⟩, by dsimp only; omega⟩⟩
      · rcases hb with (((hb | hb) | hb) | hb) | ⟨hb, hb2⟩
        · omega
        · exact absurd rfl hb
        · omega
        · omega
        · exact absurd (xv hb) hb2
      · rw [show f + x.length + 2 = f + (x.length + 2) by omega, ← List.drop_drop, hd]
        rw [show x.length + 2 = (x ++ [13, 10]).length by simp, List.drop_left']
        rfl
      · cases r with
        | nil => rfl
        | cons y r => exact Nat.zero_le _
def c8 (a : List (SV U)) : Option (Q1 U) := match a with | [.sl 9 l] => some ⟨[List.length (α := Str) l ≤ 9223372036854775807], [], blB true⟩ | _ => none
set_option maxRecDepth 100000 in
theorem c8_ok (args : List (SV U)) (q : Q1 U) (h : c8 args = some q) (ho : allP q.ob) : LendOK NV 8 args ⟨q.ob, q.hy, q.v, []⟩ := by
  unfold c8 at h
  split at h
  · rename_i l
    cases h
    exact lend1 NV_ok Tryd.func8 (k := .bool) (x := true) trivial (V8_ok (p8 l ho.1)) 0
  · cases h
noncomputable def N8 : Env := NV.addL 8 c8
theorem N8_ok : EnvOK N8 := NV_ok.addL Tryd.call8 c8_ok
end Go.Proofs.YtadgfmmmdhlljaaDoor
