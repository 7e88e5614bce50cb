/- A statement and its own function. -/
import Derived.Test.YtadgfmmmdhlljaaDoorH9
set_option linter.unusedVariables false
set_option linter.unusedSimpArgs false
namespace Go.Proofs.YtadgfmmmdhlljaaDoor
open Go Go.Wk Go.Wl Go.Rx Go.Fo Go.Li 
def an12 : Nat → Ann := fun | 12 => ⟨145, fun | 16 => some ⟨[3, 103], [.slot 104 (.int .i64), .slot 12 (.acc 5)]⟩ | 12 => some ⟨[0, 3], [.slot 11 (.int .i64)]⟩ | _ => none, fun  | _ => none⟩ | _ => ⟨0, fun _ => none, fun _ => none⟩
def V12 (s : Str) (Q : Bool → Prop) : Prop :=
((5000 : Int) < (↑(List.length s) : Int) → Q (decide (true = true))) ∧
  (¬(5000 : Int) < (↑(List.length s) : Int) →
    List.length s ≤ (100000000 : Nat) ∧
      ((parseS s).snd.nr ≠ (0 : Int) → Q (decide (((parseS s).fst.Name = [] ∧ (↑(parseS s).fst.Params.length : Int) = (0 : Int)) ∧ true = true))) ∧
        (¬(parseS s).snd.nr ≠ (0 : Int) →
          smallP (Prp.mk (parseS s).fst.Group (parseS s).fst.Name (parseS s).fst.Params (parseS s).fst.Value) ∧
            List.length (printS (Prp.mk (parseS s).fst.Group (parseS s).fst.Name (parseS s).fst.Params (parseS s).fst.Value)).fst ≤ (100000000 : Nat) ∧
              smallP
                  (Prp.mk (parseS (printS (Prp.mk (parseS s).fst.Group (parseS s).fst.Name (parseS s).fst.Params (parseS s).fst.Value)).fst).fst.Group
                    (parseS (printS (Prp.mk (parseS s).fst.Group (parseS s).fst.Name (parseS s).fst.Params (parseS s).fst.Value)).fst).fst.Name
                    (parseS (printS (Prp.mk (parseS s).fst.Group (parseS s).fst.Name (parseS s).fst.Params (parseS s).fst.Value)).fst).fst.Params
                    (parseS (printS (Prp.mk (parseS s).fst.Group (parseS s).fst.Name (parseS s).fst.Params (parseS s).fst.Value)).fst).fst.Value) ∧
                in64
                    ((printS (Prp.mk (parseS s).fst.Group (parseS s).fst.Name (parseS s).fst.Params (parseS s).fst.Value)).snd.nr +
                      (parseS (printS (Prp.mk (parseS s).fst.Group (parseS s).fst.Name (parseS s).fst.Params (parseS s).fst.Value)).fst).snd.nr) ∧
                  in64
                      ((printS (Prp.mk (parseS s).fst.Group (parseS s).fst.Name (parseS s).fst.Params (parseS s).fst.Value)).snd.nr +
                          (parseS (printS (Prp.mk (parseS s).fst.Group (parseS s).fst.Name (parseS s).fst.Params (parseS s).fst.Value)).fst).snd.nr +
                        (printS
                              (Prp.mk (parseS (printS (Prp.mk (parseS s).fst.Group (parseS s).fst.Name (parseS s).fst.Params (parseS s).fst.Value)).fst).fst.Group
                                (parseS (printS (Prp.mk (parseS s).fst.Group (parseS s).fst.Name (parseS s).fst.Params (parseS s).fst.Value)).fst).fst.Name
                                (parseS (printS (Prp.mk (parseS s).fst.Group (parseS s).fst.Name (parseS s).fst.Params (parseS s).fst.Value)).fst).fst.Params
                                (parseS (printS (Prp.mk (parseS s).fst.Group (parseS s).fst.Name (parseS s).fst.Params (parseS s).fst.Value)).fst).fst.Value)).snd.nr) ∧
                    (¬(printS (Prp.mk (parseS s).fst.Group (parseS s).fst.Name (parseS s).fst.Params (parseS s).fst.Value)).snd.nr +
                                (parseS (printS (Prp.mk (parseS s).fst.Group (parseS s).fst.Name (parseS s).fst.Params (parseS s).fst.Value)).fst).snd.nr +
                              (printS
                                    (Prp.mk (parseS (printS (Prp.mk (parseS s).fst.Group (parseS s).fst.Name (parseS s).fst.Params (parseS s).fst.Value)).fst).fst.Group
                                      (parseS (printS (Prp.mk (parseS s).fst.Group (parseS s).fst.Name (parseS s).fst.Params (parseS s).fst.Value)).fst).fst.Name
                                      (parseS (printS (Prp.mk (parseS s).fst.Group (parseS s).fst.Name (parseS s).fst.Params (parseS s).fst.Value)).fst).fst.Params
                                      (parseS (printS (Prp.mk (parseS s).fst.Group (parseS s).fst.Name (parseS s).fst.Params (parseS s).fst.Value)).fst).fst.Value)).snd.nr ≠
                            (0 : Int) →
                        (parseS s).fst.Params.length ≤ (9223372036854775807 : Nat)) ∧
                      (¬(printS (Prp.mk (parseS s).fst.Group (parseS s).fst.Name (parseS s).fst.Params (parseS s).fst.Value)).snd.nr +
                                  (parseS (printS (Prp.mk (parseS s).fst.Group (parseS s).fst.Name (parseS s).fst.Params (parseS s).fst.Value)).fst).snd.nr +
                                (printS
                                      (Prp.mk (parseS (printS (Prp.mk (parseS s).fst.Group (parseS s).fst.Name (parseS s).fst.Params (parseS s).fst.Value)).fst).fst.Group
                                        (parseS (printS (Prp.mk (parseS s).fst.Group (parseS s).fst.Name (parseS s).fst.Params (parseS s).fst.Value)).fst).fst.Name
                                        (parseS (printS (Prp.mk (parseS s).fst.Group (parseS s).fst.Name (parseS s).fst.Params (parseS s).fst.Value)).fst).fst.Params
                                        (parseS (printS (Prp.mk (parseS s).fst.Group (parseS s).fst.Name (parseS s).fst.Params (parseS s).fst.Value)).fst).fst.Value)).snd.nr ≠
                              (0 : Int) →
                          ∀ (x : Param), x ∈ (parseS s).fst.Params → x.Values.length ≤ (9223372036854775807 : Nat)) ∧
                        (¬(((printS (Prp.mk (parseS s).fst.Group (parseS s).fst.Name (parseS s).fst.Params (parseS s).fst.Value)).snd.nr +
                                        (parseS (printS (Prp.mk (parseS s).fst.Group (parseS s).fst.Name (parseS s).fst.Params (parseS s).fst.Value)).fst).snd.nr +
                                      (printS
                                            (Prp.mk (parseS (printS (Prp.mk (parseS s).fst.Group (parseS s).fst.Name (parseS s).fst.Params (parseS s).fst.Value)).fst).fst.Group
                                              (parseS (printS (Prp.mk (parseS s).fst.Group (parseS s).fst.Name (parseS s).fst.Params (parseS s).fst.Value)).fst).fst.Name
                                              (parseS (printS (Prp.mk (parseS s).fst.Group (parseS s).fst.Name (parseS s).fst.Params (parseS s).fst.Value)).fst).fst.Params
                                              (parseS (printS (Prp.mk (parseS s).fst.Group (parseS s).fst.Name (parseS s).fst.Params (parseS s).fst.Value)).fst).fst.Value)).snd.nr ≠
                                    (0 : Int) ∨
                                  ¬decide
                                        (Prp.mk (parseS s).fst.Group (parseS s).fst.Name (parseS s).fst.Params (parseS s).fst.Value =
                                          Prp.mk (parseS (printS (Prp.mk (parseS s).fst.Group (parseS s).fst.Name (parseS s).fst.Params (parseS s).fst.Value)).fst).fst.Group
                                            (parseS (printS (Prp.mk (parseS s).fst.Group (parseS s).fst.Name (parseS s).fst.Params (parseS s).fst.Value)).fst).fst.Name
                                            (parseS (printS (Prp.mk (parseS s).fst.Group (parseS s).fst.Name (parseS s).fst.Params (parseS s).fst.Value)).fst).fst.Params
                                            (parseS (printS (Prp.mk (parseS s).fst.Group (parseS s).fst.Name (parseS s).fst.Params (parseS s).fst.Value)).fst).fst.Value) =
                                      true) ∨
                                (printS (Prp.mk (parseS s).fst.Group (parseS s).fst.Name (parseS s).fst.Params (parseS s).fst.Value)).fst ≠
                                  (printS
                                      (Prp.mk (parseS (printS (Prp.mk (parseS s).fst.Group (parseS s).fst.Name (parseS s).fst.Params (parseS s).fst.Value)).fst).fst.Group
                                        (parseS (printS (Prp.mk (parseS s).fst.Group (parseS s).fst.Name (parseS s).fst.Params (parseS s).fst.Value)).fst).fst.Name
                                        (parseS (printS (Prp.mk (parseS s).fst.Group (parseS s).fst.Name (parseS s).fst.Params (parseS s).fst.Value)).fst).fst.Params
                                        (parseS (printS (Prp.mk (parseS s).fst.Group (parseS s).fst.Name (parseS s).fst.Params (parseS s).fst.Value)).fst).fst.Value)).fst) →
                            smallP (Prp.mk (parseS s).fst.Group (parseS s).fst.Name (parseS s).fst.Params (parseS s).fst.Value)) ∧
                          ((((printS (Prp.mk (parseS s).fst.Group (parseS s).fst.Name (parseS s).fst.Params (parseS s).fst.Value)).snd.nr +
                                          (parseS (printS (Prp.mk (parseS s).fst.Group (parseS s).fst.Name (parseS s).fst.Params (parseS s).fst.Value)).fst).snd.nr +
                                        (printS
                                              (Prp.mk (parseS (printS (Prp.mk (parseS s).fst.Group (parseS s).fst.Name (parseS s).fst.Params (parseS s).fst.Value)).fst).fst.Group
                                                (parseS (printS (Prp.mk (parseS s).fst.Group (parseS s).fst.Name (parseS s).fst.Params (parseS s).fst.Value)).fst).fst.Name
                                                (parseS (printS (Prp.mk (parseS s).fst.Group (parseS s).fst.Name (parseS s).fst.Params (parseS s).fst.Value)).fst).fst.Params
                                                (parseS (printS (Prp.mk (parseS s).fst.Group (parseS s).fst.Name (parseS s).fst.Params (parseS s).fst.Value)).fst).fst.Value)).snd.nr ≠
                                      (0 : Int) ∨
                                    ¬decide
                                          (Prp.mk (parseS s).fst.Group (parseS s).fst.Name (parseS s).fst.Params (parseS s).fst.Value =
                                            Prp.mk (parseS (printS (Prp.mk (parseS s).fst.Group (parseS s).fst.Name (parseS s).fst.Params (parseS s).fst.Value)).fst).fst.Group
                                              (parseS (printS (Prp.mk (parseS s).fst.Group (parseS s).fst.Name (parseS s).fst.Params (parseS s).fst.Value)).fst).fst.Name
                                              (parseS (printS (Prp.mk (parseS s).fst.Group (parseS s).fst.Name (parseS s).fst.Params (parseS s).fst.Value)).fst).fst.Params
                                              (parseS (printS (Prp.mk (parseS s).fst.Group (parseS s).fst.Name (parseS s).fst.Params (parseS s).fst.Value)).fst).fst.Value) =
                                        true) ∨
                                  (printS (Prp.mk (parseS s).fst.Group (parseS s).fst.Name (parseS s).fst.Params (parseS s).fst.Value)).fst ≠
                                    (printS
                                        (Prp.mk (parseS (printS (Prp.mk (parseS s).fst.Group (parseS s).fst.Name (parseS s).fst.Params (parseS s).fst.Value)).fst).fst.Group
                                          (parseS (printS (Prp.mk (parseS s).fst.Group (parseS s).fst.Name (parseS s).fst.Params (parseS s).fst.Value)).fst).fst.Name
                                          (parseS (printS (Prp.mk (parseS s).fst.Group (parseS s).fst.Name (parseS s).fst.Params (parseS s).fst.Value)).fst).fst.Params
                                          (parseS (printS (Prp.mk (parseS s).fst.Group (parseS s).fst.Name (parseS s).fst.Params (parseS s).fst.Value)).fst).fst.Value)).fst) ∨
                                ¬rightB (Prp.mk (parseS s).fst.Group (parseS s).fst.Name (parseS s).fst.Params (parseS s).fst.Value) = true →
                              Q false) ∧
                            (¬((((printS (Prp.mk (parseS s).fst.Group (parseS s).fst.Name (parseS s).fst.Params (parseS s).fst.Value)).snd.nr +
                                            (parseS (printS (Prp.mk (parseS s).fst.Group (parseS s).fst.Name (parseS s).fst.Params (parseS s).fst.Value)).fst).snd.nr +
                                          (printS
                                                (Prp.mk (parseS (printS (Prp.mk (parseS s).fst.Group (parseS s).fst.Name (parseS s).fst.Params (parseS s).fst.Value)).fst).fst.Group
                                                  (parseS (printS (Prp.mk (parseS s).fst.Group (parseS s).fst.Name (parseS s).fst.Params (parseS s).fst.Value)).fst).fst.Name
                                                  (parseS (printS (Prp.mk (parseS s).fst.Group (parseS s).fst.Name (parseS s).fst.Params (parseS s).fst.Value)).fst).fst.Params
                                                  (parseS (printS (Prp.mk (parseS s).fst.Group (parseS s).fst.Name (parseS s).fst.Params (parseS s).fst.Value)).fst).fst.Value)).snd.nr ≠
                                        (0 : Int) ∨
                                      ¬decide
                                            (Prp.mk (parseS s).fst.Group (parseS s).fst.Name (parseS s).fst.Params (parseS s).fst.Value =
                                              Prp.mk (parseS (printS (Prp.mk (parseS s).fst.Group (parseS s).fst.Name (parseS s).fst.Params (parseS s).fst.Value)).fst).fst.Group
                                                (parseS (printS (Prp.mk (parseS s).fst.Group (parseS s).fst.Name (parseS s).fst.Params (parseS s).fst.Value)).fst).fst.Name
                                                (parseS (printS (Prp.mk (parseS s).fst.Group (parseS s).fst.Name (parseS s).fst.Params (parseS s).fst.Value)).fst).fst.Params
                                                (parseS (printS (Prp.mk (parseS s).fst.Group (parseS s).fst.Name (parseS s).fst.Params (parseS s).fst.Value)).fst).fst.Value) =
                                          true) ∨
                                    (printS (Prp.mk (parseS s).fst.Group (parseS s).fst.Name (parseS s).fst.Params (parseS s).fst.Value)).fst ≠
                                      (printS
                                          (Prp.mk (parseS (printS (Prp.mk (parseS s).fst.Group (parseS s).fst.Name (parseS s).fst.Params (parseS s).fst.Value)).fst).fst.Group
                                            (parseS (printS (Prp.mk (parseS s).fst.Group (parseS s).fst.Name (parseS s).fst.Params (parseS s).fst.Value)).fst).fst.Name
                                            (parseS (printS (Prp.mk (parseS s).fst.Group (parseS s).fst.Name (parseS s).fst.Params (parseS s).fst.Value)).fst).fst.Params
                                            (parseS (printS (Prp.mk (parseS s).fst.Group (parseS s).fst.Name (parseS s).fst.Params (parseS s).fst.Value)).fst).fst.Value)).fst) ∨
                                  ¬rightB (Prp.mk (parseS s).fst.Group (parseS s).fst.Name (parseS s).fst.Params (parseS s).fst.Value) = true) →
                              ∃ (I : Int → Prop),
                                ∃ (m : Int → Nat),
                                  I (0 : Int) ∧
                                    ∀ (x : Int),
                                      I x →
                                        (x < (↑(List.length s) : Int) → (0 : Int) ≤ x) ∧
                                          (x < (↑(List.length s) : Int) → x < (↑(List.length s) : Int)) ∧
                                            (x < (↑(List.length s) : Int) ∧ ix s x ≠ (59 : UInt8) → (0 : Int) ≤ x) ∧
                                              (x < (↑(List.length s) : Int) ∧ ix s x ≠ (59 : UInt8) → x < (↑(List.length s) : Int)) ∧
                                                ((x < (↑(List.length s) : Int) ∧ ix s x ≠ (59 : UInt8)) ∧ ix s x ≠ (58 : UInt8) → in64 (x + (1 : Int)) ∧ I (x + (1 : Int)) ∧ m (x + (1 : Int)) < m x) ∧
                                                  (¬((x < (↑(List.length s) : Int) ∧ ix s x ≠ (59 : UInt8)) ∧ ix s x ≠ (58 : UInt8)) →
                                                    (0 : Int) ≤ x ∧
                                                      x ≤ (↑(List.length s) : Int) ∧
                                                        ∃ (I : Int → List UInt8 → Prop),
                                                          ∃ (m : Int → List UInt8 → Nat),
                                                            I (0 : Int) s ∧
                                                              ∀ (x_1 : Int) (x_2 : List UInt8),
                                                                I x_1 x_2 →
                                                                  (x_1 < (some x).getD (↑(List.length s) : Int) - none.getD (0 : Int) →
                                                                      (0 : Int) ≤ x_1 ∧
                                                                        x_1 < (↑x_2.length : Int) ∧
                                                                          ((65 : UInt8) ≤ ix x_2 x_1 → (0 : Int) ≤ x_1) ∧
                                                                            ((65 : UInt8) ≤ ix x_2 x_1 → x_1 < (↑x_2.length : Int)) ∧
                                                                              ((65 : UInt8) ≤ ix x_2 x_1 ∧ ix x_2 x_1 ≤ (90 : UInt8) →
                                                                                  (0 : Int) ≤ x_1 ∧
                                                                                    x_1 < (↑x_2.length : Int) ∧
                                                                                      (0 : Int) ≤ x_1 ∧
                                                                                        x_1 < (↑x_2.length : Int) ∧
                                                                                          in64 (x_1 + (1 : Int)) ∧
                                                                                            I (x_1 + (1 : Int)) (x_2.set x_1.toNat (ix x_2 x_1 + (32 : UInt8))) ∧
                                                                                              m (x_1 + (1 : Int)) (x_2.set x_1.toNat (ix x_2 x_1 + (32 : UInt8))) < m x_1 x_2) ∧
                                                                                (¬((65 : UInt8) ≤ ix x_2 x_1 ∧ ix x_2 x_1 ≤ (90 : UInt8)) →
                                                                                  in64 (x_1 + (1 : Int)) ∧ I (x_1 + (1 : Int)) x_2 ∧ m (x_1 + (1 : Int)) x_2 < m x_1 x_2)) ∧
                                                                    (¬x_1 < (some x).getD (↑(List.length s) : Int) - none.getD (0 : Int) →
                                                                      x_2.length ≤ (100000000 : Nat) ∧
                                                                        ((parseS x_2).snd.nr = (0 : Int) → (parseS s).fst.Params.length ≤ (9223372036854775807 : Nat)) ∧
                                                                          ((parseS x_2).snd.nr = (0 : Int) → ∀ (x : Param), x ∈ (parseS s).fst.Params → x.Values.length ≤ (9223372036854775807 : Nat)) ∧
                                                                            Q
                                                                              (decide
                                                                                (((parseS x_2).snd.nr = (0 : Int) ∧
                                                                                    decide
                                                                                        (Prp.mk (parseS s).fst.Group (parseS s).fst.Name (parseS s).fst.Params (parseS s).fst.Value =
                                                                                          Prp.mk (parseS x_2).fst.Group (parseS x_2).fst.Name (parseS x_2).fst.Params (parseS x_2).fst.Value) =
                                                                                      true) ∧
                                                                                  true = true)))))))
set_option maxRecDepth 100000 in
theorem V12_ok {s : Str} {Q : Bool → Prop} (h : V12 s Q) : vcFun (E := N37) (inlMN N37 M103 an12 2) (an12 12) Tryd.f12 [.str s] [] [] 0 (resP N37 [.bool] Q) := Eq.mp (show V12 s Q = vcFun (E := N37) (inlMN N37 M103 an12 2) (an12 12) Tryd.f12 [.str s] [] [] 0 (resP N37 [.bool] Q) by kernel_rfl) h
theorem p12 (s : Str)  : V12 s (fun y0 => y0 = true) := by
  unfold V12
  refine ⟨fun _ => rfl, fun h => ?_⟩
  have hs : s.length ≤ 5000 := by omega
  have sm := parse_small hs
  by_cases he : (parseS s).2 = .nil
  · obtain ⟨hr, hp⟩ := parse_right he
    have hm := (rightB_iff.1 hr).2
    have tl := (tell_len sm hm).2
    have e1 : printS (Prp.mk (parseS s).1.Group (parseS s).1.Name (parseS s).1.Params (parseS s).1.Value) = (Li.tell (parseS s).1, .nil) := print_yes hr
    rw [e1]
    dsimp only
    rw [parse_tell hr]
    dsimp only
    rw [e1]
    dsimp only
    refine ⟨by omega, fun hn => absurd (by rw [he]; rfl) hn, fun _ => ⟨sm, by omega, sm, by decide, by decide, fun _ => by have := sm.params; omega, fun _ x hx => by have := (sm.param x hx).vals; omega, fun _ => sm, fun hA => ?_, fun _ => ?_⟩⟩
    · rcases hA with ((hA | hA) | hA) | hA
      · exact absurd rfl hA
      · exact absurd (decide_eq_true rfl) hA
      · exact absurd rfl hA
      · exact absurd hr hA
    refine ⟨fun i => 0 ≤ i ∧ i ≤ s.length ∧ ∀ j : Int, 0 ≤ j → j < i → scB (ix s j) = true, fun i => ((s.length : Int) - i).toNat, ⟨by omega, by omega, fun j _ _ => by omega⟩, ?_⟩
    rintro i ⟨i0, i1, hi⟩
    have sc : ∀ c : UInt8, scB c = true ↔ c ≠ 59 ∧ c ≠ 58 := fun c => by unfold scB; rw [Bool.and_eq_true, bne_iff_ne, bne_iff_ne]
    refine ⟨fun _ => i0, fun h => h, fun _ => i0, fun h => h.1, fun ⟨⟨a, b⟩, c⟩ => ⟨⟨by omega, by omega⟩, ⟨by omega, by omega, fun j j0 j1 => ?_⟩, by first | omega | (dsimp only; omega)⟩, fun hn => ⟨i0, i1, ?_⟩⟩
    · by_cases e : j = i
      · subst e; exact (sc _).2 ⟨b, c⟩
      · exact hi j j0 (by omega)
    obtain ⟨w1, w2⟩ := while_take (p := scB) i0 i1 hi (fun ⟨a, b⟩ => hn ⟨⟨a, ((sc _).1 b).1⟩, ((sc _).1 b).2⟩)
    simp only [Option.getD_some, Option.getD_none, Int.sub_zero]
    refine ⟨fun k b => 0 ≤ k ∧ k ≤ i ∧ b = lowT s k, fun k _ => (i - k).toNat, ⟨by omega, by omega, rfl⟩, ?_⟩
    rintro k b ⟨k0, k1, rfl⟩
    have ll := lowT_len s k
    refine ⟨fun hk => ?_, fun hk => ?_⟩
    · obtain ⟨g1, g2⟩ := low_step (s := s) k0 (by omega)
      have ha := lowT_at (s := s) k0 (by omega)
      rw [ha]
      exact ⟨k0, by omega, fun _ => k0, fun _ => by omega, fun hc => ⟨k0, by omega, k0, by omega, ⟨by omega, by omega⟩, ⟨by omega, by omega, (g1 hc).symm⟩, by first | omega | (dsimp only; omega)⟩, fun hc => ⟨⟨by omega, by omega⟩, ⟨by omega, by omega, (g2 hc).symm⟩, by first | omega | (dsimp only; omega)⟩⟩
    · have ek : k = i := by omega
      subst ek
      have el : lowT s k = (s.takeWhile scB).map lowB ++ s.dropWhile scB := by unfold lowT; rw [w1, w2]
      have lr := low_read hp
      rw [← el] at lr
      have ep : parseS (lowT s k) = parseS s := congrArg finS (lr.trans hp.symm)
      rw [ep]
      exact ⟨by omega, fun _ => by have := sm.params; omega, fun _ x hx => by have := (sm.param x hx).vals; omega, decide_eq_true ⟨⟨by rw [he]; rfl, decide_eq_true rfl⟩, by first | rfl | trivial⟩⟩
  · obtain ⟨e0, n, e1, e2, e3⟩ := parse_err he
    refine ⟨by omega, fun _ => ?_, fun hn => absurd ?_ hn⟩
    · rw [e0]; exact decide_eq_true ⟨⟨rfl, rfl⟩, rfl⟩
    · rw [e1]; rcases e2 with rfl | rfl <;> decide
def c12 (a : List (SV U)) : Option (Q1 U) := match a with | [.str s] => some ⟨[], [], blB true⟩ | _ => none
set_option maxRecDepth 100000 in
theorem c12_ok (args : List (SV U)) (q : Q1 U) (h : c12 args = some q) (ho : allP q.ob) : LendOK N37 12 args ⟨q.ob, q.hy, q.v, []⟩ := by
  unfold c12 at h
  split at h
  · rename_i s
    cases h
    exact lend1 N37_ok (inlMN_ok N37_ok M103_ok an12 2) Tryd.func12 (k := .bool) (x := true) trivial (V12_ok (p12 s )) 0
  · cases h
end Go.Proofs.YtadgfmmmdhlljaaDoor
