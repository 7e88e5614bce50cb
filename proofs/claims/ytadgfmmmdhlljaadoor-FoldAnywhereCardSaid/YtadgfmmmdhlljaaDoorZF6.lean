/- A statement and its own function. -/
import Derived.Test.YtadgfmmmdhlljaaDoorK9
import Derived.Test.YtadgfmmmdhlljaaDoorZLQ
import Derived.Test.YtadgfmmmdhlljaaDoorK11
set_option linter.unusedVariables false
set_option linter.unusedSimpArgs false
namespace Go.Proofs.YtadgfmmmdhlljaaDoor
open Go Go.Wk Go.Wl Go.Rx Go.Fo Go.Li 
def an6 : Nat → Ann := fun | 6 => ⟨144, fun | 31 => some ⟨[0, 12, 128], [.slot 129 (.int .i64)]⟩ | 11 => some ⟨[0, 1, 48, 49], [.slot 7 .str, .slot 8 .str, .slot 50 (.int .i64)]⟩ | 16 => some ⟨[0, 1, 10, 48, 49, 50], [.slot 7 .str, .slot 8 .str, .slot 11 (.int .i64)]⟩ | 3 => some ⟨[0, 1], [.slot 5 (.int .i64), .slot 6 (.int .i64)]⟩ | _ => none, fun  | _ => none⟩ | _ => ⟨0, fun _ => none, fun _ => none⟩
def V6 (l : List Str) (k : Int) (Q : Bool → Prop) : Prop :=
∃ (I : Int → Int → Prop),
  ∃ (m : Int → Int → Nat),
    I (0 : Int) (0 : Int) ∧
      ∀ (x x_1 : Int),
        I x x_1 →
          (x_1 < (↑l.length : Int) ∧ x_1 ≤ (40 : Int) →
              (0 : Int) ≤ x_1 ∧
                x_1 < (↑l.length : Int) ∧
                  in64 (x + bif false then max (↑(ix l x_1).length : Int) (100000 : Int) else min (↑(ix l x_1).length : Int) (100000 : Int)) ∧
                    in64 (x_1 + (1 : Int)) ∧
                      I (x + bif false then max (↑(ix l x_1).length : Int) (100000 : Int) else min (↑(ix l x_1).length : Int) (100000 : Int)) (x_1 + (1 : Int)) ∧
                        m (x + bif false then max (↑(ix l x_1).length : Int) (100000 : Int) else min (↑(ix l x_1).length : Int) (100000 : Int)) (x_1 + (1 : Int)) < m x x_1) ∧
            (¬(x_1 < (↑l.length : Int) ∧ x_1 ≤ (40 : Int)) →
              ((40 : Int) < (↑l.length : Int) ∨ (3000 : Int) < x → Q (decide (true = true))) ∧
                (¬((40 : Int) < (↑l.length : Int) ∨ (3000 : Int) < x) →
                  (99 : Int) ≠ (0 : Int) ∧
                    in64 (k.tmod (99 : Int) + (99 : Int)) ∧
                      (99 : Int) ≠ (0 : Int) ∧
                        in64 ((1 : Int) + (k.tmod (99 : Int) + (99 : Int)).tmod (99 : Int)) ∧
                          ∃ (I : List UInt8 → List UInt8 → Int → Prop),
                            ∃ (m : List UInt8 → List UInt8 → Int → Nat),
                              I [] [] (0 : Int) ∧
                                ∀ (x x_2 : List UInt8) (x_3 : Int),
                                  I x x_2 x_3 →
                                    (x_3 < (↑l.length : Int) →
                                        (0 : Int) ≤ x_3 ∧
                                          x_3 < (↑l.length : Int) ∧
                                            (rMay (ix l x_3) ≠ (0 : Int) → Q (decide (true = true))) ∧
                                              (¬rMay (ix l x_3) ≠ (0 : Int) →
                                                ∃ (I_1 : List UInt8 → List UInt8 → Int → Prop),
                                                  ∃ (m_1 : List UInt8 → List UInt8 → Int → Nat),
                                                    I_1 x x_2 (0 : Int) ∧
                                                      ∀ (x_4 x_5 : List UInt8) (x_6 : Int),
                                                        I_1 x_4 x_5 x_6 →
                                                          (x_6 < (↑(ix l x_3).length : Int) →
                                                              ((0 : Int) < x_6 →
                                                                  x_4.length + [(10 : UInt8), (9 : UInt8)].length ≤ (9223372036854775807 : Nat) ∧
                                                                    x_5.length + [(13 : UInt8), (10 : UInt8), (32 : UInt8)].length ≤ (9223372036854775807 : Nat) ∧
                                                                      in64 (x_6 + ((1 : Int) + (k.tmod (99 : Int) + (99 : Int)).tmod (99 : Int))) ∧
                                                                        (0 : Int) ≤ x_6 ∧
                                                                          (x_6 ≤
                                                                              bif false then max (↑(ix l x_3).length : Int) (x_6 + ((1 : Int) + (k.tmod (99 : Int) + (99 : Int)).tmod (99 : Int)))
                                                                              else min (↑(ix l x_3).length : Int) (x_6 + ((1 : Int) + (k.tmod (99 : Int) + (99 : Int)).tmod (99 : Int)))) ∧
                                                                            (bif false then max (↑(ix l x_3).length : Int) (x_6 + ((1 : Int) + (k.tmod (99 : Int) + (99 : Int)).tmod (99 : Int)))
                                                                                else min (↑(ix l x_3).length : Int) (x_6 + ((1 : Int) + (k.tmod (99 : Int) + (99 : Int)).tmod (99 : Int)))) ≤
                                                                                (↑(ix l x_3).length : Int) ∧
                                                                              List.length (x_4 ++ [(10 : UInt8), (9 : UInt8)]) +
                                                                                    (List.drop x_6.toNat
                                                                                        (List.take
                                                                                          (bif false then
                                                                                              max (↑(ix l x_3).length : Int) (x_6 + ((1 : Int) + (k.tmod (99 : Int) + (99 : Int)).tmod (99 : Int)))
                                                                                            else
                                                                                              min (↑(ix l x_3).length : Int)
                                                                                                (x_6 + ((1 : Int) + (k.tmod (99 : Int) + (99 : Int)).tmod (99 : Int)))).toNat
                                                                                          (ix l x_3))).length ≤
                                                                                  (9223372036854775807 : Nat) ∧
                                                                                in64 (x_6 + ((1 : Int) + (k.tmod (99 : Int) + (99 : Int)).tmod (99 : Int))) ∧
                                                                                  (0 : Int) ≤ x_6 ∧
                                                                                    (x_6 ≤
                                                                                        bif false then
                                                                                          max (↑(ix l x_3).length : Int) (x_6 + ((1 : Int) + (k.tmod (99 : Int) + (99 : Int)).tmod (99 : Int)))
                                                                                        else min (↑(ix l x_3).length : Int) (x_6 + ((1 : Int) + (k.tmod (99 : Int) + (99 : Int)).tmod (99 : Int)))) ∧
                                                                                      (bif false then
                                                                                            max (↑(ix l x_3).length : Int) (x_6 + ((1 : Int) + (k.tmod (99 : Int) + (99 : Int)).tmod (99 : Int)))
                                                                                          else min (↑(ix l x_3).length : Int) (x_6 + ((1 : Int) + (k.tmod (99 : Int) + (99 : Int)).tmod (99 : Int)))) ≤
                                                                                          (↑(ix l x_3).length : Int) ∧
                                                                                        List.length (x_5 ++ [(13 : UInt8), (10 : UInt8), (32 : UInt8)]) +
                                                                                              (List.drop x_6.toNat
                                                                                                  (List.take
                                                                                                    (bif false then
                                                                                                        max (↑(ix l x_3).length : Int)
                                                                                                          (x_6 + ((1 : Int) + (k.tmod (99 : Int) + (99 : Int)).tmod (99 : Int)))
                                                                                                      else
                                                                                                        min (↑(ix l x_3).length : Int)
                                                                                                          (x_6 + ((1 : Int) + (k.tmod (99 : Int) + (99 : Int)).tmod (99 : Int)))).toNat
                                                                                                    (ix l x_3))).length ≤
                                                                                            (9223372036854775807 : Nat) ∧
                                                                                          in64 (x_6 + ((1 : Int) + (k.tmod (99 : Int) + (99 : Int)).tmod (99 : Int))) ∧
                                                                                            I_1
                                                                                                (x_4 ++ [(10 : UInt8), (9 : UInt8)] ++
                                                                                                  List.drop x_6.toNat
                                                                                                    (List.take
                                                                                                      (bif false then
                                                                                                          max (↑(ix l x_3).length : Int)
                                                                                                            (x_6 + ((1 : Int) + (k.tmod (99 : Int) + (99 : Int)).tmod (99 : Int)))
                                                                                                        else
                                                                                                          min (↑(ix l x_3).length : Int)
                                                                                                            (x_6 + ((1 : Int) + (k.tmod (99 : Int) + (99 : Int)).tmod (99 : Int)))).toNat
                                                                                                      (ix l x_3)))
                                                                                                (x_5 ++ [(13 : UInt8), (10 : UInt8), (32 : UInt8)] ++
                                                                                                  List.drop x_6.toNat
                                                                                                    (List.take
                                                                                                      (bif false then
                                                                                                          max (↑(ix l x_3).length : Int)
                                                                                                            (x_6 + ((1 : Int) + (k.tmod (99 : Int) + (99 : Int)).tmod (99 : Int)))
                                                                                                        else
                                                                                                          min (↑(ix l x_3).length : Int)
                                                                                                            (x_6 + ((1 : Int) + (k.tmod (99 : Int) + (99 : Int)).tmod (99 : Int)))).toNat
                                                                                                      (ix l x_3)))
                                                                                                (x_6 + ((1 : Int) + (k.tmod (99 : Int) + (99 : Int)).tmod (99 : Int))) ∧
                                                                                              m_1
                                                                                                  (x_4 ++ [(10 : UInt8), (9 : UInt8)] ++
                                                                                                    List.drop x_6.toNat
                                                                                                      (List.take
                                                                                                        (bif false then
                                                                                                            max (↑(ix l x_3).length : Int)
                                                                                                              (x_6 + ((1 : Int) + (k.tmod (99 : Int) + (99 : Int)).tmod (99 : Int)))
                                                                                                          else
                                                                                                            min (↑(ix l x_3).length : Int)
                                                                                                              (x_6 + ((1 : Int) + (k.tmod (99 : Int) + (99 : Int)).tmod (99 : Int)))).toNat
                                                                                                        (ix l x_3)))
                                                                                                  (x_5 ++ [(13 : UInt8), (10 : UInt8), (32 : UInt8)] ++
                                                                                                    List.drop x_6.toNat
                                                                                                      (List.take
                                                                                                        (bif false then
                                                                                                            max (↑(ix l x_3).length : Int)
                                                                                                              (x_6 + ((1 : Int) + (k.tmod (99 : Int) + (99 : Int)).tmod (99 : Int)))
                                                                                                          else
                                                                                                            min (↑(ix l x_3).length : Int)
                                                                                                              (x_6 + ((1 : Int) + (k.tmod (99 : Int) + (99 : Int)).tmod (99 : Int)))).toNat
                                                                                                        (ix l x_3)))
                                                                                                  (x_6 + ((1 : Int) + (k.tmod (99 : Int) + (99 : Int)).tmod (99 : Int))) <
                                                                                                m_1 x_4 x_5 x_6) ∧
                                                                (¬(0 : Int) < x_6 →
                                                                  in64 (x_6 + ((1 : Int) + (k.tmod (99 : Int) + (99 : Int)).tmod (99 : Int))) ∧
                                                                    (0 : Int) ≤ x_6 ∧
                                                                      (x_6 ≤
                                                                          bif false then max (↑(ix l x_3).length : Int) (x_6 + ((1 : Int) + (k.tmod (99 : Int) + (99 : Int)).tmod (99 : Int)))
                                                                          else min (↑(ix l x_3).length : Int) (x_6 + ((1 : Int) + (k.tmod (99 : Int) + (99 : Int)).tmod (99 : Int)))) ∧
                                                                        (bif false then max (↑(ix l x_3).length : Int) (x_6 + ((1 : Int) + (k.tmod (99 : Int) + (99 : Int)).tmod (99 : Int)))
                                                                            else min (↑(ix l x_3).length : Int) (x_6 + ((1 : Int) + (k.tmod (99 : Int) + (99 : Int)).tmod (99 : Int)))) ≤
                                                                            (↑(ix l x_3).length : Int) ∧
                                                                          x_4.length +
                                                                                (List.drop x_6.toNat
                                                                                    (List.take
                                                                                      (bif false then
                                                                                          max (↑(ix l x_3).length : Int) (x_6 + ((1 : Int) + (k.tmod (99 : Int) + (99 : Int)).tmod (99 : Int)))
                                                                                        else
                                                                                          min (↑(ix l x_3).length : Int) (x_6 + ((1 : Int) + (k.tmod (99 : Int) + (99 : Int)).tmod (99 : Int)))).toNat
                                                                                      (ix l x_3))).length ≤
                                                                              (9223372036854775807 : Nat) ∧
                                                                            in64 (x_6 + ((1 : Int) + (k.tmod (99 : Int) + (99 : Int)).tmod (99 : Int))) ∧
                                                                              (0 : Int) ≤ x_6 ∧
                                                                                (x_6 ≤
                                                                                    bif false then max (↑(ix l x_3).length : Int) (x_6 + ((1 : Int) + (k.tmod (99 : Int) + (99 : Int)).tmod (99 : Int)))
                                                                                    else min (↑(ix l x_3).length : Int) (x_6 + ((1 : Int) + (k.tmod (99 : Int) + (99 : Int)).tmod (99 : Int)))) ∧
                                                                                  (bif false then max (↑(ix l x_3).length : Int) (x_6 + ((1 : Int) + (k.tmod (99 : Int) + (99 : Int)).tmod (99 : Int)))
                                                                                      else min (↑(ix l x_3).length : Int) (x_6 + ((1 : Int) + (k.tmod (99 : Int) + (99 : Int)).tmod (99 : Int)))) ≤
                                                                                      (↑(ix l x_3).length : Int) ∧
                                                                                    x_5.length +
                                                                                          (List.drop x_6.toNat
                                                                                              (List.take
                                                                                                (bif false then
                                                                                                    max (↑(ix l x_3).length : Int)
                                                                                                      (x_6 + ((1 : Int) + (k.tmod (99 : Int) + (99 : Int)).tmod (99 : Int)))
                                                                                                  else
                                                                                                    min (↑(ix l x_3).length : Int)
                                                                                                      (x_6 + ((1 : Int) + (k.tmod (99 : Int) + (99 : Int)).tmod (99 : Int)))).toNat
                                                                                                (ix l x_3))).length ≤
                                                                                        (9223372036854775807 : Nat) ∧
                                                                                      in64 (x_6 + ((1 : Int) + (k.tmod (99 : Int) + (99 : Int)).tmod (99 : Int))) ∧
                                                                                        I_1
                                                                                            (x_4 ++
                                                                                              List.drop x_6.toNat
                                                                                                (List.take
                                                                                                  (bif false then
                                                                                                      max (↑(ix l x_3).length : Int)
                                                                                                        (x_6 + ((1 : Int) + (k.tmod (99 : Int) + (99 : Int)).tmod (99 : Int)))
                                                                                                    else
                                                                                                      min (↑(ix l x_3).length : Int)
                                                                                                        (x_6 + ((1 : Int) + (k.tmod (99 : Int) + (99 : Int)).tmod (99 : Int)))).toNat
                                                                                                  (ix l x_3)))
                                                                                            (x_5 ++
                                                                                              List.drop x_6.toNat
                                                                                                (List.take
                                                                                                  (bif false then
                                                                                                      max (↑(ix l x_3).length : Int)
                                                                                                        (x_6 + ((1 : Int) + (k.tmod (99 : Int) + (99 : Int)).tmod (99 : Int)))
                                                                                                    else
                                                                                                      min (↑(ix l x_3).length : Int)
                                                                                                        (x_6 + ((1 : Int) + (k.tmod (99 : Int) + (99 : Int)).tmod (99 : Int)))).toNat
                                                                                                  (ix l x_3)))
                                                                                            (x_6 + ((1 : Int) + (k.tmod (99 : Int) + (99 : Int)).tmod (99 : Int))) ∧
                                                                                          m_1
                                                                                              (x_4 ++
                                                                                                List.drop x_6.toNat
                                                                                                  (List.take
                                                                                                    (bif false then
                                                                                                        max (↑(ix l x_3).length : Int)
                                                                                                          (x_6 + ((1 : Int) + (k.tmod (99 : Int) + (99 : Int)).tmod (99 : Int)))
                                                                                                      else
                                                                                                        min (↑(ix l x_3).length : Int)
                                                                                                          (x_6 + ((1 : Int) + (k.tmod (99 : Int) + (99 : Int)).tmod (99 : Int)))).toNat
                                                                                                    (ix l x_3)))
                                                                                              (x_5 ++
                                                                                                List.drop x_6.toNat
                                                                                                  (List.take
                                                                                                    (bif false then
                                                                                                        max (↑(ix l x_3).length : Int)
                                                                                                          (x_6 + ((1 : Int) + (k.tmod (99 : Int) + (99 : Int)).tmod (99 : Int)))
                                                                                                      else
                                                                                                        min (↑(ix l x_3).length : Int)
                                                                                                          (x_6 + ((1 : Int) + (k.tmod (99 : Int) + (99 : Int)).tmod (99 : Int)))).toNat
                                                                                                    (ix l x_3)))
                                                                                              (x_6 + ((1 : Int) + (k.tmod (99 : Int) + (99 : Int)).tmod (99 : Int))) <
                                                                                            m_1 x_4 x_5 x_6)) ∧
                                                            (¬x_6 < (↑(ix l x_3).length : Int) →
                                                              x_4.length + [(10 : UInt8)].length ≤ (9223372036854775807 : Nat) ∧
                                                                x_5.length + [(13 : UInt8), (10 : UInt8)].length ≤ (9223372036854775807 : Nat) ∧
                                                                  in64 (x_3 + (1 : Int)) ∧
                                                                    I (x_4 ++ [(10 : UInt8)]) (x_5 ++ [(13 : UInt8), (10 : UInt8)]) (x_3 + (1 : Int)) ∧
                                                                      m (x_4 ++ [(10 : UInt8)]) (x_5 ++ [(13 : UInt8), (10 : UInt8)]) (x_3 + (1 : Int)) < m x x_2 x_3))) ∧
                                      (¬x_3 < (↑l.length : Int) →
                                        x.length ≤ (100000 : Nat) ∧
                                          x_2.length ≤ (100000 : Nat) ∧
                                            in64 ((uE (unfoldS x)).nr + (uE (unfoldS x_2)).nr) ∧
                                              (¬(uE (unfoldS x)).nr + (uE (unfoldS x_2)).nr ≠ (0 : Int) → (uR (unfoldS x)).fst.length ≤ (100000000 : Nat)) ∧
                                                (((uE (unfoldS x)).nr + (uE (unfoldS x_2)).nr ≠ (0 : Int) ∨ ¬sameRows (uR (unfoldS x)).fst (uR (unfoldS x_2)).fst = true) ∨
                                                      (↑(uR (unfoldS x)).fst.length : Int) ≠ (↑l.length : Int) →
                                                    Q false) ∧
                                                  (¬(((uE (unfoldS x)).nr + (uE (unfoldS x_2)).nr ≠ (0 : Int) ∨ ¬sameRows (uR (unfoldS x)).fst (uR (unfoldS x_2)).fst = true) ∨
                                                        (↑(uR (unfoldS x)).fst.length : Int) ≠ (↑l.length : Int)) →
                                                    ∃ (I : Int → Prop),
                                                      ∃ (m : Int → Nat),
                                                        I (0 : Int) ∧
                                                          ∀ (x_4 : Int),
                                                            I x_4 →
                                                              (x_4 < (↑(uR (unfoldS x)).fst.length : Int) →
                                                                  (0 : Int) ≤ x_4 ∧
                                                                    x_4 < (↑(uR (unfoldS x)).fst.length : Int) ∧
                                                                      (in64 (ix (uR (unfoldS x)).fst x_4).At →
                                                                        (0 : Int) ≤ x_4 ∧
                                                                          x_4 < (↑l.length : Int) ∧
                                                                            ((ix (uR (unfoldS x)).fst x_4).Text ≠ ix l x_4 → Q false) ∧
                                                                              (¬(ix (uR (unfoldS x)).fst x_4).Text ≠ ix l x_4 →
                                                                                in64 (x_4 + (1 : Int)) ∧ I (x_4 + (1 : Int)) ∧ m (x_4 + (1 : Int)) < m x_4))) ∧
                                                                (¬x_4 < (↑(uR (unfoldS x)).fst.length : Int) → Q (decide (true = true)))))))
set_option maxRecDepth 100000 in
theorem V6_ok {l : List Str} {k : Int} {Q : Bool → Prop} (h : V6 l k Q) : vcFun (E := N17) (inlN an6 2) (an6 6) Tryd.f6 [.sl (N := U) 9 l, .int .i64 k] [] [] 0 (resP N17 [.bool] Q) := Eq.mp (show V6 l k Q = vcFun (E := N17) (inlN an6 2) (an6 6) Tryd.f6 [.sl (N := U) 9 l, .int .i64 k] [] [] 0 (resP N17 [.bool] Q) by kernel_rfl) h
theorem fsum_pos : ∀ l : List Str, 0 ≤ fsum l
  | [] => by simp [fsum]
  | s :: r => by have := fsum_pos r; simp only [fsum]; omega
theorem fsum_take : ∀ (n : Nat) (l : List Str), fsum (l.take n) ≤ fsum l
  | 0, l => by have := fsum_pos l; simpa [fsum] using this
  | n + 1, [] => by simp
  | n + 1, s :: r => by have := fsum_take n r; simp only [List.take_succ_cons, fsum]; omega
theorem flat_lay_len {e : Str} {c : UInt8} {v : Nat} (hv : 0 < v) (he : e.length ≤ 2) : ∀ {l : List Str}, (∀ s ∈ l, s.length ≤ 12000) → ((l.flatMap fun r => lay e c (pcs v r)).length : Int) ≤ 4 * fsum l
  | [], _ => by simp [fsum]
  | s :: r, h => by
    have h1 := lay_pcs_len (c := c) hv he s
    have h2 := flat_lay_len hv he (c := c) (l := r) fun x hx => h x (by simp [hx])
    have h3 := h s (by simp)
    simp only [List.flatMap_cons, List.length_append, fsum]
    omega
theorem piece_eq {r : Str} {j v : Nat} (h : j < r.length) : List.drop j (List.take (min (r.length : Int) ((j : Int) + v)).toNat r) = (r.drop j).take v := by
  rw [List.drop_take]
  by_cases hc : j + v ≤ r.length
  · rw [show (min (r.length : Int) ((j : Int) + v)).toNat - j = v by omega]
  · rw [show (min (r.length : Int) ((j : Int) + v)).toNat - j = r.length - j by omega, List.take_of_length_le (by rw [List.length_drop]; omega), List.take_of_length_le (by rw [List.length_drop]; omega)]
theorem p6 (l : List Str) (k : Int) (hs : l.length ≤ 9223372036854775807) : V6 l k (fun y0 => y0 = true) := by
  unfold V6
  simp only [cond_false]
  refine ⟨fun n i => 0 ≤ i ∧ i ≤ l.length ∧ i ≤ 41 ∧ 0 ≤ n ∧ n ≤ i * 100000 ∧ n = fsum (l.take i.toNat), fun _ i => ((l.length : Int) - i).toNat, ⟨by omega, by omega, by omega, by omega, by omega, rfl⟩, ?_⟩
  rintro n i ⟨h0, h1, h2, h3, h4, h5⟩
  refine ⟨fun ⟨hi, h40⟩ => ?_, fun hi => ⟨fun _ => rfl, fun hc => ?_⟩⟩
  · have hn := fsum_app (l.take i.toNat) (ix l i)
    rw [← take_next h0 hi, ← h5] at hn
    exact ⟨h0, hi, ⟨by omega, by omega⟩, ⟨by omega, by omega⟩, ⟨by omega, by omega, by omega, by omega, by omega, hn.symm⟩, by dsimp only; omega⟩
  have hl40 : (l.length : Int) ≤ 40 := by omega
  have e5 : l.take i.toNat = l := List.take_of_length_le (by omega)
  rw [e5] at h5
  have hsum : fsum l ≤ 3000 := by omega
  have hlen := (few_of (l := l) (decide_eq_true ⟨hl40, by omega⟩)).2
  clear h0 h1 h2 h3 h4 h5 e5 hi hc
  have m1 := Int.tmod_lt_of_pos k (show (0 : Int) < 99 by omega)
  have m2 := Int.lt_tmod_of_pos k (show (0 : Int) < 99 by omega)
  generalize k.tmod 99 = m at m1 m2 ⊢
  have q1 := Int.tmod_lt_of_pos (m + 99) (show (0 : Int) < 99 by omega)
  have q2 := Int.tmod_nonneg 99 (show (0 : Int) ≤ m + 99 by omega)
  generalize (m + 99).tmod 99 = q at q1 q2 ⊢
  obtain ⟨v, hv⟩ : ∃ v : Nat, (1 + q : Int) = v := ⟨(1 + q).toNat, by omega⟩
  rw [hv]
  have hv0 : 0 < v := by omega
  have hv9 : v ≤ 99 := by omega
  refine ⟨by omega, ⟨by omega, by omega⟩, by omega, ⟨by omega, by omega⟩, fun a b i => 0 ≤ i ∧ i ≤ l.length ∧ (∀ r ∈ l.take i.toNat, rMay r = 0) ∧ a = (l.take i.toNat).flatMap (fun r => lay [10] 9 (pcs v r)) ∧ b = (l.take i.toNat).flatMap (fun r => lay [13, 10] 32 (pcs v r)), fun _ _ i => ((l.length : Int) - i).toNat, ⟨by omega, by omega, fun r hr => by simp at hr, rfl, rfl⟩, ?_⟩
  rintro a b i ⟨i0, i1, ig, ha, hb⟩
  have ml : ∀ s ∈ l.take i.toNat, s.length ≤ 12000 := fun s hs => hlen s (List.mem_of_mem_take hs)
  have st := fsum_take i.toNat l
  have la : (a.length : Int) ≤ 12000 := by rw [ha]; have := flat_lay_len hv0 (e := [10]) (c := 9) (by simp) ml; omega
  have lb : (b.length : Int) ≤ 12000 := by rw [hb]; have := flat_lay_len hv0 (e := [13, 10]) (c := 32) (by simp) ml; omega
  refine ⟨fun hi => ⟨i0, hi, fun _ => rfl, fun hm => ?_⟩, fun hi => ?_⟩
  · have hm := Classical.not_not.1 hm
    have hrl := hlen _ (mem_of_ix i0 hi)
    have hne := (rMay_ok hm).2.1
    have tk := take_next i0 hi
    have ig' : ∀ r ∈ l.take (i + 1).toNat, rMay r = 0 := fun r hr => by
      rw [tk] at hr
      rcases List.mem_append.1 hr with hr | hr
      · exact ig r hr
      · rw [List.mem_singleton.1 hr]; exact hm
    have fa : (l.take (i + 1).toNat).flatMap (fun r => lay [10] 9 (pcs v r)) = a ++ lay [10] 9 (pcs v (ix l i)) := by rw [tk, List.flatMap_append, ← ha]; simp
    have fb : (l.take (i + 1).toNat).flatMap (fun r => lay [13, 10] 32 (pcs v r)) = b ++ lay [13, 10] 32 (pcs v (ix l i)) := by rw [tk, List.flatMap_append, ← hb]; simp
    clear ha hb ig ml st
    generalize ix l i = r at hm hrl hne fa fb tk ⊢
    have wa := lay_pcs_len (e := [10]) (c := 9) hv0 (by simp) r
    have wb := lay_pcs_len (e := [13, 10]) (c := 32) hv0 (by simp) r
    have hpos := len_pos hne
    refine ⟨fun x y j => 0 ≤ j ∧ j ≤ 20000 ∧ x ++ restP [10] 9 v r j.toNat = a ++ lay [10] 9 (pcs v r) ∧ y ++ restP [13, 10] 32 v r j.toNat = b ++ lay [13, 10] 32 (pcs v r), fun _ _ j => ((r.length : Int) - j).toNat, ⟨by omega, by omega, rfl, rfl⟩, ?_⟩
    rintro x y j ⟨j0, j1, jx, jy⟩
    obtain ⟨j, rfl⟩ : ∃ n : Nat, j = n := ⟨j.toNat, by omega⟩
    have lx := congrArg List.length jx
    have ly := congrArg List.length jy
    simp only [List.length_append] at lx ly
    simp only [Int.toNat_natCast] at jx jy lx ly ⊢
    refine ⟨fun hj => ?_, fun hj => ?_⟩
    · have hj' : j < r.length := by omega
      rw [piece_eq hj']
      have lp : ((r.drop j).take v).length ≤ 99 := by rw [List.length_take]; omega
      have lt : (((r.length : Int) - ((j : Int) + v)).toNat) < ((r.length : Int) - j).toNat := by omega
      have tn : ((j : Int) + v).toNat = j + v := by omega
      refine ⟨fun hp => ?_, fun hp => ?_⟩
      · have hp' : 0 < j := by omega
        rw [rest_step hv0 hp' hj'] at jx jy
        simp only [List.length_append, List.length_cons, List.length_nil]
        refine ⟨by omega, by omega, ⟨by omega, by omega⟩, by omega, by omega, by omega, by omega, ⟨by omega, by omega⟩, by omega, by omega, by omega, by omega, ⟨by omega, by omega⟩, ⟨by omega, by omega, ?_, ?_⟩, lt⟩
        · rw [tn, ← jx]; simp
        · rw [tn, ← jy]; simp
      · obtain rfl : j = 0 := by omega
        rw [rest_zero hv0 hne] at jx jy
        refine ⟨⟨by omega, by omega⟩, by omega, by omega, by omega, by omega, ⟨by omega, by omega⟩, by omega, by omega, by omega, by omega, ⟨by omega, by omega⟩, ⟨by omega, by omega, ?_, ?_⟩, lt⟩
        · rw [tn, ← jx]; simp
        · rw [tn, ← jy]; simp
    · rw [rest_end (by omega) (by omega)] at jx jy
      simp only [List.length_cons, List.length_nil]
      exact ⟨by omega, by omega, ⟨by omega, by omega⟩, ⟨by omega, by omega, ig', jx.trans fa.symm, jy.trans fb.symm⟩, by omega⟩
  · have e5 : l.take i.toNat = l := List.take_of_length_le (by omega)
    rw [e5] at ha hb ig
    have ua := flat_pcs (e := [10]) (c := 9) (.inl rfl) (.inr rfl) hv0 ig (by omega)
    have ub := flat_pcs (e := [13, 10]) (c := 32) (.inr rfl) (.inl rfl) hv0 ig (by omega)
    rw [← ha] at ua
    rw [← hb] at ub
    rw [ua, ub]
    have ht := pcs_text hv0 l
    generalize rowsAt 1 (l.map (pcs v)) = out at ht ⊢
    have hl := map_len ht
    have hl' : (out.length : Int) = l.length := by omega
    refine ⟨by omega, by omega, ⟨by show (-9223372036854775808 : Int) ≤ 0 + 0; omega, by show (0 : Int) + 0 ≤ _; omega⟩, fun _ => by show out.length ≤ _; omega, fun hb => ?_, fun _ => ⟨fun x => 0 ≤ x ∧ x ≤ out.length, fun x => (out.length - x).toNat, ⟨by omega, by omega⟩, ?_⟩⟩
    · rcases hb with (hb | hb) | hb
      · exact absurd rfl hb
      · exact absurd (decide_eq_true rfl) hb
      · exact absurd hl' hb
    · rintro x ⟨x0, x1⟩
      refine ⟨fun hx => ⟨x0, hx, fun _ => ⟨x0, ?_, fun hb => absurd (ix_map ht x0 hx) hb, fun _ => ⟨⟨by omega, by omega⟩, ⟨by omega, ?_⟩, ?_⟩⟩⟩, fun _ => rfl⟩
      · have hx' : x < (out.length : Int) := hx
        omega
      · have hx' : x < (out.length : Int) := hx
        omega
      · have hx' : x < (out.length : Int) := hx
        dsimp only; omega
def c6 (a : List (SV U)) : Option (Q1 U) := match a with | [.sl 9 l, .int .i64 k] => some ⟨[List.length (α := Str) l ≤ 9223372036854775807], [], blB true⟩ | _ => none
set_option maxRecDepth 100000 in
theorem c6_ok (args : List (SV U)) (q : Q1 U) (h : c6 args = some q) (ho : allP q.ob) : LendOK N17 6 args ⟨q.ob, q.hy, q.v, []⟩ := by
  unfold c6 at h
  split at h
  · rename_i l k
    cases h
    exact lend1 N17_ok Tryd.func6 (k := .bool) (x := true) trivial (V6_ok (p6 l k ho.1)) 0
  · cases h
noncomputable def N6 : Env := N17.addL 6 c6
theorem N6_ok : EnvOK N6 := N17_ok.addL Tryd.call6 c6_ok
end Go.Proofs.YtadgfmmmdhlljaaDoor
