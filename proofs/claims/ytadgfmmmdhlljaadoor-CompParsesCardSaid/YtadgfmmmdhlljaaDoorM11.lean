/- 8 texts, one behind the other. -/
import Derived.Test.YtadgfmmmdhlljaaDoorM10
import Derived.Test.YtadgfmmmdhlljaaDoorM4
import Derived.Test.YtadgfmmmdhlljaaDoorM1
set_option linter.unusedVariables false
set_option linter.unusedSimpArgs false
section
namespace Go.Proofs.YtadgfmmmdhlljaaDoor
open Go Go.Wk Go.Wl Go.Rx Go.Fo Go.Li Go.Co 
def an40 : Nat → Ann := fun | 40 => ⟨182, fun | 7 => some ⟨[5, 6, 7], [.slot 10 (.int .i64), .slot 9 (.acc 3), .rows 8 1 68 [.str, .acc 45, .acc 68], .alt, .slot 10 (.int .i64), .slot 9 (.acc 3), .rows 8 2 68 [.str, .acc 45, .acc 68], .alt, .slot 10 (.int .i64), .slot 9 (.acc 3), .rows 8 3 68 [.str, .acc 45, .acc 68], .alt, .slot 10 (.int .i64), .slot 9 (.acc 3), .rows 8 4 68 [.str, .acc 45, .acc 68], .alt, .slot 10 (.int .i64), .slot 9 (.acc 3), .rows 8 5 68 [.str, .acc 45, .acc 68], .alt, .slot 10 (.int .i64), .slot 9 (.acc 3), .rows 8 6 68 [.str, .acc 45, .acc 68], .alt, .slot 10 (.int .i64), .slot 9 (.acc 3), .rows 8 7 68 [.str, .acc 45, .acc 68]]⟩ | _ => none, fun _ => none⟩ | _ => ⟨0, fun _ => none, fun _ => none⟩
def V40 (s : Str) (Q : List Comp → Int → Int → Prop) : Prop :=
List.length s ≤ (100000 : Nat) ∧ ((rowsR s).snd.fst ≠ (0 : Int) ∧ (↑(rowsR s).fst.length : Int) = (0 : Int) → Q [] (rowsR s).snd.fst (rowsR s).snd.snd) ∧ (¬((rowsR s).snd.fst ≠ (0 : Int) ∧ (↑(rowsR s).fst.length : Int) = (0 : Int)) → ∃ (I : Int → List Int → List UInt8 → List Prp → List Comp → Prop), ∃ (m : Int → List Int → List UInt8 → List Prp → List Comp → Nat), ∃ (I_1 : Int → List Int → List UInt8 → List Prp → List Comp → List UInt8 → List Prp → List Comp → Prop), ∃ (m_1 : Int → List Int → List UInt8 → List Prp → List Comp → List UInt8 → List Prp → List Comp → Nat), ∃ (I_2 : Int → List Int → List UInt8 → List Prp → List Comp → List UInt8 → List Prp → List Comp → List UInt8 → List Prp → List Comp → Prop), ∃ (m_2 : Int → List Int → List UInt8 → List Prp → List Comp → List UInt8 → List Prp → List Comp → List UInt8 → List Prp → List Comp → Nat), ∃ (I_3 : Int → List Int → List UInt8 → List Prp → List Comp → List UInt8 → List Prp → List Comp → List UInt8 → List Prp → List Comp → List UInt8 → List Prp → List Comp → Prop), ∃ (m_3 : Int → List Int → List UInt8 → List Prp → List Comp → List UInt8 → List Prp → List Comp → List UInt8 → List Prp → List Comp → List UInt8 → List Prp → List Comp → Nat), ∃ (I_4 : Int → List Int → List UInt8 → List Prp → List Comp → List UInt8 → List Prp → List Comp → List UInt8 → List Prp → List Comp → List UInt8 → List Prp → List Comp → List UInt8 → List Prp → List Comp → Prop), ∃ (m_4 : Int → List Int → List UInt8 → List Prp → List Comp → List UInt8 → List Prp → List Comp → List UInt8 → List Prp → List Comp → List UInt8 → List Prp → List Comp → List UInt8 → List Prp → List Comp → Nat), ∃ (I_5 : Int → List Int → List UInt8 → List Prp → List Comp → List UInt8 → List Prp → List Comp → List UInt8 → List Prp → List Comp → List UInt8 → List Prp → List Comp → List UInt8 → List Prp → List Comp → List UInt8 → List Prp → List Comp → Prop), ∃ (m_5 : Int → List Int → List UInt8 → List Prp → List Comp → List UInt8 → List Prp → List Comp → List UInt8 → List Prp → List Comp → List UInt8 → List Prp → List Comp → List UInt8 → List Prp → List Comp → List UInt8 → List Prp → List Comp → Nat), ∃ (I_6 : Int → List Int → List UInt8 → List Prp → List Comp → List UInt8 → List Prp → List Comp → List UInt8 → List Prp → List Comp → List UInt8 → List Prp → List Comp → List UInt8 → List Prp → List Comp → List UInt8 → List Prp → List Comp → List UInt8 → List Prp → List Comp → Prop), ∃ (m_6 : Int → List Int → List UInt8 → List Prp → List Comp → List UInt8 → List Prp → List Comp → List UInt8 → List Prp → List Comp → List UInt8 → List Prp → List Comp → List UInt8 → List Prp → List Comp → List UInt8 → List Prp → List Comp → List UInt8 → List Prp → List Comp → Nat), I (0 : Int) [] [] [] [] ∧ (∀ (x : Int) (x_1 : List Int) (x_2 : List UInt8) (x_3 : List Prp) (x_4 : List Comp), I x x_1 x_2 x_3 x_4 → (x < (↑(rowsR s).fst.length : Int) → (0 : Int) ≤ x ∧ x < (↑(rowsR s).fst.length : Int) ∧ (in64 (ix (rowsR s).fst x).At → in64 ((↑(1 : Nat) : Int) - (1 : Int)) ∧ ((ix (rowsR s).fst x).P.Name = sBEGIN → List.length (ix (rowsR s).fst x).P.Value ≤ (100000 : Nat) ∧ (nameP (Prp.mk (ix (rowsR s).fst x).P.Group (ix (rowsR s).fst x).P.Name (ix (rowsR s).fst x).P.Params (ix (rowsR s).fst x).P.Value) = [] → (0 : Int) ≤ x ∧ x < (↑(rowsR s).fst.length : Int) ∧ (in64 (ix (rowsR s).fst x).At → Q [] (11 : Int) (ix (rowsR s).fst x).At)) ∧ (¬nameP (Prp.mk (ix (rowsR s).fst x).P.Group (ix (rowsR s).fst x).P.Name (ix (rowsR s).fst x).P.Params (ix (rowsR s).fst x).P.Value) = [] → List.length (ix (rowsR s).fst x).P.Value ≤ (100000 : Nat) ∧ ((1 : Nat) + (1 : Nat)) * (some (64 : Nat)).getD (0 : Nat) ≤ (140737488355328 : Nat) ∧ (0 : Int) ≤ x ∧ x < (↑(rowsR s).fst.length : Int) ∧ (in64 (ix (rowsR s).fst x).At → (x_1.length + [(ix (rowsR s).fst x).At].length) * (some (8 : Nat)).getD (0 : Nat) ≤ (140737488355328 : Nat) ∧ in64 ((↑((1 : Nat) + (1 : Nat)) : Int) - (1 : Int)) ∧ ((6 : Int) < (↑((1 : Nat) + (1 : Nat)) : Int) - (1 : Int) → (0 : Int) ≤ x ∧ x < (↑(rowsR s).fst.length : Int) ∧ (in64 (ix (rowsR s).fst x).At → Q [] (12 : Int) (ix (rowsR s).fst x).At)) ∧ (¬(6 : Int) < (↑((1 : Nat) + (1 : Nat)) : Int) - (1 : Int) → in64 (x + (1 : Int)) ∧ I_1 (x + (1 : Int)) (x_1 ++ [(ix (rowsR s).fst x).At]) x_2 x_3 x_4 (nameP (Prp.mk (ix (rowsR s).fst x).P.Group (ix (rowsR s).fst x).P.Name (ix (rowsR s).fst x).P.Params (ix (rowsR s).fst x).P.Value)) [] [] ∧ m_1 (x + (1 : Int)) (x_1 ++ [(ix (rowsR s).fst x).At]) x_2 x_3 x_4 (nameP (Prp.mk (ix (rowsR s).fst x).P.Group (ix (rowsR s).fst x).P.Name (ix (rowsR s).fst x).P.Params (ix (rowsR s).fst x).P.Value)) [] [] < m x x_1 x_2 x_3 x_4)))) ∧ (¬(ix (rowsR s).fst x).P.Name = sBEGIN → (¬(↑(1 : Nat) : Int) - (1 : Int) = (0 : Int) ∧ (ix (rowsR s).fst x).P.Name = sEND → List.length (ix (rowsR s).fst x).P.Value ≤ (100000 : Nat)) ∧ ((¬(↑(1 : Nat) : Int) - (1 : Int) = (0 : Int) ∧ (ix (rowsR s).fst x).P.Name = sEND) ∧ ¬nameP (Prp.mk (ix (rowsR s).fst x).P.Group (ix (rowsR s).fst x).P.Name (ix (rowsR s).fst x).P.Params (ix (rowsR s).fst x).P.Value) = [] → List.length (ix (rowsR s).fst x).P.Value ≤ (100000 : Nat)) ∧ (((¬(↑(1 : Nat) : Int) - (1 : Int) = (0 : Int) ∧ (ix (rowsR s).fst x).P.Name = sEND) ∧ ¬nameP (Prp.mk (ix (rowsR s).fst x).P.Group (ix (rowsR s).fst x).P.Name (ix (rowsR s).fst x).P.Params (ix (rowsR s).fst x).P.Value) = [] → (0 : Int) ≤ (↑(1 : Nat) : Int) - (1 : Int)) ∧ ((¬(↑(1 : Nat) : Int) - (1 : Int) = (0 : Int) ∧ (ix (rowsR s).fst x).P.Name = sEND) ∧ ¬nameP (Prp.mk (ix (rowsR s).fst x).P.Group (ix (rowsR s).fst x).P.Name (ix (rowsR s).fst x).P.Params (ix (rowsR s).fst x).P.Value) = [] → (↑(1 : Nat) : Int) - (1 : Int) < (↑(1 : Nat) : Int))) ∧ ((↑(1 : Nat) : Int) - (1 : Int) = (0 : Int) ∨ (ix (rowsR s).fst x).P.Name = sEND ∧ (nameP (Prp.mk (ix (rowsR s).fst x).P.Group (ix (rowsR s).fst x).P.Name (ix (rowsR s).fst x).P.Params (ix (rowsR s).fst x).P.Value) = [] ∨ nameP (Prp.mk (ix (rowsR s).fst x).P.Group (ix (rowsR s).fst x).P.Name (ix (rowsR s).fst x).P.Params (ix (rowsR s).fst x).P.Value) ≠ x_2) → (0 : Int) ≤ x ∧ x < (↑(rowsR s).fst.length : Int) ∧ (in64 (ix (rowsR s).fst x).At → Q [] (11 : Int) (ix (rowsR s).fst x).At)) ∧ (¬((↑(1 : Nat) : Int) - (1 : Int) = (0 : Int) ∨ (ix (rowsR s).fst x).P.Name = sEND ∧ (nameP (Prp.mk (ix (rowsR s).fst x).P.Group (ix (rowsR s).fst x).P.Name (ix (rowsR s).fst x).P.Params (ix (rowsR s).fst x).P.Value) = [] ∨ nameP (Prp.mk (ix (rowsR s).fst x).P.Group (ix (rowsR s).fst x).P.Name (ix (rowsR s).fst x).P.Params (ix (rowsR s).fst x).P.Value) ≠ x_2)) → ((ix (rowsR s).fst x).P.Name = sEND → (in64 ((↑(1 : Nat) : Int) - (1 : Int) - (1 : Int)) ∧ in64 ((↑(1 : Nat) : Int) - (1 : Int) - (1 : Int)) ∧ ((0 : Int) ≤ (↑(1 : Nat) : Int) - (1 : Int) - (1 : Int) ∧ (↑(1 : Nat) : Int) - (1 : Int) - (1 : Int) < (↑(1 : Nat) : Int)) ∧ ((0 : Int) ≤ (↑(1 : Nat) : Int) - (1 : Int) ∧ (↑(1 : Nat) : Int) - (1 : Int) < (↑(1 : Nat) : Int)) ∧ (x_4.length + [Comp.mk [] [] []].length) * (some (64 : Nat)).getD (0 : Nat) ≤ (140737488355328 : Nat) ∧ ((0 : Int) ≤ (↑(1 : Nat) : Int) - (1 : Int) - (1 : Int) ∧ (↑(1 : Nat) : Int) - (1 : Int) - (1 : Int) < (↑(1 : Nat) : Int)) ∧ (0 : Int) ≤ (↑x_4.length : Int) ∧ (↑x_4.length : Int) < (↑(x_4 ++ [Comp.mk [] [] []]).length : Int) ∧ False) ∧ in64 ((↑(1 : Nat) : Int) - (1 : Int) - (1 : Int)) ∧ in64 ((↑(1 : Nat) : Int) - (1 : Int) - (1 : Int)) ∧ ((0 : Int) ≤ (↑(1 : Nat) : Int) - (1 : Int) - (1 : Int) ∧ (↑(1 : Nat) : Int) - (1 : Int) - (1 : Int) < (↑(1 : Nat) : Int)) ∧ ((0 : Int) ≤ (↑(1 : Nat) : Int) - (1 : Int) ∧ (↑(1 : Nat) : Int) - (1 : Int) < (↑(1 : Nat) : Int)) ∧ False) ∧ (¬(ix (rowsR s).fst x).P.Name = sEND → ((0 : Int) ≤ (↑(1 : Nat) : Int) - (1 : Int) ∧ (↑(1 : Nat) : Int) - (1 : Int) < (↑(1 : Nat) : Int)) ∧ (x_3.length + [Prp.mk (ix (rowsR s).fst x).P.Group (ix (rowsR s).fst x).P.Name (ix (rowsR s).fst x).P.Params (ix (rowsR s).fst x).P.Value].length) * (some (72 : Nat)).getD (0 : Nat) ≤ (140737488355328 : Nat) ∧ ((0 : Int) ≤ (↑(1 : Nat) : Int) - (1 : Int) ∧ (↑(1 : Nat) : Int) - (1 : Int) < (↑(1 : Nat) : Int)) ∧ in64 (x + (1 : Int)) ∧ I (x + (1 : Int)) x_1 x_2 (x_3 ++ [Prp.mk (ix (rowsR s).fst x).P.Group (ix (rowsR s).fst x).P.Name (ix (rowsR s).fst x).P.Params (ix (rowsR s).fst x).P.Value]) x_4 ∧ m (x + (1 : Int)) x_1 x_2 (x_3 ++ [Prp.mk (ix (rowsR s).fst x).P.Group (ix (rowsR s).fst x).P.Name (ix (rowsR s).fst x).P.Params (ix (rowsR s).fst x).P.Value]) x_4 < m x x_1 x_2 x_3 x_4))))) ∧ (¬x < (↑(rowsR s).fst.length : Int) → ((rowsR s).snd.fst ≠ (0 : Int) → Q [] (rowsR s).snd.fst (rowsR s).snd.snd) ∧ (¬(rowsR s).snd.fst ≠ (0 : Int) → ((0 : Int) < (↑x_1.length : Int) → in64 ((↑x_1.length : Int) - (1 : Int)) ∧ (0 : Int) ≤ (↑x_1.length : Int) - (1 : Int) ∧ (↑x_1.length : Int) - (1 : Int) < (↑x_1.length : Int) ∧ (in64 (ix x_1 ((↑x_1.length : Int) - (1 : Int))) → Q [] (11 : Int) (ix x_1 ((↑x_1.length : Int) - (1 : Int))))) ∧ (¬(0 : Int) < (↑x_1.length : Int) → (0 : Int) ≤ (0 : Int) ∧ (0 : Int) < (↑(1 : Nat) : Int) ∧ Q x_4 (0 : Int) (0 : Int))))) ∧ (∀ (x : Int) (x_1 : List Int) (x_2 : List UInt8) (x_3 : List Prp) (x_4 : List Comp) (x_5 : List UInt8) (x_6 : List Prp) (x_7 : List Comp), I_1 x x_1 x_2 x_3 x_4 x_5 x_6 x_7 → (x < (↑(rowsR s).fst.length : Int) → (0 : Int) ≤ x ∧ x < (↑(rowsR s).fst.length : Int) ∧ (in64 (ix (rowsR s).fst x).At → in64 ((↑(2 : Nat) : Int) - (1 : Int)) ∧ ((ix (rowsR s).fst x).P.Name = sBEGIN → List.length (ix (rowsR s).fst x).P.Value ≤ (100000 : Nat) ∧ (nameP (Prp.mk (ix (rowsR s).fst x).P.Group (ix (rowsR s).fst x).P.Name (ix (rowsR s).fst x).P.Params (ix (rowsR s).fst x).P.Value) = [] → (0 : Int) ≤ x ∧ x < (↑(rowsR s).fst.length : Int) ∧ (in64 (ix (rowsR s).fst x).At → Q [] (11 : Int) (ix (rowsR s).fst x).At)) ∧ (¬nameP (Prp.mk (ix (rowsR s).fst x).P.Group (ix (rowsR s).fst x).P.Name (ix (rowsR s).fst x).P.Params (ix (rowsR s).fst x).P.Value) = [] → List.length (ix (rowsR s).fst x).P.Value ≤ (100000 : Nat) ∧ ((2 : Nat) + (1 : Nat)) * (some (64 : Nat)).getD (0 : Nat) ≤ (140737488355328 : Nat) ∧ (0 : Int) ≤ x ∧ x < (↑(rowsR s).fst.length : Int) ∧ (in64 (ix (rowsR s).fst x).At → (x_1.length + [(ix (rowsR s).fst x).At].length) * (some (8 : Nat)).getD (0 : Nat) ≤ (140737488355328 : Nat) ∧ in64 ((↑((2 : Nat) + (1 : Nat)) : Int) - (1 : Int)) ∧ ((6 : Int) < (↑((2 : Nat) + (1 : Nat)) : Int) - (1 : Int) → (0 : Int) ≤ x ∧ x < (↑(rowsR s).fst.length : Int) ∧ (in64 (ix (rowsR s).fst x).At → Q [] (12 : Int) (ix (rowsR s).fst x).At)) ∧ (¬(6 : Int) < (↑((2 : Nat) + (1 : Nat)) : Int) - (1 : Int) → in64 (x + (1 : Int)) ∧ I_2 (x + (1 : Int)) (x_1 ++ [(ix (rowsR s).fst x).At]) x_2 x_3 x_4 x_5 x_6 x_7 (nameP (Prp.mk (ix (rowsR s).fst x).P.Group (ix (rowsR s).fst x).P.Name (ix (rowsR s).fst x).P.Params (ix (rowsR s).fst x).P.Value)) [] [] ∧ m_2 (x + (1 : Int)) (x_1 ++ [(ix (rowsR s).fst x).At]) x_2 x_3 x_4 x_5 x_6 x_7 (nameP (Prp.mk (ix (rowsR s).fst x).P.Group (ix (rowsR s).fst x).P.Name (ix (rowsR s).fst x).P.Params (ix (rowsR s).fst x).P.Value)) [] [] < m_1 x x_1 x_2 x_3 x_4 x_5 x_6 x_7)))) ∧ (¬(ix (rowsR s).fst x).P.Name = sBEGIN → (¬(↑(2 : Nat) : Int) - (1 : Int) = (0 : Int) ∧ (ix (rowsR s).fst x).P.Name = sEND → List.length (ix (rowsR s).fst x).P.Value ≤ (100000 : Nat)) ∧ ((¬(↑(2 : Nat) : Int) - (1 : Int) = (0 : Int) ∧ (ix (rowsR s).fst x).P.Name = sEND) ∧ ¬nameP (Prp.mk (ix (rowsR s).fst x).P.Group (ix (rowsR s).fst x).P.Name (ix (rowsR s).fst x).P.Params (ix (rowsR s).fst x).P.Value) = [] → List.length (ix (rowsR s).fst x).P.Value ≤ (100000 : Nat)) ∧ (((¬(↑(2 : Nat) : Int) - (1 : Int) = (0 : Int) ∧ (ix (rowsR s).fst x).P.Name = sEND) ∧ ¬nameP (Prp.mk (ix (rowsR s).fst x).P.Group (ix (rowsR s).fst x).P.Name (ix (rowsR s).fst x).P.Params (ix (rowsR s).fst x).P.Value) = [] → (0 : Int) ≤ (↑(2 : Nat) : Int) - (1 : Int)) ∧ ((¬(↑(2 : Nat) : Int) - (1 : Int) = (0 : Int) ∧ (ix (rowsR s).fst x).P.Name = sEND) ∧ ¬nameP (Prp.mk (ix (rowsR s).fst x).P.Group (ix (rowsR s).fst x).P.Name (ix (rowsR s).fst x).P.Params (ix (rowsR s).fst x).P.Value) = [] → (↑(2 : Nat) : Int) - (1 : Int) < (↑(2 : Nat) : Int))) ∧ ((↑(2 : Nat) : Int) - (1 : Int) = (0 : Int) ∨ (ix (rowsR s).fst x).P.Name = sEND ∧ (nameP (Prp.mk (ix (rowsR s).fst x).P.Group (ix (rowsR s).fst x).P.Name (ix (rowsR s).fst x).P.Params (ix (rowsR s).fst x).P.Value) = [] ∨ nameP (Prp.mk (ix (rowsR s).fst x).P.Group (ix (rowsR s).fst x).P.Name (ix (rowsR s).fst x).P.Params (ix (rowsR s).fst x).P.Value) ≠ x_5) → (0 : Int) ≤ x ∧ x < (↑(rowsR s).fst.length : Int) ∧ (in64 (ix (rowsR s).fst x).At → Q [] (11 : Int) (ix (rowsR s).fst x).At)) ∧ (¬((↑(2 : Nat) : Int) - (1 : Int) = (0 : Int) ∨ (ix (rowsR s).fst x).P.Name = sEND ∧ (nameP (Prp.mk (ix (rowsR s).fst x).P.Group (ix (rowsR s).fst x).P.Name (ix (rowsR s).fst x).P.Params (ix (rowsR s).fst x).P.Value) = [] ∨ nameP (Prp.mk (ix (rowsR s).fst x).P.Group (ix (rowsR s).fst x).P.Name (ix (rowsR s).fst x).P.Params (ix (rowsR s).fst x).P.Value) ≠ x_5)) → ((ix (rowsR s).fst x).P.Name = sEND → (in64 ((↑(2 : Nat) : Int) - (1 : Int) - (1 : Int)) ∧ in64 ((↑(2 : Nat) : Int) - (1 : Int) - (1 : Int)) ∧ ((0 : Int) ≤ (↑(2 : Nat) : Int) - (1 : Int) - (1 : Int) ∧ (↑(2 : Nat) : Int) - (1 : Int) - (1 : Int) < (↑(2 : Nat) : Int)) ∧ ((0 : Int) ≤ (↑(2 : Nat) : Int) - (1 : Int) ∧ (↑(2 : Nat) : Int) - (1 : Int) < (↑(2 : Nat) : Int)) ∧ (x_4.length + [Comp.mk [] [] []].length) * (some (64 : Nat)).getD (0 : Nat) ≤ (140737488355328 : Nat) ∧ ((0 : Int) ≤ (↑(2 : Nat) : Int) - (1 : Int) - (1 : Int) ∧ (↑(2 : Nat) : Int) - (1 : Int) - (1 : Int) < (↑(2 : Nat) : Int)) ∧ (0 : Int) ≤ (↑x_4.length : Int) ∧ (↑x_4.length : Int) < (↑(x_4 ++ [Comp.mk [] [] []]).length : Int) ∧ (0 : Int) ≤ (↑(2 : Nat) : Int) - (1 : Int) ∧ (↑(2 : Nat) : Int) - (1 : Int) ≤ (↑(2 : Nat) : Int) ∧ in64 ((↑(2 : Nat) : Int) - (1 : Int) - (1 : Int)) ∧ (0 : Int) ≤ (↑(2 : Nat) : Int) - (1 : Int) - (1 : Int) ∧ (↑(2 : Nat) : Int) - (1 : Int) - (1 : Int) ≤ (↑x_1.length : Int) ∧ in64 (x + (1 : Int)) ∧ I (x + (1 : Int)) (List.take ((some ((↑(2 : Nat) : Int) - (1 : Int) - (1 : Int))).getD (↑x_1.length : Int) - none.getD (0 : Int)).toNat x_1) x_2 x_3 ((x_4 ++ [Comp.mk [] [] []]).set (↑x_4.length : Int).toNat (Comp.mk x_5 x_6 x_7)) ∧ m (x + (1 : Int)) (List.take ((some ((↑(2 : Nat) : Int) - (1 : Int) - (1 : Int))).getD (↑x_1.length : Int) - none.getD (0 : Int)).toNat x_1) x_2 x_3 ((x_4 ++ [Comp.mk [] [] []]).set (↑x_4.length : Int).toNat (Comp.mk x_5 x_6 x_7)) < m_1 x x_1 x_2 x_3 x_4 x_5 x_6 x_7) ∧ in64 ((↑(2 : Nat) : Int) - (1 : Int) - (1 : Int)) ∧ in64 ((↑(2 : Nat) : Int) - (1 : Int) - (1 : Int)) ∧ ((0 : Int) ≤ (↑(2 : Nat) : Int) - (1 : Int) - (1 : Int) ∧ (↑(2 : Nat) : Int) - (1 : Int) - (1 : Int) < (↑(2 : Nat) : Int)) ∧ ((0 : Int) ≤ (↑(2 : Nat) : Int) - (1 : Int) ∧ (↑(2 : Nat) : Int) - (1 : Int) < (↑(2 : Nat) : Int)) ∧ (x_4.length + [Comp.mk x_5 x_6 x_7].length) * (some (64 : Nat)).getD (0 : Nat) ≤ (140737488355328 : Nat) ∧ ((0 : Int) ≤ (↑(2 : Nat) : Int) - (1 : Int) - (1 : Int) ∧ (↑(2 : Nat) : Int) - (1 : Int) - (1 : Int) < (↑(2 : Nat) : Int)) ∧ (0 : Int) ≤ (↑(2 : Nat) : Int) - (1 : Int) ∧ (↑(2 : Nat) : Int) - (1 : Int) ≤ (↑(2 : Nat) : Int) ∧ in64 ((↑(2 : Nat) : Int) - (1 : Int) - (1 : Int)) ∧ (0 : Int) ≤ (↑(2 : Nat) : Int) - (1 : Int) - (1 : Int) ∧ (↑(2 : Nat) : Int) - (1 : Int) - (1 : Int) ≤ (↑x_1.length : Int) ∧ in64 (x + (1 : Int)) ∧ I (x + (1 : Int)) (List.take ((some ((↑(2 : Nat) : Int) - (1 : Int) - (1 : Int))).getD (↑x_1.length : Int) - none.getD (0 : Int)).toNat x_1) x_2 x_3 (x_4 ++ [Comp.mk x_5 x_6 x_7]) ∧ m (x + (1 : Int)) (List.take ((some ((↑(2 : Nat) : Int) - (1 : Int) - (1 : Int))).getD (↑x_1.length : Int) - none.getD (0 : Int)).toNat x_1) x_2 x_3 (x_4 ++ [Comp.mk x_5 x_6 x_7]) < m_1 x x_1 x_2 x_3 x_4 x_5 x_6 x_7) ∧ (¬(ix (rowsR s).fst x).P.Name = sEND → ((0 : Int) ≤ (↑(2 : Nat) : Int) - (1 : Int) ∧ (↑(2 : Nat) : Int) - (1 : Int) < (↑(2 : Nat) : Int)) ∧ (x_6.length + [Prp.mk (ix (rowsR s).fst x).P.Group (ix (rowsR s).fst x).P.Name (ix (rowsR s).fst x).P.Params (ix (rowsR s).fst x).P.Value].length) * (some (72 : Nat)).getD (0 : Nat) ≤ (140737488355328 : Nat) ∧ ((0 : Int) ≤ (↑(2 : Nat) : Int) - (1 : Int) ∧ (↑(2 : Nat) : Int) - (1 : Int) < (↑(2 : Nat) : Int)) ∧ in64 (x + (1 : Int)) ∧ I_1 (x + (1 : Int)) x_1 x_2 x_3 x_4 x_5 (x_6 ++ [Prp.mk (ix (rowsR s).fst x).P.Group (ix (rowsR s).fst x).P.Name (ix (rowsR s).fst x).P.Params (ix (rowsR s).fst x).P.Value]) x_7 ∧ m_1 (x + (1 : Int)) x_1 x_2 x_3 x_4 x_5 (x_6 ++ [Prp.mk (ix (rowsR s).fst x).P.Group (ix (rowsR s).fst x).P.Name (ix (rowsR s).fst x).P.Params (ix (rowsR s).fst x).P.Value]) x_7 < m_1 x x_1 x_2 x_3 x_4 x_5 x_6 x_7))))) ∧ (¬x < (↑(rowsR s).fst.length : Int) → ((rowsR s).snd.fst ≠ (0 : Int) → Q [] (rowsR s).snd.fst (rowsR s).snd.snd) ∧ (¬(rowsR s).snd.fst ≠ (0 : Int) → ((0 : Int) < (↑x_1.length : Int) → in64 ((↑x_1.length : Int) - (1 : Int)) ∧ (0 : Int) ≤ (↑x_1.length : Int) - (1 : Int) ∧ (↑x_1.length : Int) - (1 : Int) < (↑x_1.length : Int) ∧ (in64 (ix x_1 ((↑x_1.length : Int) - (1 : Int))) → Q [] (11 : Int) (ix x_1 ((↑x_1.length : Int) - (1 : Int))))) ∧ (¬(0 : Int) < (↑x_1.length : Int) → (0 : Int) ≤ (0 : Int) ∧ (0 : Int) < (↑(2 : Nat) : Int) ∧ Q x_4 (0 : Int) (0 : Int))))) ∧ (∀ (x : Int) (x_1 : List Int) (x_2 : List UInt8) (x_3 : List Prp) (x_4 : List Comp) (x_5 : List UInt8) (x_6 : List Prp) (x_7 : List Comp) (x_8 : List UInt8) (x_9 : List Prp) (x_10 : List Comp), I_2 x x_1 x_2 x_3 x_4 x_5 x_6 x_7 x_8 x_9 x_10 → (x < (↑(rowsR s).fst.length : Int) → (0 : Int) ≤ x ∧ x < (↑(rowsR s).fst.length : Int) ∧ (in64 (ix (rowsR s).fst x).At → in64 ((↑(3 : Nat) : Int) - (1 : Int)) ∧ ((ix (rowsR s).fst x).P.Name = sBEGIN → List.length (ix (rowsR s).fst x).P.Value ≤ (100000 : Nat) ∧ (nameP (Prp.mk (ix (rowsR s).fst x).P.Group (ix (rowsR s).fst x).P.Name (ix (rowsR s).fst x).P.Params (ix (rowsR s).fst x).P.Value) = [] → (0 : Int) ≤ x ∧ x < (↑(rowsR s).fst.length : Int) ∧ (in64 (ix (rowsR s).fst x).At → Q [] (11 : Int) (ix (rowsR s).fst x).At)) ∧ (¬nameP (Prp.mk (ix (rowsR s).fst x).P.Group (ix (rowsR s).fst x).P.Name (ix (rowsR s).fst x).P.Params (ix (rowsR s).fst x).P.Value) = [] → List.length (ix (rowsR s).fst x).P.Value ≤ (100000 : Nat) ∧ ((3 : Nat) + (1 : Nat)) * (some (64 : Nat)).getD (0 : Nat) ≤ (140737488355328 : Nat) ∧ (0 : Int) ≤ x ∧ x < (↑(rowsR s).fst.length : Int) ∧ (in64 (ix (rowsR s).fst x).At → (x_1.length + [(ix (rowsR s).fst x).At].length) * (some (8 : Nat)).getD (0 : Nat) ≤ (140737488355328 : Nat) ∧ in64 ((↑((3 : Nat) + (1 : Nat)) : Int) - (1 : Int)) ∧ ((6 : Int) < (↑((3 : Nat) + (1 : Nat)) : Int) - (1 : Int) → (0 : Int) ≤ x ∧ x < (↑(rowsR s).fst.length : Int) ∧ (in64 (ix (rowsR s).fst x).At → Q [] (12 : Int) (ix (rowsR s).fst x).At)) ∧ (¬(6 : Int) < (↑((3 : Nat) + (1 : Nat)) : Int) - (1 : Int) → in64 (x + (1 : Int)) ∧ I_3 (x + (1 : Int)) (x_1 ++ [(ix (rowsR s).fst x).At]) x_2 x_3 x_4 x_5 x_6 x_7 x_8 x_9 x_10 (nameP (Prp.mk (ix (rowsR s).fst x).P.Group (ix (rowsR s).fst x).P.Name (ix (rowsR s).fst x).P.Params (ix (rowsR s).fst x).P.Value)) [] [] ∧ m_3 (x + (1 : Int)) (x_1 ++ [(ix (rowsR s).fst x).At]) x_2 x_3 x_4 x_5 x_6 x_7 x_8 x_9 x_10 (nameP (Prp.mk (ix (rowsR s).fst x).P.Group (ix (rowsR s).fst x).P.Name (ix (rowsR s).fst x).P.Params (ix (rowsR s).fst x).P.Value)) [] [] < m_2 x x_1 x_2 x_3 x_4 x_5 x_6 x_7 x_8 x_9 x_10)))) ∧ (¬(ix (rowsR s).fst x).P.Name = sBEGIN → (¬(↑(3 : Nat) : Int) - (1 : Int) = (0 : Int) ∧ (ix (rowsR s).fst x).P.Name = sEND → List.length (ix (rowsR s).fst x).P.Value ≤ (100000 : Nat)) ∧ ((¬(↑(3 : Nat) : Int) - (1 : Int) = (0 : Int) ∧ (ix (rowsR s).fst x).P.Name = sEND) ∧ ¬nameP (Prp.mk (ix (rowsR s).fst x).P.Group (ix (rowsR s).fst x).P.Name (ix (rowsR s).fst x).P.Params (ix (rowsR s).fst x).P.Value) = [] → List.length (ix (rowsR s).fst x).P.Value ≤ (100000 : Nat)) ∧ (((¬(↑(3 : Nat) : Int) - (1 : Int) = (0 : Int) ∧ (ix (rowsR s).fst x).P.Name = sEND) ∧ ¬nameP (Prp.mk (ix (rowsR s).fst x).P.Group (ix (rowsR s).fst x).P.Name (ix (rowsR s).fst x).P.Params (ix (rowsR s).fst x).P.Value) = [] → (0 : Int) ≤ (↑(3 : Nat) : Int) - (1 : Int)) ∧ ((¬(↑(3 : Nat) : Int) - (1 : Int) = (0 : Int) ∧ (ix (rowsR s).fst x).P.Name = sEND) ∧ ¬nameP (Prp.mk (ix (rowsR s).fst x).P.Group (ix (rowsR s).fst x).P.Name (ix (rowsR s).fst x).P.Params (ix (rowsR s).fst x).P.Value) = [] → (↑(3 : Nat) : Int) - (1 : Int) < (↑(3 : Nat) : Int))) ∧ ((↑(3 : Nat) : Int) - (1 : Int) = (0 : Int) ∨ (ix (rowsR s).fst x).P.Name = sEND ∧ (nameP (Prp.mk (ix (rowsR s).fst x).P.Group (ix (rowsR s).fst x).P.Name (ix (rowsR s).fst x).P.Params (ix (rowsR s).fst x).P.Value) = [] ∨ nameP (Prp.mk (ix (rowsR s).fst x).P.Group (ix (rowsR s).fst x).P.Name (ix (rowsR s).fst x).P.Params (ix (rowsR s).fst x).P.Value) ≠ x_8) → (0 : Int) ≤ x ∧ x < (↑(rowsR s).fst.length : Int) ∧ (in64 (ix (rowsR s).fst x).At → Q [] (11 : Int) (ix (rowsR s).fst x).At)) ∧ (¬((↑(3 : Nat) : Int) - (1 : Int) = (0 : Int) ∨ (ix (rowsR s).fst x).P.Name = sEND ∧ (nameP (Prp.mk (ix (rowsR s).fst x).P.Group (ix (rowsR s).fst x).P.Name (ix (rowsR s).fst x).P.Params (ix (rowsR s).fst x).P.Value) = [] ∨ nameP (Prp.mk (ix (rowsR s).fst x).P.Group (ix (rowsR s).fst x).P.Name (ix (rowsR s).fst x).P.Params (ix (rowsR s).fst x).P.Value) ≠ x_8)) → ((ix (rowsR s).fst x).P.Name = sEND → (in64 ((↑(3 : Nat) : Int) - (1 : Int) - (1 : Int)) ∧ in64 ((↑(3 : Nat) : Int) - (1 : Int) - (1 : Int)) ∧ ((0 : Int) ≤ (↑(3 : Nat) : Int) - (1 : Int) - (1 : Int) ∧ (↑(3 : Nat) : Int) - (1 : Int) - (1 : Int) < (↑(3 : Nat) : Int)) ∧ ((0 : Int) ≤ (↑(3 : Nat) : Int) - (1 : Int) ∧ (↑(3 : Nat) : Int) - (1 : Int) < (↑(3 : Nat) : Int)) ∧ (x_7.length + [Comp.mk [] [] []].length) * (some (64 : Nat)).getD (0 : Nat) ≤ (140737488355328 : Nat) ∧ ((0 : Int) ≤ (↑(3 : Nat) : Int) - (1 : Int) - (1 : Int) ∧ (↑(3 : Nat) : Int) - (1 : Int) - (1 : Int) < (↑(3 : Nat) : Int)) ∧ (0 : Int) ≤ (↑x_7.length : Int) ∧ (↑x_7.length : Int) < (↑(x_7 ++ [Comp.mk [] [] []]).length : Int) ∧ (0 : Int) ≤ (↑(3 : Nat) : Int) - (1 : Int) ∧ (↑(3 : Nat) : Int) - (1 : Int) ≤ (↑(3 : Nat) : Int) ∧ in64 ((↑(3 : Nat) : Int) - (1 : Int) - (1 : Int)) ∧ (0 : Int) ≤ (↑(3 : Nat) : Int) - (1 : Int) - (1 : Int) ∧ (↑(3 : Nat) : Int) - (1 : Int) - (1 : Int) ≤ (↑x_1.length : Int) ∧ in64 (x + (1 : Int)) ∧ I_1 (x + (1 : Int)) (List.take ((some ((↑(3 : Nat) : Int) - (1 : Int) - (1 : Int))).getD (↑x_1.length : Int) - none.getD (0 : Int)).toNat x_1) x_2 x_3 x_4 x_5 x_6 ((x_7 ++ [Comp.mk [] [] []]).set (↑x_7.length : Int).toNat (Comp.mk x_8 x_9 x_10)) ∧ m_1 (x + (1 : Int)) (List.take ((some ((↑(3 : Nat) : Int) - (1 : Int) - (1 : Int))).getD (↑x_1.length : Int) - none.getD (0 : Int)).toNat x_1) x_2 x_3 x_4 x_5 x_6 ((x_7 ++ [Comp.mk [] [] []]).set (↑x_7.length : Int).toNat (Comp.mk x_8 x_9 x_10)) < m_2 x x_1 x_2 x_3 x_4 x_5 x_6 x_7 x_8 x_9 x_10) ∧ in64 ((↑(3 : Nat) : Int) - (1 : Int) - (1 : Int)) ∧ in64 ((↑(3 : Nat) : Int) - (1 : Int) - (1 : Int)) ∧ ((0 : Int) ≤ (↑(3 : Nat) : Int) - (1 : Int) - (1 : Int) ∧ (↑(3 : Nat) : Int) - (1 : Int) - (1 : Int) < (↑(3 : Nat) : Int)) ∧ ((0 : Int) ≤ (↑(3 : Nat) : Int) - (1 : Int) ∧ (↑(3 : Nat) : Int) - (1 : Int) < (↑(3 : Nat) : Int)) ∧ (x_7.length + [Comp.mk x_8 x_9 x_10].length) * (some (64 : Nat)).getD (0 : Nat) ≤ (140737488355328 : Nat) ∧ ((0 : Int) ≤ (↑(3 : Nat) : Int) - (1 : Int) - (1 : Int) ∧ (↑(3 : Nat) : Int) - (1 : Int) - (1 : Int) < (↑(3 : Nat) : Int)) ∧ (0 : Int) ≤ (↑(3 : Nat) : Int) - (1 : Int) ∧ (↑(3 : Nat) : Int) - (1 : Int) ≤ (↑(3 : Nat) : Int) ∧ in64 ((↑(3 : Nat) : Int) - (1 : Int) - (1 : Int)) ∧ (0 : Int) ≤ (↑(3 : Nat) : Int) - (1 : Int) - (1 : Int) ∧ (↑(3 : Nat) : Int) - (1 : Int) - (1 : Int) ≤ (↑x_1.length : Int) ∧ in64 (x + (1 : Int)) ∧ I_1 (x + (1 : Int)) (List.take ((some ((↑(3 : Nat) : Int) - (1 : Int) - (1 : Int))).getD (↑x_1.length : Int) - none.getD (0 : Int)).toNat x_1) x_2 x_3 x_4 x_5 x_6 (x_7 ++ [Comp.mk x_8 x_9 x_10]) ∧ m_1 (x + (1 : Int)) (List.take ((some ((↑(3 : Nat) : Int) - (1 : Int) - (1 : Int))).getD (↑x_1.length : Int) - none.getD (0 : Int)).toNat x_1) x_2 x_3 x_4 x_5 x_6 (x_7 ++ [Comp.mk x_8 x_9 x_10]) < m_2 x x_1 x_2 x_3 x_4 x_5 x_6 x_7 x_8 x_9 x_10) ∧ (¬(ix (rowsR s).fst x).P.Name = sEND → ((0 : Int) ≤ (↑(3 : Nat) : Int) - (1 : Int) ∧ (↑(3 : Nat) : Int) - (1 : Int) < (↑(3 : Nat) : Int)) ∧ (x_9.length + [Prp.mk (ix (rowsR s).fst x).P.Group (ix (rowsR s).fst x).P.Name (ix (rowsR s).fst x).P.Params (ix (rowsR s).fst x).P.Value].length) * (some (72 : Nat)).getD (0 : Nat) ≤ (140737488355328 : Nat) ∧ ((0 : Int) ≤ (↑(3 : Nat) : Int) - (1 : Int) ∧ (↑(3 : Nat) : Int) - (1 : Int) < (↑(3 : Nat) : Int)) ∧ in64 (x + (1 : Int)) ∧ I_2 (x + (1 : Int)) x_1 x_2 x_3 x_4 x_5 x_6 x_7 x_8 (x_9 ++ [Prp.mk (ix (rowsR s).fst x).P.Group (ix (rowsR s).fst x).P.Name (ix (rowsR s).fst x).P.Params (ix (rowsR s).fst x).P.Value]) x_10 ∧ m_2 (x + (1 : Int)) x_1 x_2 x_3 x_4 x_5 x_6 x_7 x_8 (x_9 ++ [Prp.mk (ix (rowsR s).fst x).P.Group (ix (rowsR s).fst x).P.Name (ix (rowsR s).fst x).P.Params (ix (rowsR s).fst x).P.Value]) x_10 < m_2 x x_1 x_2 x_3 x_4 x_5 x_6 x_7 x_8 x_9 x_10))))) ∧ (¬x < (↑(rowsR s).fst.length : Int) → ((rowsR s).snd.fst ≠ (0 : Int) → Q [] (rowsR s).snd.fst (rowsR s).snd.snd) ∧ (¬(rowsR s).snd.fst ≠ (0 : Int) → ((0 : Int) < (↑x_1.length : Int) → in64 ((↑x_1.length : Int) - (1 : Int)) ∧ (0 : Int) ≤ (↑x_1.length : Int) - (1 : Int) ∧ (↑x_1.length : Int) - (1 : Int) < (↑x_1.length : Int) ∧ (in64 (ix x_1 ((↑x_1.length : Int) - (1 : Int))) → Q [] (11 : Int) (ix x_1 ((↑x_1.length : Int) - (1 : Int))))) ∧ (¬(0 : Int) < (↑x_1.length : Int) → (0 : Int) ≤ (0 : Int) ∧ (0 : Int) < (↑(3 : Nat) : Int) ∧ Q x_4 (0 : Int) (0 : Int))))) ∧ (∀ (x : Int) (x_1 : List Int) (x_2 : List UInt8) (x_3 : List Prp) (x_4 : List Comp) (x_5 : List UInt8) (x_6 : List Prp) (x_7 : List Comp) (x_8 : List UInt8) (x_9 : List Prp) (x_10 : List Comp) (x_11 : List UInt8) (x_12 : List Prp) (x_13 : List Comp), I_3 x x_1 x_2 x_3 x_4 x_5 x_6 x_7 x_8 x_9 x_10 x_11 x_12 x_13 → (x < (↑(rowsR s).fst.length : Int) → (0 : Int) ≤ x ∧ x < (↑(rowsR s).fst.length : Int) ∧ (in64 (ix (rowsR s).fst x).At → in64 ((↑(4 : Nat) : Int) - (1 : Int)) ∧ ((ix (rowsR s).fst x).P.Name = sBEGIN → List.length (ix (rowsR s).fst x).P.Value ≤ (100000 : Nat) ∧ (nameP (Prp.mk (ix (rowsR s).fst x).P.Group (ix (rowsR s).fst x).P.Name (ix (rowsR s).fst x).P.Params (ix (rowsR s).fst x).P.Value) = [] → (0 : Int) ≤ x ∧ x < (↑(rowsR s).fst.length : Int) ∧ (in64 (ix (rowsR s).fst x).At → Q [] (11 : Int) (ix (rowsR s).fst x).At)) ∧ (¬nameP (Prp.mk (ix (rowsR s).fst x).P.Group (ix (rowsR s).fst x).P.Name (ix (rowsR s).fst x).P.Params (ix (rowsR s).fst x).P.Value) = [] → List.length (ix (rowsR s).fst x).P.Value ≤ (100000 : Nat) ∧ ((4 : Nat) + (1 : Nat)) * (some (64 : Nat)).getD (0 : Nat) ≤ (140737488355328 : Nat) ∧ (0 : Int) ≤ x ∧ x < (↑(rowsR s).fst.length : Int) ∧ (in64 (ix (rowsR s).fst x).At → (x_1.length + [(ix (rowsR s).fst x).At].length) * (some (8 : Nat)).getD (0 : Nat) ≤ (140737488355328 : Nat) ∧ in64 ((↑((4 : Nat) + (1 : Nat)) : Int) - (1 : Int)) ∧ ((6 : Int) < (↑((4 : Nat) + (1 : Nat)) : Int) - (1 : Int) → (0 : Int) ≤ x ∧ x < (↑(rowsR s).fst.length : Int) ∧ (in64 (ix (rowsR s).fst x).At → Q [] (12 : Int) (ix (rowsR s).fst x).At)) ∧ (¬(6 : Int) < (↑((4 : Nat) + (1 : Nat)) : Int) - (1 : Int) → in64 (x + (1 : Int)) ∧ I_4 (x + (1 : Int)) (x_1 ++ [(ix (rowsR s).fst x).At]) x_2 x_3 x_4 x_5 x_6 x_7 x_8 x_9 x_10 x_11 x_12 x_13 (nameP (Prp.mk (ix (rowsR s).fst x).P.Group (ix (rowsR s).fst x).P.Name (ix (rowsR s).fst x).P.Params (ix (rowsR s).fst x).P.Value)) [] [] ∧ m_4 (x + (1 : Int)) (x_1 ++ [(ix (rowsR s).fst x).At]) x_2 x_3 x_4 x_5 x_6 x_7 x_8 x_9 x_10 x_11 x_12 x_13 (nameP (Prp.mk (ix (rowsR s).fst x).P.Group (ix (rowsR s).fst x).P.Name (ix (rowsR s).fst x).P.Params (ix (rowsR s).fst x).P.Value)) [] [] < m_3 x x_1 x_2 x_3 x_4 x_5 x_6 x_7 x_8 x_9 x_10 x_11 x_12 x_13)))) ∧ (¬(ix (rowsR s).fst x).P.Name = sBEGIN → (¬(↑(4 : Nat) : Int) - (1 : Int) = (0 : Int) ∧ (ix (rowsR s).fst x).P.Name = sEND → List.length (ix (rowsR s).fst x).P.Value ≤ (100000 : Nat)) ∧ ((¬(↑(4 : Nat) : Int) - (1 : Int) = (0 : Int) ∧ (ix (rowsR s).fst x).P.Name = sEND) ∧ ¬nameP (Prp.mk (ix (rowsR s).fst x).P.Group (ix (rowsR s).fst x).P.Name (ix (rowsR s).fst x).P.Params (ix (rowsR s).fst x).P.Value) = [] → List.length (ix (rowsR s).fst x).P.Value ≤ (100000 : Nat)) ∧ (((¬(↑(4 : Nat) : Int) - (1 : Int) = (0 : Int) ∧ (ix (rowsR s).fst x).P.Name = sEND) ∧ ¬nameP (Prp.mk (ix (rowsR s).fst x).P.Group (ix (rowsR s).fst x).P.Name (ix (rowsR s).fst x).P.Params (ix (rowsR s).fst x).P.Value) = [] → (0 : Int) ≤ (↑(4 : Nat) : Int) - (1 : Int)) ∧ ((¬(↑(4 : Nat) : Int) - (1 : Int) = (0 : Int) ∧ (ix (rowsR s).fst x).P.Name = sEND) ∧ ¬nameP (Prp.mk (ix (rowsR s).fst x).P.Group (ix (rowsR s).fst x).P.Name (ix (rowsR s).fst x).P.Params (ix (rowsR s).fst x).P.Value) = [] → (↑(4 : Nat) : Int) - (1 : Int) < (↑(4 : Nat) : Int))) ∧ ((↑(4 : Nat) : Int) - (1 : Int) = (0 : Int) ∨ (ix (rowsR s).fst x).P.Name = sEND ∧ (nameP (Prp.mk (ix (rowsR s).fst x).P.Group (ix (rowsR s).fst x).P.Name (ix (rowsR s).fst x).P.Params (ix (rowsR s).fst x).P.Value) = [] ∨ nameP (Prp.mk (ix (rowsR s).fst x).P.Group (ix (rowsR s).fst x).P.Name (ix (rowsR s).fst x).P.Params (ix (rowsR s).fst x).P.Value) ≠ x_11) → (0 : Int) ≤ x ∧ x < (↑(rowsR s).fst.length : Int) ∧ (in64 (ix (rowsR s).fst x).At → Q [] (11 : Int) (ix (rowsR s).fst x).At)) ∧ (¬((↑(4 : Nat) : Int) - (1 : Int) = (0 : Int) ∨ (ix (rowsR s).fst x).P.Name = sEND ∧ (nameP (Prp.mk (ix (rowsR s).fst x).P.Group (ix (rowsR s).fst x).P.Name (ix (rowsR s).fst x).P.Params (ix (rowsR s).fst x).P.Value) = [] ∨ nameP (Prp.mk (ix (rowsR s).fst x).P.Group (ix (rowsR s).fst x).P.Name (ix (rowsR s).fst x).P.Params (ix (rowsR s).fst x).P.Value) ≠ x_11)) → ((ix (rowsR s).fst x).P.Name = sEND → (in64 ((↑(4 : Nat) : Int) - (1 : Int) - (1 : Int)) ∧ in64 ((↑(4 : Nat) : Int) - (1 : Int) - (1 : Int)) ∧ ((0 : Int) ≤ (↑(4 : Nat) : Int) - (1 : Int) - (1 : Int) ∧ (↑(4 : Nat) : Int) - (1 : Int) - (1 : Int) < (↑(4 : Nat) : Int)) ∧ ((0 : Int) ≤ (↑(4 : Nat) : Int) - (1 : Int) ∧ (↑(4 : Nat) : Int) - (1 : Int) < (↑(4 : Nat) : Int)) ∧ (x_10.length + [Comp.mk [] [] []].length) * (some (64 : Nat)).getD (0 : Nat) ≤ (140737488355328 : Nat) ∧ ((0 : Int) ≤ (↑(4 : Nat) : Int) - (1 : Int) - (1 : Int) ∧ (↑(4 : Nat) : Int) - (1 : Int) - (1 : Int) < (↑(4 : Nat) : Int)) ∧ (0 : Int) ≤ (↑x_10.length : Int) ∧ (↑x_10.length : Int) < (↑(x_10 ++ [Comp.mk [] [] []]).length : Int) ∧ (0 : Int) ≤ (↑(4 : Nat) : Int) - (1 : Int) ∧ (↑(4 : Nat) : Int) - (1 : Int) ≤ (↑(4 : Nat) : Int) ∧ in64 ((↑(4 : Nat) : Int) - (1 : Int) - (1 : Int)) ∧ (0 : Int) ≤ (↑(4 : Nat) : Int) - (1 : Int) - (1 : Int) ∧ (↑(4 : Nat) : Int) - (1 : Int) - (1 : Int) ≤ (↑x_1.length : Int) ∧ in64 (x + (1 : Int)) ∧ I_2 (x + (1 : Int)) (List.take ((some ((↑(4 : Nat) : Int) - (1 : Int) - (1 : Int))).getD (↑x_1.length : Int) - none.getD (0 : Int)).toNat x_1) x_2 x_3 x_4 x_5 x_6 x_7 x_8 x_9 ((x_10 ++ [Comp.mk [] [] []]).set (↑x_10.length : Int).toNat (Comp.mk x_11 x_12 x_13)) ∧ m_2 (x + (1 : Int)) (List.take ((some ((↑(4 : Nat) : Int) - (1 : Int) - (1 : Int))).getD (↑x_1.length : Int) - none.getD (0 : Int)).toNat x_1) x_2 x_3 x_4 x_5 x_6 x_7 x_8 x_9 ((x_10 ++ [Comp.mk [] [] []]).set (↑x_10.length : Int).toNat (Comp.mk x_11 x_12 x_13)) < m_3 x x_1 x_2 x_3 x_4 x_5 x_6 x_7 x_8 x_9 x_10 x_11 x_12 x_13) ∧ in64 ((↑(4 : Nat) : Int) - (1 : Int) - (1 : Int)) ∧ in64 ((↑(4 : Nat) : Int) - (1 : Int) - (1 : Int)) ∧ ((0 : Int) ≤ (↑(4 : Nat) : Int) - (1 : Int) - (1 : Int) ∧ (↑(4 : Nat) : Int) - (1 : Int) - (1 : Int) < (↑(4 : Nat) : Int)) ∧ ((0 : Int) ≤ (↑(4 : Nat) : Int) - (1 : Int) ∧ (↑(4 : Nat) : Int) - (1 : Int) < (↑(4 : Nat) : Int)) ∧ (x_10.length + [Comp.mk x_11 x_12 x_13].length) * (some (64 : Nat)).getD (0 : Nat) ≤ (140737488355328 : Nat) ∧ ((0 : Int) ≤ (↑(4 : Nat) : Int) - (1 : Int) - (1 : Int) ∧ (↑(4 : Nat) : Int) - (1 : Int) - (1 : Int) < (↑(4 : Nat) : Int)) ∧ (0 : Int) ≤ (↑(4 : Nat) : Int) - (1 : Int) ∧ (↑(4 : Nat) : Int) - (1 : Int) ≤ (↑(4 : Nat) : Int) ∧ in64 ((↑(4 : Nat) : Int) - (1 : Int) - (1 : Int)) ∧ (0 : Int) ≤ (↑(4 : Nat) : Int) - (1 : Int) - (1 : Int) ∧ (↑(4 : Nat) : Int) - (1 : Int) - (1 : Int) ≤ (↑x_1.length : Int) ∧ in64 (x + (1 : Int)) ∧ I_2 (x + (1 : Int)) (List.take ((some ((↑(4 : Nat) : Int) - (1 : Int) - (1 : Int))).getD (↑x_1.length : Int) - none.getD (0 : Int)).toNat x_1) x_2 x_3 x_4 x_5 x_6 x_7 x_8 x_9 (x_10 ++ [Comp.mk x_11 x_12 x_13]) ∧ m_2 (x + (1 : Int)) (List.take ((some ((↑(4 : Nat) : Int) - (1 : Int) - (1 : Int))).getD (↑x_1.length : Int) - none.getD (0 : Int)).toNat x_1) x_2 x_3 x_4 x_5 x_6 x_7 x_8 x_9 (x_10 ++ [Comp.mk x_11 x_12 x_13]) < m_3 x x_1 x_2 x_3 x_4 x_5 x_6 x_7 x_8 x_9 x_10 x_11 x_12 x_13) ∧ (¬(ix (rowsR s).fst x).P.Name = sEND → ((0 : Int) ≤ (↑(4 : Nat) : Int) - (1 : Int) ∧ (↑(4 : Nat) : Int) - (1 : Int) < (↑(4 : Nat) : Int)) ∧ (x_12.length + [Prp.mk (ix (rowsR s).fst x).P.Group (ix (rowsR s).fst x).P.Name (ix (rowsR s).fst x).P.Params (ix (rowsR s).fst x).P.Value].length) * (some (72 : Nat)).getD (0 : Nat) ≤ (140737488355328 : Nat) ∧ ((0 : Int) ≤ (↑(4 : Nat) : Int) - (1 : Int) ∧ (↑(4 : Nat) : Int) - (1 : Int) < (↑(4 : Nat) : Int)) ∧ in64 (x + (1 : Int)) ∧ I_3 (x + (1 : Int)) x_1 x_2 x_3 x_4 x_5 x_6 x_7 x_8 x_9 x_10 x_11 (x_12 ++ [Prp.mk (ix (rowsR s).fst x).P.Group (ix (rowsR s).fst x).P.Name (ix (rowsR s).fst x).P.Params (ix (rowsR s).fst x).P.Value]) x_13 ∧ m_3 (x + (1 : Int)) x_1 x_2 x_3 x_4 x_5 x_6 x_7 x_8 x_9 x_10 x_11 (x_12 ++ [Prp.mk (ix (rowsR s).fst x).P.Group (ix (rowsR s).fst x).P.Name (ix (rowsR s).fst x).P.Params (ix (rowsR s).fst x).P.Value]) x_13 < m_3 x x_1 x_2 x_3 x_4 x_5 x_6 x_7 x_8 x_9 x_10 x_11 x_12 x_13))))) ∧ (¬x < (↑(rowsR s).fst.length : Int) → ((rowsR s).snd.fst ≠ (0 : Int) → Q [] (rowsR s).snd.fst (rowsR s).snd.snd) ∧ (¬(rowsR s).snd.fst ≠ (0 : Int) → ((0 : Int) < (↑x_1.length : Int) → in64 ((↑x_1.length : Int) - (1 : Int)) ∧ (0 : Int) ≤ (↑x_1.length : Int) - (1 : Int) ∧ (↑x_1.length : Int) - (1 : Int) < (↑x_1.length : Int) ∧ (in64 (ix x_1 ((↑x_1.length : Int) - (1 : Int))) → Q [] (11 : Int) (ix x_1 ((↑x_1.length : Int) - (1 : Int))))) ∧ (¬(0 : Int) < (↑x_1.length : Int) → (0 : Int) ≤ (0 : Int) ∧ (0 : Int) < (↑(4 : Nat) : Int) ∧ Q x_4 (0 : Int) (0 : Int))))) ∧ (∀ (x : Int) (x_1 : List Int) (x_2 : List UInt8) (x_3 : List Prp) (x_4 : List Comp) (x_5 : List UInt8) (x_6 : List Prp) (x_7 : List Comp) (x_8 : List UInt8) (x_9 : List Prp) (x_10 : List Comp) (x_11 : List UInt8) (x_12 : List Prp) (x_13 : List Comp) (x_14 : List UInt8) (x_15 : List Prp) (x_16 : List Comp), I_4 x x_1 x_2 x_3 x_4 x_5 x_6 x_7 x_8 x_9 x_10 x_11 x_12 x_13 x_14 x_15 x_16 → (x < (↑(rowsR s).fst.length : Int) → (0 : Int) ≤ x ∧ x < (↑(rowsR s).fst.length : Int) ∧ (in64 (ix (rowsR s).fst x).At → in64 ((↑(5 : Nat) : Int) - (1 : Int)) ∧ ((ix (rowsR s).fst x).P.Name = sBEGIN → List.length (ix (rowsR s).fst x).P.Value ≤ (100000 : Nat) ∧ (nameP (Prp.mk (ix (rowsR s).fst x).P.Group (ix (rowsR s).fst x).P.Name (ix (rowsR s).fst x).P.Params (ix (rowsR s).fst x).P.Value) = [] → (0 : Int) ≤ x ∧ x < (↑(rowsR s).fst.length : Int) ∧ (in64 (ix (rowsR s).fst x).At → Q [] (11 : Int) (ix (rowsR s).fst x).At)) ∧ (¬nameP (Prp.mk (ix (rowsR s).fst x).P.Group (ix (rowsR s).fst x).P.Name (ix (rowsR s).fst x).P.Params (ix (rowsR s).fst x).P.Value) = [] → List.length (ix (rowsR s).fst x).P.Value ≤ (100000 : Nat) ∧ ((5 : Nat) + (1 : Nat)) * (some (64 : Nat)).getD (0 : Nat) ≤ (140737488355328 : Nat) ∧ (0 : Int) ≤ x ∧ x < (↑(rowsR s).fst.length : Int) ∧ (in64 (ix (rowsR s).fst x).At → (x_1.length + [(ix (rowsR s).fst x).At].length) * (some (8 : Nat)).getD (0 : Nat) ≤ (140737488355328 : Nat) ∧ in64 ((↑((5 : Nat) + (1 : Nat)) : Int) - (1 : Int)) ∧ ((6 : Int) < (↑((5 : Nat) + (1 : Nat)) : Int) - (1 : Int) → (0 : Int) ≤ x ∧ x < (↑(rowsR s).fst.length : Int) ∧ (in64 (ix (rowsR s).fst x).At → Q [] (12 : Int) (ix (rowsR s).fst x).At)) ∧ (¬(6 : Int) < (↑((5 : Nat) + (1 : Nat)) : Int) - (1 : Int) → in64 (x + (1 : Int)) ∧ I_5 (x + (1 : Int)) (x_1 ++ [(ix (rowsR s).fst x).At]) x_2 x_3 x_4 x_5 x_6 x_7 x_8 x_9 x_10 x_11 x_12 x_13 x_14 x_15 x_16 (nameP (Prp.mk (ix (rowsR s).fst x).P.Group (ix (rowsR s).fst x).P.Name (ix (rowsR s).fst x).P.Params (ix (rowsR s).fst x).P.Value)) [] [] ∧ m_5 (x + (1 : Int)) (x_1 ++ [(ix (rowsR s).fst x).At]) x_2 x_3 x_4 x_5 x_6 x_7 x_8 x_9 x_10 x_11 x_12 x_13 x_14 x_15 x_16 (nameP (Prp.mk (ix (rowsR s).fst x).P.Group (ix (rowsR s).fst x).P.Name (ix (rowsR s).fst x).P.Params (ix (rowsR s).fst x).P.Value)) [] [] < m_4 x x_1 x_2 x_3 x_4 x_5 x_6 x_7 x_8 x_9 x_10 x_11 x_12 x_13 x_14 x_15 x_16)))) ∧ (¬(ix (rowsR s).fst x).P.Name = sBEGIN → (¬(↑(5 : Nat) : Int) - (1 : Int) = (0 : Int) ∧ (ix (rowsR s).fst x).P.Name = sEND → List.length (ix (rowsR s).fst x).P.Value ≤ (100000 : Nat)) ∧ ((¬(↑(5 : Nat) : Int) - (1 : Int) = (0 : Int) ∧ (ix (rowsR s).fst x).P.Name = sEND) ∧ ¬nameP (Prp.mk (ix (rowsR s).fst x).P.Group (ix (rowsR s).fst x).P.Name (ix (rowsR s).fst x).P.Params (ix (rowsR s).fst x).P.Value) = [] → List.length (ix (rowsR s).fst x).P.Value ≤ (100000 : Nat)) ∧ (((¬(↑(5 : Nat) : Int) - (1 : Int) = (0 : Int) ∧ (ix (rowsR s).fst x).P.Name = sEND) ∧ ¬nameP (Prp.mk (ix (rowsR s).fst x).P.Group (ix (rowsR s).fst x).P.Name (ix (rowsR s).fst x).P.Params (ix (rowsR s).fst x).P.Value) = [] → (0 : Int) ≤ (↑(5 : Nat) : Int) - (1 : Int)) ∧ ((¬(↑(5 : Nat) : Int) - (1 : Int) = (0 : Int) ∧ (ix (rowsR s).fst x).P.Name = sEND) ∧ ¬nameP (Prp.mk (ix (rowsR s).fst x).P.Group (ix (rowsR s).fst x).P.Name (ix (rowsR s).fst x).P.Params (ix (rowsR s).fst x).P.Value) = [] → (↑(5 : Nat) : Int) - (1 : Int) < (↑(5 : Nat) : Int))) ∧ ((↑(5 : Nat) : Int) - (1 : Int) = (0 : Int) ∨ (ix (rowsR s).fst x).P.Name = sEND ∧ (nameP (Prp.mk (ix (rowsR s).fst x).P.Group (ix (rowsR s).fst x).P.Name (ix (rowsR s).fst x).P.Params (ix (rowsR s).fst x).P.Value) = [] ∨ nameP (Prp.mk (ix (rowsR s).fst x).P.Group (ix (rowsR s).fst x).P.Name (ix (rowsR s).fst x).P.Params (ix (rowsR s).fst x).P.Value) ≠ x_14) → (0 : Int) ≤ x ∧ x < (↑(rowsR s).fst.length : Int) ∧ (in64 (ix (rowsR s).fst x).At → Q [] (11 : Int) (ix (rowsR s).fst x).At)) ∧ (¬((↑(5 : Nat) : Int) - (1 : Int) = (0 : Int) ∨ (ix (rowsR s).fst x).P.Name = sEND ∧ (nameP (Prp.mk (ix (rowsR s).fst x).P.Group (ix (rowsR s).fst x).P.Name (ix (rowsR s).fst x).P.Params (ix (rowsR s).fst x).P.Value) = [] ∨ nameP (Prp.mk (ix (rowsR s).fst x).P.Group (ix (rowsR s).fst x).P.Name (ix (rowsR s).fst x).P.Params (ix (rowsR s).fst x).P.Value) ≠ x_14)) → ((ix (rowsR s).fst x).P.Name = sEND → (in64 ((↑(5 : Nat) : Int) - (1 : Int) - (1 : Int)) ∧ in64 ((↑(5 : Nat) : Int) - (1 : Int) - (1 : Int)) ∧ ((0 : Int) ≤ (↑(5 : Nat) : Int) - (1 : Int) - (1 : Int) ∧ (↑(5 : Nat) : Int) - (1 : Int) - (1 : Int) < (↑(5 : Nat) : Int)) ∧ ((0 : Int) ≤ (↑(5 : Nat) : Int) - (1 : Int) ∧ (↑(5 : Nat) : Int) - (1 : Int) < (↑(5 : Nat) : Int)) ∧ (x_13.length + [Comp.mk [] [] []].length) * (some (64 : Nat)).getD (0 : Nat) ≤ (140737488355328 : Nat) ∧ ((0 : Int) ≤ (↑(5 : Nat) : Int) - (1 : Int) - (1 : Int) ∧ (↑(5 : Nat) : Int) - (1 : Int) - (1 : Int) < (↑(5 : Nat) : Int)) ∧ (0 : Int) ≤ (↑x_13.length : Int) ∧ (↑x_13.length : Int) < (↑(x_13 ++ [Comp.mk [] [] []]).length : Int) ∧ (0 : Int) ≤ (↑(5 : Nat) : Int) - (1 : Int) ∧ (↑(5 : Nat) : Int) - (1 : Int) ≤ (↑(5 : Nat) : Int) ∧ in64 ((↑(5 : Nat) : Int) - (1 : Int) - (1 : Int)) ∧ (0 : Int) ≤ (↑(5 : Nat) : Int) - (1 : Int) - (1 : Int) ∧ (↑(5 : Nat) : Int) - (1 : Int) - (1 : Int) ≤ (↑x_1.length : Int) ∧ in64 (x + (1 : Int)) ∧ I_3 (x + (1 : Int)) (List.take ((some ((↑(5 : Nat) : Int) - (1 : Int) - (1 : Int))).getD (↑x_1.length : Int) - none.getD (0 : Int)).toNat x_1) x_2 x_3 x_4 x_5 x_6 x_7 x_8 x_9 x_10 x_11 x_12 ((x_13 ++ [Comp.mk [] [] []]).set (↑x_13.length : Int).toNat (Comp.mk x_14 x_15 x_16)) ∧ m_3 (x + (1 : Int)) (List.take ((some ((↑(5 : Nat) : Int) - (1 : Int) - (1 : Int))).getD (↑x_1.length : Int) - none.getD (0 : Int)).toNat x_1) x_2 x_3 x_4 x_5 x_6 x_7 x_8 x_9 x_10 x_11 x_12 ((x_13 ++ [Comp.mk [] [] []]).set (↑x_13.length : Int).toNat (Comp.mk x_14 x_15 x_16)) < m_4 x x_1 x_2 x_3 x_4 x_5 x_6 x_7 x_8 x_9 x_10 x_11 x_12 x_13 x_14 x_15 x_16) ∧ in64 ((↑(5 : Nat) : Int) - (1 : Int) - (1 : Int)) ∧ in64 ((↑(5 : Nat) : Int) - (1 : Int) - (1 : Int)) ∧ ((0 : Int) ≤ (↑(5 : Nat) : Int) - (1 : Int) - (1 : Int) ∧ (↑(5 : Nat) : Int) - (1 : Int) - (1 : Int) < (↑(5 : Nat) : Int)) ∧ ((0 : Int) ≤ (↑(5 : Nat) : Int) - (1 : Int) ∧ (↑(5 : Nat) : Int) - (1 : Int) < (↑(5 : Nat) : Int)) ∧ (x_13.length + [Comp.mk x_14 x_15 x_16].length) * (some (64 : Nat)).getD (0 : Nat) ≤ (140737488355328 : Nat) ∧ ((0 : Int) ≤ (↑(5 : Nat) : Int) - (1 : Int) - (1 : Int) ∧ (↑(5 : Nat) : Int) - (1 : Int) - (1 : Int) < (↑(5 : Nat) : Int)) ∧ (0 : Int) ≤ (↑(5 : Nat) : Int) - (1 : Int) ∧ (↑(5 : Nat) : Int) - (1 : Int) ≤ (↑(5 : Nat) : Int) ∧ in64 ((↑(5 : Nat) : Int) - (1 : Int) - (1 : Int)) ∧ (0 : Int) ≤ (↑(5 : Nat) : Int) - (1 : Int) - (1 : Int) ∧ (↑(5 : Nat) : Int) - (1 : Int) - (1 : Int) ≤ (↑x_1.length : Int) ∧ in64 (x + (1 : Int)) ∧ I_3 (x + (1 : Int)) (List.take ((some ((↑(5 : Nat) : Int) - (1 : Int) - (1 : Int))).getD (↑x_1.length : Int) - none.getD (0 : Int)).toNat x_1) x_2 x_3 x_4 x_5 x_6 x_7 x_8 x_9 x_10 x_11 x_12 (x_13 ++ [Comp.mk x_14 x_15 x_16]) ∧ m_3 (x + (1 : Int)) (List.take ((some ((↑(5 : Nat) : Int) - (1 : Int) - (1 : Int))).getD (↑x_1.length : Int) - none.getD (0 : Int)).toNat x_1) x_2 x_3 x_4 x_5 x_6 x_7 x_8 x_9 x_10 x_11 x_12 (x_13 ++ [Comp.mk x_14 x_15 x_16]) < m_4 x x_1 x_2 x_3 x_4 x_5 x_6 x_7 x_8 x_9 x_10 x_11 x_12 x_13 x_14 x_15 x_16) ∧ (¬(ix (rowsR s).fst x).P.Name = sEND → ((0 : Int) ≤ (↑(5 : Nat) : Int) - (1 : Int) ∧ (↑(5 : Nat) : Int) - (1 : Int) < (↑(5 : Nat) : Int)) ∧ (x_15.length + [Prp.mk (ix (rowsR s).fst x).P.Group (ix (rowsR s).fst x).P.Name (ix (rowsR s).fst x).P.Params (ix (rowsR s).fst x).P.Value].length) * (some (72 : Nat)).getD (0 : Nat) ≤ (140737488355328 : Nat) ∧ ((0 : Int) ≤ (↑(5 : Nat) : Int) - (1 : Int) ∧ (↑(5 : Nat) : Int) - (1 : Int) < (↑(5 : Nat) : Int)) ∧ in64 (x + (1 : Int)) ∧ I_4 (x + (1 : Int)) x_1 x_2 x_3 x_4 x_5 x_6 x_7 x_8 x_9 x_10 x_11 x_12 x_13 x_14 (x_15 ++ [Prp.mk (ix (rowsR s).fst x).P.Group (ix (rowsR s).fst x).P.Name (ix (rowsR s).fst x).P.Params (ix (rowsR s).fst x).P.Value]) x_16 ∧ m_4 (x + (1 : Int)) x_1 x_2 x_3 x_4 x_5 x_6 x_7 x_8 x_9 x_10 x_11 x_12 x_13 x_14 (x_15 ++ [Prp.mk (ix (rowsR s).fst x).P.Group (ix (rowsR s).fst x).P.Name (ix (rowsR s).fst x).P.Params (ix (rowsR s).fst x).P.Value]) x_16 < m_4 x x_1 x_2 x_3 x_4 x_5 x_6 x_7 x_8 x_9 x_10 x_11 x_12 x_13 x_14 x_15 x_16))))) ∧ (¬x < (↑(rowsR s).fst.length : Int) → ((rowsR s).snd.fst ≠ (0 : Int) → Q [] (rowsR s).snd.fst (rowsR s).snd.snd) ∧ (¬(rowsR s).snd.fst ≠ (0 : Int) → ((0 : Int) < (↑x_1.length : Int) → in64 ((↑x_1.length : Int) - (1 : Int)) ∧ (0 : Int) ≤ (↑x_1.length : Int) - (1 : Int) ∧ (↑x_1.length : Int) - (1 : Int) < (↑x_1.length : Int) ∧ (in64 (ix x_1 ((↑x_1.length : Int) - (1 : Int))) → Q [] (11 : Int) (ix x_1 ((↑x_1.length : Int) - (1 : Int))))) ∧ (¬(0 : Int) < (↑x_1.length : Int) → (0 : Int) ≤ (0 : Int) ∧ (0 : Int) < (↑(5 : Nat) : Int) ∧ Q x_4 (0 : Int) (0 : Int))))) ∧ (∀ (x : Int) (x_1 : List Int) (x_2 : List UInt8) (x_3 : List Prp) (x_4 : List Comp) (x_5 : List UInt8) (x_6 : List Prp) (x_7 : List Comp) (x_8 : List UInt8) (x_9 : List Prp) (x_10 : List Comp) (x_11 : List UInt8) (x_12 : List Prp) (x_13 : List Comp) (x_14 : List UInt8) (x_15 : List Prp) (x_16 : List Comp) (x_17 : List UInt8) (x_18 : List Prp) (x_19 : List Comp), I_5 x x_1 x_2 x_3 x_4 x_5 x_6 x_7 x_8 x_9 x_10 x_11 x_12 x_13 x_14 x_15 x_16 x_17 x_18 x_19 → (x < (↑(rowsR s).fst.length : Int) → (0 : Int) ≤ x ∧ x < (↑(rowsR s).fst.length : Int) ∧ (in64 (ix (rowsR s).fst x).At → in64 ((↑(6 : Nat) : Int) - (1 : Int)) ∧ ((ix (rowsR s).fst x).P.Name = sBEGIN → List.length (ix (rowsR s).fst x).P.Value ≤ (100000 : Nat) ∧ (nameP (Prp.mk (ix (rowsR s).fst x).P.Group (ix (rowsR s).fst x).P.Name (ix (rowsR s).fst x).P.Params (ix (rowsR s).fst x).P.Value) = [] → (0 : Int) ≤ x ∧ x < (↑(rowsR s).fst.length : Int) ∧ (in64 (ix (rowsR s).fst x).At → Q [] (11 : Int) (ix (rowsR s).fst x).At)) ∧ (¬nameP (Prp.mk (ix (rowsR s).fst x).P.Group (ix (rowsR s).fst x).P.Name (ix (rowsR s).fst x).P.Params (ix (rowsR s).fst x).P.Value) = [] → List.length (ix (rowsR s).fst x).P.Value ≤ (100000 : Nat) ∧ ((6 : Nat) + (1 : Nat)) * (some (64 : Nat)).getD (0 : Nat) ≤ (140737488355328 : Nat) ∧ (0 : Int) ≤ x ∧ x < (↑(rowsR s).fst.length : Int) ∧ (in64 (ix (rowsR s).fst x).At → (x_1.length + [(ix (rowsR s).fst x).At].length) * (some (8 : Nat)).getD (0 : Nat) ≤ (140737488355328 : Nat) ∧ in64 ((↑((6 : Nat) + (1 : Nat)) : Int) - (1 : Int)) ∧ ((6 : Int) < (↑((6 : Nat) + (1 : Nat)) : Int) - (1 : Int) → (0 : Int) ≤ x ∧ x < (↑(rowsR s).fst.length : Int) ∧ (in64 (ix (rowsR s).fst x).At → Q [] (12 : Int) (ix (rowsR s).fst x).At)) ∧ (¬(6 : Int) < (↑((6 : Nat) + (1 : Nat)) : Int) - (1 : Int) → in64 (x + (1 : Int)) ∧ I_6 (x + (1 : Int)) (x_1 ++ [(ix (rowsR s).fst x).At]) x_2 x_3 x_4 x_5 x_6 x_7 x_8 x_9 x_10 x_11 x_12 x_13 x_14 x_15 x_16 x_17 x_18 x_19 (nameP (Prp.mk (ix (rowsR s).fst x).P.Group (ix (rowsR s).fst x).P.Name (ix (rowsR s).fst x).P.Params (ix (rowsR s).fst x).P.Value)) [] [] ∧ m_6 (x + (1 : Int)) (x_1 ++ [(ix (rowsR s).fst x).At]) x_2 x_3 x_4 x_5 x_6 x_7 x_8 x_9 x_10 x_11 x_12 x_13 x_14 x_15 x_16 x_17 x_18 x_19 (nameP (Prp.mk (ix (rowsR s).fst x).P.Group (ix (rowsR s).fst x).P.Name (ix (rowsR s).fst x).P.Params (ix (rowsR s).fst x).P.Value)) [] [] < m_5 x x_1 x_2 x_3 x_4 x_5 x_6 x_7 x_8 x_9 x_10 x_11 x_12 x_13 x_14 x_15 x_16 x_17 x_18 x_19)))) ∧ (¬(ix (rowsR s).fst x).P.Name = sBEGIN → (¬(↑(6 : Nat) : Int) - (1 : Int) = (0 : Int) ∧ (ix (rowsR s).fst x).P.Name = sEND → List.length (ix (rowsR s).fst x).P.Value ≤ (100000 : Nat)) ∧ ((¬(↑(6 : Nat) : Int) - (1 : Int) = (0 : Int) ∧ (ix (rowsR s).fst x).P.Name = sEND) ∧ ¬nameP (Prp.mk (ix (rowsR s).fst x).P.Group (ix (rowsR s).fst x).P.Name (ix (rowsR s).fst x).P.Params (ix (rowsR s).fst x).P.Value) = [] → List.length (ix (rowsR s).fst x).P.Value ≤ (100000 : Nat)) ∧ (((¬(↑(6 : Nat) : Int) - (1 : Int) = (0 : Int) ∧ (ix (rowsR s).fst x).P.Name = sEND) ∧ ¬nameP (Prp.mk (ix (rowsR s).fst x).P.Group (ix (rowsR s).fst x).P.Name (ix (rowsR s).fst x).P.Params (ix (rowsR s).fst x).P.Value) = [] → (0 : Int) ≤ (↑(6 : Nat) : Int) - (1 : Int)) ∧ ((¬(↑(6 : Nat) : Int) - (1 : Int) = (0 : Int) ∧ (ix (rowsR s).fst x).P.Name = sEND) ∧ ¬nameP (Prp.mk (ix (rowsR s).fst x).P.Group (ix (rowsR s).fst x).P.Name (ix (rowsR s).fst x).P.Params (ix (rowsR s).fst x).P.Value) = [] → (↑(6 : Nat) : Int) - (1 : Int) < (↑(6 : Nat) : Int))) ∧ ((↑(6 : Nat) : Int) - (1 : Int) = (0 : Int) ∨ (ix (rowsR s).fst x).P.Name = sEND ∧ (nameP (Prp.mk (ix (rowsR s).fst x).P.Group (ix (rowsR s).fst x).P.Name (ix (rowsR s).fst x).P.Params (ix (rowsR s).fst x).P.Value) = [] ∨ nameP (Prp.mk (ix (rowsR s).fst x).P.Group (ix (rowsR s).fst x).P.Name (ix (rowsR s).fst x).P.Params (ix (rowsR s).fst x).P.Value) ≠ x_17) → (0 : Int) ≤ x ∧ x < (↑(rowsR s).fst.length : Int) ∧ (in64 (ix (rowsR s).fst x).At → Q [] (11 : Int) (ix (rowsR s).fst x).At)) ∧ (¬((↑(6 : Nat) : Int) - (1 : Int) = (0 : Int) ∨ (ix (rowsR s).fst x).P.Name = sEND ∧ (nameP (Prp.mk (ix (rowsR s).fst x).P.Group (ix (rowsR s).fst x).P.Name (ix (rowsR s).fst x).P.Params (ix (rowsR s).fst x).P.Value) = [] ∨ nameP (Prp.mk (ix (rowsR s).fst x).P.Group (ix (rowsR s).fst x).P.Name (ix (rowsR s).fst x).P.Params (ix (rowsR s).fst x).P.Value) ≠ x_17)) → ((ix (rowsR s).fst x).P.Name = sEND → (in64 ((↑(6 : Nat) : Int) - (1 : Int) - (1 : Int)) ∧ in64 ((↑(6 : Nat) : Int) - (1 : Int) - (1 : Int)) ∧ ((0 : Int) ≤ (↑(6 : Nat) : Int) - (1 : Int) - (1 : Int) ∧ (↑(6 : Nat) : Int) - (1 : Int) - (1 : Int) < (↑(6 : Nat) : Int)) ∧ ((0 : Int) ≤ (↑(6 : Nat) : Int) - (1 : Int) ∧ (↑(6 : Nat) : Int) - (1 : Int) < (↑(6 : Nat) : Int)) ∧ (x_16.length + [Comp.mk [] [] []].length) * (some (64 : Nat)).getD (0 : Nat) ≤ (140737488355328 : Nat) ∧ ((0 : Int) ≤ (↑(6 : Nat) : Int) - (1 : Int) - (1 : Int) ∧ (↑(6 : Nat) : Int) - (1 : Int) - (1 : Int) < (↑(6 : Nat) : Int)) ∧ (0 : Int) ≤ (↑x_16.length : Int) ∧ (↑x_16.length : Int) < (↑(x_16 ++ [Comp.mk [] [] []]).length : Int) ∧ (0 : Int) ≤ (↑(6 : Nat) : Int) - (1 : Int) ∧ (↑(6 : Nat) : Int) - (1 : Int) ≤ (↑(6 : Nat) : Int) ∧ in64 ((↑(6 : Nat) : Int) - (1 : Int) - (1 : Int)) ∧ (0 : Int) ≤ (↑(6 : Nat) : Int) - (1 : Int) - (1 : Int) ∧ (↑(6 : Nat) : Int) - (1 : Int) - (1 : Int) ≤ (↑x_1.length : Int) ∧ in64 (x + (1 : Int)) ∧ I_4 (x + (1 : Int)) (List.take ((some ((↑(6 : Nat) : Int) - (1 : Int) - (1 : Int))).getD (↑x_1.length : Int) - none.getD (0 : Int)).toNat x_1) x_2 x_3 x_4 x_5 x_6 x_7 x_8 x_9 x_10 x_11 x_12 x_13 x_14 x_15 ((x_16 ++ [Comp.mk [] [] []]).set (↑x_16.length : Int).toNat (Comp.mk x_17 x_18 x_19)) ∧ m_4 (x + (1 : Int)) (List.take ((some ((↑(6 : Nat) : Int) - (1 : Int) - (1 : Int))).getD (↑x_1.length : Int) - none.getD (0 : Int)).toNat x_1) x_2 x_3 x_4 x_5 x_6 x_7 x_8 x_9 x_10 x_11 x_12 x_13 x_14 x_15 ((x_16 ++ [Comp.mk [] [] []]).set (↑x_16.length : Int).toNat (Comp.mk x_17 x_18 x_19)) < m_5 x x_1 x_2 x_3 x_4 x_5 x_6 x_7 x_8 x_9 x_10 x_11 x_12 x_13 x_14 x_15 x_16 x_17 x_18 x_19) ∧ in64 ((↑(6 : Nat) : Int) - (1 : Int) - (1 : Int)) ∧ in64 ((↑(6 : Nat) : Int) - (1 : Int) - (1 : Int)) ∧ ((0 : Int) ≤ (↑(6 : Nat) : Int) - (1 : Int) - (1 : Int) ∧ (↑(6 : Nat) : Int) - (1 : Int) - (1 : Int) < (↑(6 : Nat) : Int)) ∧ ((0 : Int) ≤ (↑(6 : Nat) : Int) - (1 : Int) ∧ (↑(6 : Nat) : Int) - (1 : Int) < (↑(6 : Nat) : Int)) ∧ (x_16.length + [Comp.mk x_17 x_18 x_19].length) * (some (64 : Nat)).getD (0 : Nat) ≤ (140737488355328 : Nat) ∧ ((0 : Int) ≤ (↑(6 : Nat) : Int) - (1 : Int) - (1 : Int) ∧ (↑(6 : Nat) : Int) - (1 : Int) - (1 : Int) < (↑(6 : Nat) : Int)) ∧ (0 : Int) ≤ (↑(6 : Nat) : Int) - (1 : Int) ∧ (↑(6 : Nat) : Int) - (1 : Int) ≤ (↑(6 : Nat) : Int) ∧ in64 ((↑(6 : Nat) : Int) - (1 : Int) - (1 : Int)) ∧ (0 : Int) ≤ (↑(6 : Nat) : Int) - (1 : Int) - (1 : Int) ∧ (↑(6 : Nat) : Int) - (1 : Int) - (1 : Int) ≤ (↑x_1.length : Int) ∧ in64 (x + (1 : Int)) ∧ I_4 (x + (1 : Int)) (List.take ((some ((↑(6 : Nat) : Int) - (1 : Int) - (1 : Int))).getD (↑x_1.length : Int) - none.getD (0 : Int)).toNat x_1) x_2 x_3 x_4 x_5 x_6 x_7 x_8 x_9 x_10 x_11 x_12 x_13 x_14 x_15 (x_16 ++ [Comp.mk x_17 x_18 x_19]) ∧ m_4 (x + (1 : Int)) (List.take ((some ((↑(6 : Nat) : Int) - (1 : Int) - (1 : Int))).getD (↑x_1.length : Int) - none.getD (0 : Int)).toNat x_1) x_2 x_3 x_4 x_5 x_6 x_7 x_8 x_9 x_10 x_11 x_12 x_13 x_14 x_15 (x_16 ++ [Comp.mk x_17 x_18 x_19]) < m_5 x x_1 x_2 x_3 x_4 x_5 x_6 x_7 x_8 x_9 x_10 x_11 x_12 x_13 x_14 x_15 x_16 x_17 x_18 x_19) ∧ (¬(ix (rowsR s).fst x).P.Name = sEND → ((0 : Int) ≤ (↑(6 : Nat) : Int) - (1 : Int) ∧ (↑(6 : Nat) : Int) - (1 : Int) < (↑(6 : Nat) : Int)) ∧ (x_18.length + [Prp.mk (ix (rowsR s).fst x).P.Group (ix (rowsR s).fst x).P.Name (ix (rowsR s).fst x).P.Params (ix (rowsR s).fst x).P.Value].length) * (some (72 : Nat)).getD (0 : Nat) ≤ (140737488355328 : Nat) ∧ ((0 : Int) ≤ (↑(6 : Nat) : Int) - (1 : Int) ∧ (↑(6 : Nat) : Int) - (1 : Int) < (↑(6 : Nat) : Int)) ∧ in64 (x + (1 : Int)) ∧ I_5 (x + (1 : Int)) x_1 x_2 x_3 x_4 x_5 x_6 x_7 x_8 x_9 x_10 x_11 x_12 x_13 x_14 x_15 x_16 x_17 (x_18 ++ [Prp.mk (ix (rowsR s).fst x).P.Group (ix (rowsR s).fst x).P.Name (ix (rowsR s).fst x).P.Params (ix (rowsR s).fst x).P.Value]) x_19 ∧ m_5 (x + (1 : Int)) x_1 x_2 x_3 x_4 x_5 x_6 x_7 x_8 x_9 x_10 x_11 x_12 x_13 x_14 x_15 x_16 x_17 (x_18 ++ [Prp.mk (ix (rowsR s).fst x).P.Group (ix (rowsR s).fst x).P.Name (ix (rowsR s).fst x).P.Params (ix (rowsR s).fst x).P.Value]) x_19 < m_5 x x_1 x_2 x_3 x_4 x_5 x_6 x_7 x_8 x_9 x_10 x_11 x_12 x_13 x_14 x_15 x_16 x_17 x_18 x_19))))) ∧ (¬x < (↑(rowsR s).fst.length : Int) → ((rowsR s).snd.fst ≠ (0 : Int) → Q [] (rowsR s).snd.fst (rowsR s).snd.snd) ∧ (¬(rowsR s).snd.fst ≠ (0 : Int) → ((0 : Int) < (↑x_1.length : Int) → in64 ((↑x_1.length : Int) - (1 : Int)) ∧ (0 : Int) ≤ (↑x_1.length : Int) - (1 : Int) ∧ (↑x_1.length : Int) - (1 : Int) < (↑x_1.length : Int) ∧ (in64 (ix x_1 ((↑x_1.length : Int) - (1 : Int))) → Q [] (11 : Int) (ix x_1 ((↑x_1.length : Int) - (1 : Int))))) ∧ (¬(0 : Int) < (↑x_1.length : Int) → (0 : Int) ≤ (0 : Int) ∧ (0 : Int) < (↑(6 : Nat) : Int) ∧ Q x_4 (0 : Int) (0 : Int))))) ∧ (∀ (x : Int) (x_1 : List Int) (x_2 : List UInt8) (x_3 : List Prp) (x_4 : List Comp) (x_5 : List UInt8) (x_6 : List Prp) (x_7 : List Comp) (x_8 : List UInt8) (x_9 : List Prp) (x_10 : List Comp) (x_11 : List UInt8) (x_12 : List Prp) (x_13 : List Comp) (x_14 : List UInt8) (x_15 : List Prp) (x_16 : List Comp) (x_17 : List UInt8) (x_18 : List Prp) (x_19 : List Comp) (x_20 : List UInt8) (x_21 : List Prp) (x_22 : List Comp), I_6 x x_1 x_2 x_3 x_4 x_5 x_6 x_7 x_8 x_9 x_10 x_11 x_12 x_13 x_14 x_15 x_16 x_17 x_18 x_19 x_20 x_21 x_22 → (x < (↑(rowsR s).fst.length : Int) → (0 : Int) ≤ x ∧ x < (↑(rowsR s).fst.length : Int) ∧ (in64 (ix (rowsR s).fst x).At → in64 ((↑(7 : Nat) : Int) - (1 : Int)) ∧ ((ix (rowsR s).fst x).P.Name = sBEGIN → List.length (ix (rowsR s).fst x).P.Value ≤ (100000 : Nat) ∧ (nameP (Prp.mk (ix (rowsR s).fst x).P.Group (ix (rowsR s).fst x).P.Name (ix (rowsR s).fst x).P.Params (ix (rowsR s).fst x).P.Value) = [] → (0 : Int) ≤ x ∧ x < (↑(rowsR s).fst.length : Int) ∧ (in64 (ix (rowsR s).fst x).At → Q [] (11 : Int) (ix (rowsR s).fst x).At)) ∧ (¬nameP (Prp.mk (ix (rowsR s).fst x).P.Group (ix (rowsR s).fst x).P.Name (ix (rowsR s).fst x).P.Params (ix (rowsR s).fst x).P.Value) = [] → List.length (ix (rowsR s).fst x).P.Value ≤ (100000 : Nat) ∧ ((7 : Nat) + (1 : Nat)) * (some (64 : Nat)).getD (0 : Nat) ≤ (140737488355328 : Nat) ∧ (0 : Int) ≤ x ∧ x < (↑(rowsR s).fst.length : Int) ∧ (in64 (ix (rowsR s).fst x).At → (x_1.length + [(ix (rowsR s).fst x).At].length) * (some (8 : Nat)).getD (0 : Nat) ≤ (140737488355328 : Nat) ∧ in64 ((↑((7 : Nat) + (1 : Nat)) : Int) - (1 : Int)) ∧ ((6 : Int) < (↑((7 : Nat) + (1 : Nat)) : Int) - (1 : Int) → (0 : Int) ≤ x ∧ x < (↑(rowsR s).fst.length : Int) ∧ (in64 (ix (rowsR s).fst x).At → Q [] (12 : Int) (ix (rowsR s).fst x).At)) ∧ (¬(6 : Int) < (↑((7 : Nat) + (1 : Nat)) : Int) - (1 : Int) → in64 (x + (1 : Int)) ∧ False)))) ∧ (¬(ix (rowsR s).fst x).P.Name = sBEGIN → (¬(↑(7 : Nat) : Int) - (1 : Int) = (0 : Int) ∧ (ix (rowsR s).fst x).P.Name = sEND → List.length (ix (rowsR s).fst x).P.Value ≤ (100000 : Nat)) ∧ ((¬(↑(7 : Nat) : Int) - (1 : Int) = (0 : Int) ∧ (ix (rowsR s).fst x).P.Name = sEND) ∧ ¬nameP (Prp.mk (ix (rowsR s).fst x).P.Group (ix (rowsR s).fst x).P.Name (ix (rowsR s).fst x).P.Params (ix (rowsR s).fst x).P.Value) = [] → List.length (ix (rowsR s).fst x).P.Value ≤ (100000 : Nat)) ∧ (((¬(↑(7 : Nat) : Int) - (1 : Int) = (0 : Int) ∧ (ix (rowsR s).fst x).P.Name = sEND) ∧ ¬nameP (Prp.mk (ix (rowsR s).fst x).P.Group (ix (rowsR s).fst x).P.Name (ix (rowsR s).fst x).P.Params (ix (rowsR s).fst x).P.Value) = [] → (0 : Int) ≤ (↑(7 : Nat) : Int) - (1 : Int)) ∧ ((¬(↑(7 : Nat) : Int) - (1 : Int) = (0 : Int) ∧ (ix (rowsR s).fst x).P.Name = sEND) ∧ ¬nameP (Prp.mk (ix (rowsR s).fst x).P.Group (ix (rowsR s).fst x).P.Name (ix (rowsR s).fst x).P.Params (ix (rowsR s).fst x).P.Value) = [] → (↑(7 : Nat) : Int) - (1 : Int) < (↑(7 : Nat) : Int))) ∧ ((↑(7 : Nat) : Int) - (1 : Int) = (0 : Int) ∨ (ix (rowsR s).fst x).P.Name = sEND ∧ (nameP (Prp.mk (ix (rowsR s).fst x).P.Group (ix (rowsR s).fst x).P.Name (ix (rowsR s).fst x).P.Params (ix (rowsR s).fst x).P.Value) = [] ∨ nameP (Prp.mk (ix (rowsR s).fst x).P.Group (ix (rowsR s).fst x).P.Name (ix (rowsR s).fst x).P.Params (ix (rowsR s).fst x).P.Value) ≠ x_20) → (0 : Int) ≤ x ∧ x < (↑(rowsR s).fst.length : Int) ∧ (in64 (ix (rowsR s).fst x).At → Q [] (11 : Int) (ix (rowsR s).fst x).At)) ∧ (¬((↑(7 : Nat) : Int) - (1 : Int) = (0 : Int) ∨ (ix (rowsR s).fst x).P.Name = sEND ∧ (nameP (Prp.mk (ix (rowsR s).fst x).P.Group (ix (rowsR s).fst x).P.Name (ix (rowsR s).fst x).P.Params (ix (rowsR s).fst x).P.Value) = [] ∨ nameP (Prp.mk (ix (rowsR s).fst x).P.Group (ix (rowsR s).fst x).P.Name (ix (rowsR s).fst x).P.Params (ix (rowsR s).fst x).P.Value) ≠ x_20)) → ((ix (rowsR s).fst x).P.Name = sEND → (in64 ((↑(7 : Nat) : Int) - (1 : Int) - (1 : Int)) ∧ in64 ((↑(7 : Nat) : Int) - (1 : Int) - (1 : Int)) ∧ ((0 : Int) ≤ (↑(7 : Nat) : Int) - (1 : Int) - (1 : Int) ∧ (↑(7 : Nat) : Int) - (1 : Int) - (1 : Int) < (↑(7 : Nat) : Int)) ∧ ((0 : Int) ≤ (↑(7 : Nat) : Int) - (1 : Int) ∧ (↑(7 : Nat) : Int) - (1 : Int) < (↑(7 : Nat) : Int)) ∧ (x_19.length + [Comp.mk [] [] []].length) * (some (64 : Nat)).getD (0 : Nat) ≤ (140737488355328 : Nat) ∧ ((0 : Int) ≤ (↑(7 : Nat) : Int) - (1 : Int) - (1 : Int) ∧ (↑(7 : Nat) : Int) - (1 : Int) - (1 : Int) < (↑(7 : Nat) : Int)) ∧ (0 : Int) ≤ (↑x_19.length : Int) ∧ (↑x_19.length : Int) < (↑(x_19 ++ [Comp.mk [] [] []]).length : Int) ∧ (0 : Int) ≤ (↑(7 : Nat) : Int) - (1 : Int) ∧ (↑(7 : Nat) : Int) - (1 : Int) ≤ (↑(7 : Nat) : Int) ∧ in64 ((↑(7 : Nat) : Int) - (1 : Int) - (1 : Int)) ∧ (0 : Int) ≤ (↑(7 : Nat) : Int) - (1 : Int) - (1 : Int) ∧ (↑(7 : Nat) : Int) - (1 : Int) - (1 : Int) ≤ (↑x_1.length : Int) ∧ in64 (x + (1 : Int)) ∧ I_5 (x + (1 : Int)) (List.take ((some ((↑(7 : Nat) : Int) - (1 : Int) - (1 : Int))).getD (↑x_1.length : Int) - none.getD (0 : Int)).toNat x_1) x_2 x_3 x_4 x_5 x_6 x_7 x_8 x_9 x_10 x_11 x_12 x_13 x_14 x_15 x_16 x_17 x_18 ((x_19 ++ [Comp.mk [] [] []]).set (↑x_19.length : Int).toNat (Comp.mk x_20 x_21 x_22)) ∧ m_5 (x + (1 : Int)) (List.take ((some ((↑(7 : Nat) : Int) - (1 : Int) - (1 : Int))).getD (↑x_1.length : Int) - none.getD (0 : Int)).toNat x_1) x_2 x_3 x_4 x_5 x_6 x_7 x_8 x_9 x_10 x_11 x_12 x_13 x_14 x_15 x_16 x_17 x_18 ((x_19 ++ [Comp.mk [] [] []]).set (↑x_19.length : Int).toNat (Comp.mk x_20 x_21 x_22)) < m_6 x x_1 x_2 x_3 x_4 x_5 x_6 x_7 x_8 x_9 x_10 x_11 x_12 x_13 x_14 x_15 x_16 x_17 x_18 x_19 x_20 x_21 x_22) ∧ in64 ((↑(7 : Nat) : Int) - (1 : Int) - (1 : Int)) ∧ in64 ((↑(7 : Nat) : Int) - (1 : Int) - (1 : Int)) ∧ ((0 : Int) ≤ (↑(7 : Nat) : Int) - (1 : Int) - (1 : Int) ∧ (↑(7 : Nat) : Int) - (1 : Int) - (1 : Int) < (↑(7 : Nat) : Int)) ∧ ((0 : Int) ≤ (↑(7 : Nat) : Int) - (1 : Int) ∧ (↑(7 : Nat) : Int) - (1 : Int) < (↑(7 : Nat) : Int)) ∧ (x_19.length + [Comp.mk x_20 x_21 x_22].length) * (some (64 : Nat)).getD (0 : Nat) ≤ (140737488355328 : Nat) ∧ ((0 : Int) ≤ (↑(7 : Nat) : Int) - (1 : Int) - (1 : Int) ∧ (↑(7 : Nat) : Int) - (1 : Int) - (1 : Int) < (↑(7 : Nat) : Int)) ∧ (0 : Int) ≤ (↑(7 : Nat) : Int) - (1 : Int) ∧ (↑(7 : Nat) : Int) - (1 : Int) ≤ (↑(7 : Nat) : Int) ∧ in64 ((↑(7 : Nat) : Int) - (1 : Int) - (1 : Int)) ∧ (0 : Int) ≤ (↑(7 : Nat) : Int) - (1 : Int) - (1 : Int) ∧ (↑(7 : Nat) : Int) - (1 : Int) - (1 : Int) ≤ (↑x_1.length : Int) ∧ in64 (x + (1 : Int)) ∧ I_5 (x + (1 : Int)) (List.take ((some ((↑(7 : Nat) : Int) - (1 : Int) - (1 : Int))).getD (↑x_1.length : Int) - none.getD (0 : Int)).toNat x_1) x_2 x_3 x_4 x_5 x_6 x_7 x_8 x_9 x_10 x_11 x_12 x_13 x_14 x_15 x_16 x_17 x_18 (x_19 ++ [Comp.mk x_20 x_21 x_22]) ∧ m_5 (x + (1 : Int)) (List.take ((some ((↑(7 : Nat) : Int) - (1 : Int) - (1 : Int))).getD (↑x_1.length : Int) - none.getD (0 : Int)).toNat x_1) x_2 x_3 x_4 x_5 x_6 x_7 x_8 x_9 x_10 x_11 x_12 x_13 x_14 x_15 x_16 x_17 x_18 (x_19 ++ [Comp.mk x_20 x_21 x_22]) < m_6 x x_1 x_2 x_3 x_4 x_5 x_6 x_7 x_8 x_9 x_10 x_11 x_12 x_13 x_14 x_15 x_16 x_17 x_18 x_19 x_20 x_21 x_22) ∧ (¬(ix (rowsR s).fst x).P.Name = sEND → ((0 : Int) ≤ (↑(7 : Nat) : Int) - (1 : Int) ∧ (↑(7 : Nat) : Int) - (1 : Int) < (↑(7 : Nat) : Int)) ∧ (x_21.length + [Prp.mk (ix (rowsR s).fst x).P.Group (ix (rowsR s).fst x).P.Name (ix (rowsR s).fst x).P.Params (ix (rowsR s).fst x).P.Value].length) * (some (72 : Nat)).getD (0 : Nat) ≤ (140737488355328 : Nat) ∧ ((0 : Int) ≤ (↑(7 : Nat) : Int) - (1 : Int) ∧ (↑(7 : Nat) : Int) - (1 : Int) < (↑(7 : Nat) : Int)) ∧ in64 (x + (1 : Int)) ∧ I_6 (x + (1 : Int)) x_1 x_2 x_3 x_4 x_5 x_6 x_7 x_8 x_9 x_10 x_11 x_12 x_13 x_14 x_15 x_16 x_17 x_18 x_19 x_20 (x_21 ++ [Prp.mk (ix (rowsR s).fst x).P.Group (ix (rowsR s).fst x).P.Name (ix (rowsR s).fst x).P.Params (ix (rowsR s).fst x).P.Value]) x_22 ∧ m_6 (x + (1 : Int)) x_1 x_2 x_3 x_4 x_5 x_6 x_7 x_8 x_9 x_10 x_11 x_12 x_13 x_14 x_15 x_16 x_17 x_18 x_19 x_20 (x_21 ++ [Prp.mk (ix (rowsR s).fst x).P.Group (ix (rowsR s).fst x).P.Name (ix (rowsR s).fst x).P.Params (ix (rowsR s).fst x).P.Value]) x_22 < m_6 x x_1 x_2 x_3 x_4 x_5 x_6 x_7 x_8 x_9 x_10 x_11 x_12 x_13 x_14 x_15 x_16 x_17 x_18 x_19 x_20 x_21 x_22))))) ∧ (¬x < (↑(rowsR s).fst.length : Int) → ((rowsR s).snd.fst ≠ (0 : Int) → Q [] (rowsR s).snd.fst (rowsR s).snd.snd) ∧ (¬(rowsR s).snd.fst ≠ (0 : Int) → ((0 : Int) < (↑x_1.length : Int) → in64 ((↑x_1.length : Int) - (1 : Int)) ∧ (0 : Int) ≤ (↑x_1.length : Int) - (1 : Int) ∧ (↑x_1.length : Int) - (1 : Int) < (↑x_1.length : Int) ∧ (in64 (ix x_1 ((↑x_1.length : Int) - (1 : Int))) → Q [] (11 : Int) (ix x_1 ((↑x_1.length : Int) - (1 : Int))))) ∧ (¬(0 : Int) < (↑x_1.length : Int) → (0 : Int) ≤ (0 : Int) ∧ (0 : Int) < (↑(7 : Nat) : Int) ∧ Q x_4 (0 : Int) (0 : Int))))) ∧ True)
set_option maxRecDepth 100000 in
theorem V40_ok {s : Str} {Q : List Comp → Int → Int → Prop} (h : V40 s Q) : vcFun (E := EWr) (inlN an40 2) (an40 40) Tryd.f40 [.str s] [] [] 0 (resP EWr [.acc 68, .int .i64, .int .i64] Q) := Eq.mp (show V40 s Q = vcFun (E := EWr) (inlN an40 2) (an40 40) Tryd.f40 [.str s] [] [] 0 (resP EWr [.acc 68, .int .i64, .int .i64] Q) by kernel_rfl) h
theorem p40 (s : Str) (hs : s.length ≤ 100000) : V40 s (fun y0 y1 y2 => y0 = (cR (compS s)).1 ∧ y1 = (cR (compS s)).2.1 ∧ y2 = (cR (compS s)).2.2) := by
  unfold V40
  obtain ⟨hr1, hr2⟩ := rows_short s
  have hR := compS_rows s
  refine ⟨hs, fun he => ?_, fun _ => ?_⟩
  · have e0 : (rowsR s).1 = [] := List.eq_nil_of_length_eq_zero (by omega)
    rw [hR, e0, goR]
    unfold finR
    rw [if_pos he.1]
    exact ⟨rfl, rfl, rfl⟩
  have h0 : InvR (rowsR s).1 (rowsR s).2.1 (rowsR s).2.2 (compS s) 0 [] [] := ⟨⟨by omega, by omega, by simp, fun f hf => by cases hf⟩, hR⟩
  have in1 : ∀ {x : Int} {out : List Comp} {st : List Co.Frm}, InvR (rowsR s).1 (rowsR s).2.1 (rowsR s).2.2 (compS s) x out st → x < (rowsR s).1.length → in64 (x + 1) := fun h hx => by have := h.1; exact ⟨by omega, by omega⟩
  have bd : ∀ {x : Int} {α : Type} (l : List α) (z : α) (m : Nat), (l.length : Int) ≤ x → x < (rowsR s).1.length → m ≤ 1000 → (l.length + [z].length) * m ≤ 140737488355328 := fun l z m h1 h2 h3 => by
    have e1 : l.length + [z].length ≤ 1001 := by simp only [List.length_cons, List.length_nil]; omega
    have := Nat.mul_le_mul e1 h3; omega
  refine ⟨fun x b n0 p0 c0 => b = [] ∧ InvR (rowsR s).1 (rowsR s).2.1 (rowsR s).2.2 (compS s) x c0 [], fun x _ _ _ _ => (((rowsR s).1.length : Int) - x).toNat, fun x b n0 p0 c0 n1 p1 c1 => ∃ a1 : Int, b = [a1] ∧ InvR (rowsR s).1 (rowsR s).2.1 (rowsR s).2.2 (compS s) x c0 [(.mk n1 p1 c1, a1)], fun x _ _ _ _ _ _ _ => (((rowsR s).1.length : Int) - x).toNat, fun x b n0 p0 c0 n1 p1 c1 n2 p2 c2 => ∃ a1 a2 : Int, b = [a1, a2] ∧ InvR (rowsR s).1 (rowsR s).2.1 (rowsR s).2.2 (compS s) x c0 [(.mk n2 p2 c2, a2), (.mk n1 p1 c1, a1)], fun x _ _ _ _ _ _ _ _ _ _ => (((rowsR s).1.length : Int) - x).toNat, fun x b n0 p0 c0 n1 p1 c1 n2 p2 c2 n3 p3 c3 => ∃ a1 a2 a3 : Int, b = [a1, a2, a3] ∧ InvR (rowsR s).1 (rowsR s).2.1 (rowsR s).2.2 (compS s) x c0 [(.mk n3 p3 c3, a3), (.mk n2 p2 c2, a2), (.mk n1 p1 c1, a1)], fun x _ _ _ _ _ _ _ _ _ _ _ _ _ => (((rowsR s).1.length : Int) - x).toNat, fun x b n0 p0 c0 n1 p1 c1 n2 p2 c2 n3 p3 c3 n4 p4 c4 => ∃ a1 a2 a3 a4 : Int, b = [a1, a2, a3, a4] ∧ InvR (rowsR s).1 (rowsR s).2.1 (rowsR s).2.2 (compS s) x c0 [(.mk n4 p4 c4, a4), (.mk n3 p3 c3, a3), (.mk n2 p2 c2, a2), (.mk n1 p1 c1, a1)], fun x _ _ _ _ _ _ _ _ _ _ _ _ _ _ _ _ => (((rowsR s).1.length : Int) - x).toNat, fun x b n0 p0 c0 n1 p1 c1 n2 p2 c2 n3 p3 c3 n4 p4 c4 n5 p5 c5 => ∃ a1 a2 a3 a4 a5 : Int, b = [a1, a2, a3, a4, a5] ∧ InvR (rowsR s).1 (rowsR s).2.1 (rowsR s).2.2 (compS s) x c0 [(.mk n5 p5 c5, a5), (.mk n4 p4 c4, a4), (.mk n3 p3 c3, a3), (.mk n2 p2 c2, a2), (.mk n1 p1 c1, a1)], fun x _ _ _ _ _ _ _ _ _ _ _ _ _ _ _ _ _ _ _ => (((rowsR s).1.length : Int) - x).toNat, fun x b n0 p0 c0 n1 p1 c1 n2 p2 c2 n3 p3 c3 n4 p4 c4 n5 p5 c5 n6 p6 c6 => ∃ a1 a2 a3 a4 a5 a6 : Int, b = [a1, a2, a3, a4, a5, a6] ∧ InvR (rowsR s).1 (rowsR s).2.1 (rowsR s).2.2 (compS s) x c0 [(.mk n6 p6 c6, a6), (.mk n5 p5 c5, a5), (.mk n4 p4 c4, a4), (.mk n3 p3 c3, a3), (.mk n2 p2 c2, a2), (.mk n1 p1 c1, a1)], fun x _ _ _ _ _ _ _ _ _ _ _ _ _ _ _ _ _ _ _ _ _ _ => (((rowsR s).1.length : Int) - x).toNat, ⟨rfl, h0⟩, ?_, ?_, ?_, ?_, ?_, ?_, ?_, trivial⟩
  · intro x b n0 p0 c0 h
    obtain ⟨rfl, h⟩ := h
    refine ⟨fun hx => ?_, fun hx => ⟨fun he => h.finE hx he, fun he => ⟨fun hh => absurd hh (by simp), fun _ => ⟨by omega, by omega, h.fin0 hx he⟩⟩⟩⟩
    have vl := Nat.le_trans (hr2 _ (ix_mem h.1.1 hx)).value (show 5000 ≤ 100000 by decide)
    have hl := h.less hx
    exact ⟨h.1.1, hx, fun _ => ⟨⟨by omega, by omega⟩, fun hB => ⟨vl, fun hn => ⟨h.1.1, hx, fun _ => h.begE hx hB hn⟩, fun hn => ⟨vl, by simp only [Option.getD_some]; omega, h.1.1, hx, fun _ => ⟨by simp only [Option.getD_some, List.length_cons, List.length_nil]; omega, ⟨by omega, by omega⟩, fun h6 => absurd h6 (by omega), fun _ => ⟨in1 h hx, ⟨_, rfl, h.beg hx hB hn (show 0 < 6 by decide)⟩, hl⟩⟩⟩⟩, fun hB => ⟨fun _ => vl, fun _ => vl, ⟨fun _ => by omega, fun _ => by omega⟩, fun hc => ⟨h.1.1, hx, fun _ => h.none hx hB⟩, fun hc => absurd (Or.inl (by omega)) hc⟩⟩⟩
  · intro x b n0 p0 c0 n1 p1 c1 h
    obtain ⟨a1, rfl, h⟩ := h
    refine ⟨fun hx => ?_, fun hx => ⟨fun he => h.finE hx he, fun he => ⟨fun _ => ⟨⟨by simp only [List.length_cons, List.length_nil]; omega, by simp only [List.length_cons, List.length_nil]; omega⟩, by simp only [List.length_cons, List.length_nil]; omega, by omega, fun _ => h.fin hx he⟩, fun hh => absurd (by simp only [List.length_cons, List.length_nil]; omega) hh⟩⟩⟩
    have vl := Nat.le_trans (hr2 _ (ix_mem h.1.1 hx)).value (show 5000 ≤ 100000 by decide)
    have hl := h.less hx
    have h1 := h.1.2.2.2 _ (List.mem_cons_self ..)
    exact ⟨h.1.1, hx, fun _ => ⟨⟨by omega, by omega⟩, fun hB => ⟨vl, fun hn => ⟨h.1.1, hx, fun _ => h.begE hx hB hn⟩, fun hn => ⟨vl, by simp only [Option.getD_some]; omega, h.1.1, hx, fun _ => ⟨by simp only [Option.getD_some, List.length_cons, List.length_nil]; omega, ⟨by omega, by omega⟩, fun h6 => absurd h6 (by omega), fun _ => ⟨in1 h hx, ⟨a1, _, rfl, h.beg hx hB hn (show 1 < 6 by decide)⟩, hl⟩⟩⟩⟩, fun hB => ⟨fun _ => vl, fun _ => vl, ⟨fun _ => by omega, fun _ => by omega⟩, fun hc => ⟨h.1.1, hx, fun _ => hc.elim (fun h0 => absurd h0 (by omega)) fun hE => h.endE hx hB hE⟩, fun hc => ⟨fun hE => ⟨⟨⟨by omega, by omega⟩, ⟨by omega, by omega⟩, ⟨by omega, by omega⟩, ⟨by omega, by omega⟩, bd c0 _ 64 h.1.2.2.1 hx (by decide), ⟨by omega, by omega⟩, by omega, by simp only [List.length_append, List.length_cons, List.length_nil]; omega, by omega, by omega, ⟨by omega, by omega⟩, by omega, by simp only [List.length_cons, List.length_nil]; omega, in1 h hx, ⟨rfl, h.pop1 hx hB hE (fun hh => hc (.inr ⟨hE, hh⟩))⟩, hl⟩, ⟨by omega, by omega⟩, ⟨by omega, by omega⟩, ⟨by omega, by omega⟩, ⟨by omega, by omega⟩, bd c0 _ 64 h.1.2.2.1 hx (by decide), ⟨by omega, by omega⟩, by omega, by omega, ⟨by omega, by omega⟩, by omega, by simp only [List.length_cons, List.length_nil]; omega, in1 h hx, ⟨rfl, h.pap1 hx hB hE (fun hh => hc (.inr ⟨hE, hh⟩))⟩, hl⟩, fun hE => ⟨⟨by omega, by omega⟩, bd p1 _ 72 h1.1 hx (by decide), ⟨by omega, by omega⟩, in1 h hx, ⟨a1, rfl, h.prop hx hB hE⟩, hl⟩⟩⟩⟩⟩
  · intro x b n0 p0 c0 n1 p1 c1 n2 p2 c2 h
    obtain ⟨a1, a2, rfl, h⟩ := h
    refine ⟨fun hx => ?_, fun hx => ⟨fun he => h.finE hx he, fun he => ⟨fun _ => ⟨⟨by simp only [List.length_cons, List.length_nil]; omega, by simp only [List.length_cons, List.length_nil]; omega⟩, by simp only [List.length_cons, List.length_nil]; omega, by omega, fun _ => h.fin hx he⟩, fun hh => absurd (by simp only [List.length_cons, List.length_nil]; omega) hh⟩⟩⟩
    have vl := Nat.le_trans (hr2 _ (ix_mem h.1.1 hx)).value (show 5000 ≤ 100000 by decide)
    have hl := h.less hx
    have h1 := h.1.2.2.2 _ (List.mem_cons_self ..)
    have h2 := h.1.2.2.2 _ (List.mem_cons_of_mem _ (List.mem_cons_self ..))
    exact ⟨h.1.1, hx, fun _ => ⟨⟨by omega, by omega⟩, fun hB => ⟨vl, fun hn => ⟨h.1.1, hx, fun _ => h.begE hx hB hn⟩, fun hn => ⟨vl, by simp only [Option.getD_some]; omega, h.1.1, hx, fun _ => ⟨by simp only [Option.getD_some, List.length_cons, List.length_nil]; omega, ⟨by omega, by omega⟩, fun h6 => absurd h6 (by omega), fun _ => ⟨in1 h hx, ⟨a1, a2, _, rfl, h.beg hx hB hn (show 2 < 6 by decide)⟩, hl⟩⟩⟩⟩, fun hB => ⟨fun _ => vl, fun _ => vl, ⟨fun _ => by omega, fun _ => by omega⟩, fun hc => ⟨h.1.1, hx, fun _ => hc.elim (fun h0 => absurd h0 (by omega)) fun hE => h.endE hx hB hE⟩, fun hc => ⟨fun hE => ⟨⟨⟨by omega, by omega⟩, ⟨by omega, by omega⟩, ⟨by omega, by omega⟩, ⟨by omega, by omega⟩, bd c1 _ 64 h2.2 hx (by decide), ⟨by omega, by omega⟩, by omega, by simp only [List.length_append, List.length_cons, List.length_nil]; omega, by omega, by omega, ⟨by omega, by omega⟩, by omega, by simp only [List.length_cons, List.length_nil]; omega, in1 h hx, ⟨a1, rfl, h.pop hx hB hE (fun hh => hc (.inr ⟨hE, hh⟩))⟩, hl⟩, ⟨by omega, by omega⟩, ⟨by omega, by omega⟩, ⟨by omega, by omega⟩, ⟨by omega, by omega⟩, bd c1 _ 64 h2.2 hx (by decide), ⟨by omega, by omega⟩, by omega, by omega, ⟨by omega, by omega⟩, by omega, by simp only [List.length_cons, List.length_nil]; omega, in1 h hx, ⟨a1, rfl, h.pap hx hB hE (fun hh => hc (.inr ⟨hE, hh⟩))⟩, hl⟩, fun hE => ⟨⟨by omega, by omega⟩, bd p2 _ 72 h1.1 hx (by decide), ⟨by omega, by omega⟩, in1 h hx, ⟨a1, a2, rfl, h.prop hx hB hE⟩, hl⟩⟩⟩⟩⟩
  · intro x b n0 p0 c0 n1 p1 c1 n2 p2 c2 n3 p3 c3 h
    obtain ⟨a1, a2, a3, rfl, h⟩ := h
    refine ⟨fun hx => ?_, fun hx => ⟨fun he => h.finE hx he, fun he => ⟨fun _ => ⟨⟨by simp only [List.length_cons, List.length_nil]; omega, by simp only [List.length_cons, List.length_nil]; omega⟩, by simp only [List.length_cons, List.length_nil]; omega, by omega, fun _ => h.fin hx he⟩, fun hh => absurd (by simp only [List.length_cons, List.length_nil]; omega) hh⟩⟩⟩
    have vl := Nat.le_trans (hr2 _ (ix_mem h.1.1 hx)).value (show 5000 ≤ 100000 by decide)
    have hl := h.less hx
    have h1 := h.1.2.2.2 _ (List.mem_cons_self ..)
    have h2 := h.1.2.2.2 _ (List.mem_cons_of_mem _ (List.mem_cons_self ..))
    exact ⟨h.1.1, hx, fun _ => ⟨⟨by omega, by omega⟩, fun hB => ⟨vl, fun hn => ⟨h.1.1, hx, fun _ => h.begE hx hB hn⟩, fun hn => ⟨vl, by simp only [Option.getD_some]; omega, h.1.1, hx, fun _ => ⟨by simp only [Option.getD_some, List.length_cons, List.length_nil]; omega, ⟨by omega, by omega⟩, fun h6 => absurd h6 (by omega), fun _ => ⟨in1 h hx, ⟨a1, a2, a3, _, rfl, h.beg hx hB hn (show 3 < 6 by decide)⟩, hl⟩⟩⟩⟩, fun hB => ⟨fun _ => vl, fun _ => vl, ⟨fun _ => by omega, fun _ => by omega⟩, fun hc => ⟨h.1.1, hx, fun _ => hc.elim (fun h0 => absurd h0 (by omega)) fun hE => h.endE hx hB hE⟩, fun hc => ⟨fun hE => ⟨⟨⟨by omega, by omega⟩, ⟨by omega, by omega⟩, ⟨by omega, by omega⟩, ⟨by omega, by omega⟩, bd c2 _ 64 h2.2 hx (by decide), ⟨by omega, by omega⟩, by omega, by simp only [List.length_append, List.length_cons, List.length_nil]; omega, by omega, by omega, ⟨by omega, by omega⟩, by omega, by simp only [List.length_cons, List.length_nil]; omega, in1 h hx, ⟨a1, a2, rfl, h.pop hx hB hE (fun hh => hc (.inr ⟨hE, hh⟩))⟩, hl⟩, ⟨by omega, by omega⟩, ⟨by omega, by omega⟩, ⟨by omega, by omega⟩, ⟨by omega, by omega⟩, bd c2 _ 64 h2.2 hx (by decide), ⟨by omega, by omega⟩, by omega, by omega, ⟨by omega, by omega⟩, by omega, by simp only [List.length_cons, List.length_nil]; omega, in1 h hx, ⟨a1, a2, rfl, h.pap hx hB hE (fun hh => hc (.inr ⟨hE, hh⟩))⟩, hl⟩, fun hE => ⟨⟨by omega, by omega⟩, bd p3 _ 72 h1.1 hx (by decide), ⟨by omega, by omega⟩, in1 h hx, ⟨a1, a2, a3, rfl, h.prop hx hB hE⟩, hl⟩⟩⟩⟩⟩
  · intro x b n0 p0 c0 n1 p1 c1 n2 p2 c2 n3 p3 c3 n4 p4 c4 h
    obtain ⟨a1, a2, a3, a4, rfl, h⟩ := h
    refine ⟨fun hx => ?_, fun hx => ⟨fun he => h.finE hx he, fun he => ⟨fun _ => ⟨⟨by simp only [List.length_cons, List.length_nil]; omega, by simp only [List.length_cons, List.length_nil]; omega⟩, by simp only [List.length_cons, List.length_nil]; omega, by omega, fun _ => h.fin hx he⟩, fun hh => absurd (by simp only [List.length_cons, List.length_nil]; omega) hh⟩⟩⟩
    have vl := Nat.le_trans (hr2 _ (ix_mem h.1.1 hx)).value (show 5000 ≤ 100000 by decide)
    have hl := h.less hx
    have h1 := h.1.2.2.2 _ (List.mem_cons_self ..)
    have h2 := h.1.2.2.2 _ (List.mem_cons_of_mem _ (List.mem_cons_self ..))
    exact ⟨h.1.1, hx, fun _ => ⟨⟨by omega, by omega⟩, fun hB => ⟨vl, fun hn => ⟨h.1.1, hx, fun _ => h.begE hx hB hn⟩, fun hn => ⟨vl, by simp only [Option.getD_some]; omega, h.1.1, hx, fun _ => ⟨by simp only [Option.getD_some, List.length_cons, List.length_nil]; omega, ⟨by omega, by omega⟩, fun h6 => absurd h6 (by omega), fun _ => ⟨in1 h hx, ⟨a1, a2, a3, a4, _, rfl, h.beg hx hB hn (show 4 < 6 by decide)⟩, hl⟩⟩⟩⟩, fun hB => ⟨fun _ => vl, fun _ => vl, ⟨fun _ => by omega, fun _ => by omega⟩, fun hc => ⟨h.1.1, hx, fun _ => hc.elim (fun h0 => absurd h0 (by omega)) fun hE => h.endE hx hB hE⟩, fun hc => ⟨fun hE => ⟨⟨⟨by omega, by omega⟩, ⟨by omega, by omega⟩, ⟨by omega, by omega⟩, ⟨by omega, by omega⟩, bd c3 _ 64 h2.2 hx (by decide), ⟨by omega, by omega⟩, by omega, by simp only [List.length_append, List.length_cons, List.length_nil]; omega, by omega, by omega, ⟨by omega, by omega⟩, by omega, by simp only [List.length_cons, List.length_nil]; omega, in1 h hx, ⟨a1, a2, a3, rfl, h.pop hx hB hE (fun hh => hc (.inr ⟨hE, hh⟩))⟩, hl⟩, ⟨by omega, by omega⟩, ⟨by omega, by omega⟩, ⟨by omega, by omega⟩, ⟨by omega, by omega⟩, bd c3 _ 64 h2.2 hx (by decide), ⟨by omega, by omega⟩, by omega, by omega, ⟨by omega, by omega⟩, by omega, by simp only [List.length_cons, List.length_nil]; omega, in1 h hx, ⟨a1, a2, a3, rfl, h.pap hx hB hE (fun hh => hc (.inr ⟨hE, hh⟩))⟩, hl⟩, fun hE => ⟨⟨by omega, by omega⟩, bd p4 _ 72 h1.1 hx (by decide), ⟨by omega, by omega⟩, in1 h hx, ⟨a1, a2, a3, a4, rfl, h.prop hx hB hE⟩, hl⟩⟩⟩⟩⟩
  · intro x b n0 p0 c0 n1 p1 c1 n2 p2 c2 n3 p3 c3 n4 p4 c4 n5 p5 c5 h
    obtain ⟨a1, a2, a3, a4, a5, rfl, h⟩ := h
    refine ⟨fun hx => ?_, fun hx => ⟨fun he => h.finE hx he, fun he => ⟨fun _ => ⟨⟨by simp only [List.length_cons, List.length_nil]; omega, by simp only [List.length_cons, List.length_nil]; omega⟩, by simp only [List.length_cons, List.length_nil]; omega, by omega, fun _ => h.fin hx he⟩, fun hh => absurd (by simp only [List.length_cons, List.length_nil]; omega) hh⟩⟩⟩
    have vl := Nat.le_trans (hr2 _ (ix_mem h.1.1 hx)).value (show 5000 ≤ 100000 by decide)
    have hl := h.less hx
    have h1 := h.1.2.2.2 _ (List.mem_cons_self ..)
    have h2 := h.1.2.2.2 _ (List.mem_cons_of_mem _ (List.mem_cons_self ..))
    exact ⟨h.1.1, hx, fun _ => ⟨⟨by omega, by omega⟩, fun hB => ⟨vl, fun hn => ⟨h.1.1, hx, fun _ => h.begE hx hB hn⟩, fun hn => ⟨vl, by simp only [Option.getD_some]; omega, h.1.1, hx, fun _ => ⟨by simp only [Option.getD_some, List.length_cons, List.length_nil]; omega, ⟨by omega, by omega⟩, fun h6 => absurd h6 (by omega), fun _ => ⟨in1 h hx, ⟨a1, a2, a3, a4, a5, _, rfl, h.beg hx hB hn (show 5 < 6 by decide)⟩, hl⟩⟩⟩⟩, fun hB => ⟨fun _ => vl, fun _ => vl, ⟨fun _ => by omega, fun _ => by omega⟩, fun hc => ⟨h.1.1, hx, fun _ => hc.elim (fun h0 => absurd h0 (by omega)) fun hE => h.endE hx hB hE⟩, fun hc => ⟨fun hE => ⟨⟨⟨by omega, by omega⟩, ⟨by omega, by omega⟩, ⟨by omega, by omega⟩, ⟨by omega, by omega⟩, bd c4 _ 64 h2.2 hx (by decide), ⟨by omega, by omega⟩, by omega, by simp only [List.length_append, List.length_cons, List.length_nil]; omega, by omega, by omega, ⟨by omega, by omega⟩, by omega, by simp only [List.length_cons, List.length_nil]; omega, in1 h hx, ⟨a1, a2, a3, a4, rfl, h.pop hx hB hE (fun hh => hc (.inr ⟨hE, hh⟩))⟩, hl⟩, ⟨by omega, by omega⟩, ⟨by omega, by omega⟩, ⟨by omega, by omega⟩, ⟨by omega, by omega⟩, bd c4 _ 64 h2.2 hx (by decide), ⟨by omega, by omega⟩, by omega, by omega, ⟨by omega, by omega⟩, by omega, by simp only [List.length_cons, List.length_nil]; omega, in1 h hx, ⟨a1, a2, a3, a4, rfl, h.pap hx hB hE (fun hh => hc (.inr ⟨hE, hh⟩))⟩, hl⟩, fun hE => ⟨⟨by omega, by omega⟩, bd p5 _ 72 h1.1 hx (by decide), ⟨by omega, by omega⟩, in1 h hx, ⟨a1, a2, a3, a4, a5, rfl, h.prop hx hB hE⟩, hl⟩⟩⟩⟩⟩
  · intro x b n0 p0 c0 n1 p1 c1 n2 p2 c2 n3 p3 c3 n4 p4 c4 n5 p5 c5 n6 p6 c6 h
    obtain ⟨a1, a2, a3, a4, a5, a6, rfl, h⟩ := h
    refine ⟨fun hx => ?_, fun hx => ⟨fun he => h.finE hx he, fun he => ⟨fun _ => ⟨⟨by simp only [List.length_cons, List.length_nil]; omega, by simp only [List.length_cons, List.length_nil]; omega⟩, by simp only [List.length_cons, List.length_nil]; omega, by omega, fun _ => h.fin hx he⟩, fun hh => absurd (by simp only [List.length_cons, List.length_nil]; omega) hh⟩⟩⟩
    have vl := Nat.le_trans (hr2 _ (ix_mem h.1.1 hx)).value (show 5000 ≤ 100000 by decide)
    have hl := h.less hx
    have h1 := h.1.2.2.2 _ (List.mem_cons_self ..)
    have h2 := h.1.2.2.2 _ (List.mem_cons_of_mem _ (List.mem_cons_self ..))
    exact ⟨h.1.1, hx, fun _ => ⟨⟨by omega, by omega⟩, fun hB => ⟨vl, fun hn => ⟨h.1.1, hx, fun _ => h.begE hx hB hn⟩, fun hn => ⟨vl, by simp only [Option.getD_some]; omega, h.1.1, hx, fun _ => ⟨by simp only [Option.getD_some, List.length_cons, List.length_nil]; omega, ⟨by omega, by omega⟩, fun _ => ⟨h.1.1, hx, fun _ => h.begD hx hB hn (show 6 ≤ 6 by decide)⟩, fun h6 => absurd (by omega) h6⟩⟩⟩, fun hB => ⟨fun _ => vl, fun _ => vl, ⟨fun _ => by omega, fun _ => by omega⟩, fun hc => ⟨h.1.1, hx, fun _ => hc.elim (fun h0 => absurd h0 (by omega)) fun hE => h.endE hx hB hE⟩, fun hc => ⟨fun hE => ⟨⟨⟨by omega, by omega⟩, ⟨by omega, by omega⟩, ⟨by omega, by omega⟩, ⟨by omega, by omega⟩, bd c5 _ 64 h2.2 hx (by decide), ⟨by omega, by omega⟩, by omega, by simp only [List.length_append, List.length_cons, List.length_nil]; omega, by omega, by omega, ⟨by omega, by omega⟩, by omega, by simp only [List.length_cons, List.length_nil]; omega, in1 h hx, ⟨a1, a2, a3, a4, a5, rfl, h.pop hx hB hE (fun hh => hc (.inr ⟨hE, hh⟩))⟩, hl⟩, ⟨by omega, by omega⟩, ⟨by omega, by omega⟩, ⟨by omega, by omega⟩, ⟨by omega, by omega⟩, bd c5 _ 64 h2.2 hx (by decide), ⟨by omega, by omega⟩, by omega, by omega, ⟨by omega, by omega⟩, by omega, by simp only [List.length_cons, List.length_nil]; omega, in1 h hx, ⟨a1, a2, a3, a4, a5, rfl, h.pap hx hB hE (fun hh => hc (.inr ⟨hE, hh⟩))⟩, hl⟩, fun hE => ⟨⟨by omega, by omega⟩, bd p6 _ 72 h1.1 hx (by decide), ⟨by omega, by omega⟩, in1 h hx, ⟨a1, a2, a3, a4, a5, a6, rfl, h.prop hx hB hE⟩, hl⟩⟩⟩⟩⟩
def c40 (a : List (SV U)) (nx : Nat) : Option (CR U) := match a with | [.str s] => some ⟨[List.length (α := UInt8) s ≤ 100000], [], .tup [.acc nx, .int .i64 ((cR (compS s)).2.1), .int .i64 ((cR (compS s)).2.2)], [.ac 68 ((cR (compS s)).1)]⟩ | _ => none
set_option maxRecDepth 100000 in
theorem c40_ok (args : List (SV U)) (nx : Nat) (c : CR U) (h : c40 args nx = some c) (hp : args.all pureS = true) (ho : allP c.ob) : ConOK EWr.P EWr.N EWr.T EWr.G 40 args nx c := by
  unfold c40 at h
  split at h
  · rename_i s
    cases h
    exact con3 EWr_ok (inlN_ok EWr_ok an40 2) Tryd.func40 (k1 := .acc 68) (k2 := .int .i64) (k3 := .int .i64) (x1 := (cR (compS s)).1) (x2 := (cR (compS s)).2.1) (x3 := (cR (compS s)).2.2) rfl rfl hp (V40_ok (p40 s ho.1))
  · cases h
end Go.Proofs.YtadgfmmmdhlljaaDoor
end
section
namespace Go.Proofs.YtadgfmmmdhlljaaDoor
open Go Go.Wk Go.Wl Go.Rx Go.Fo Go.Li Go.Co 
noncomputable def EX8 : Env := N41.addC 40 c40
theorem EX8_ok : EnvOK EX8 := N41_ok.addC Tryd.call40 (fun a nx c h hp ho => c40_ok a nx c h hp ho)
end Go.Proofs.YtadgfmmmdhlljaaDoor
end
section
namespace Go.Proofs.YtadgfmmmdhlljaaDoor
open Go Go.Wk Go.Wl Go.Rx Go.Fo Go.Li Go.Co 
theorem filt_next {α : Type} [Inhabited α] {l : List α} {p : α → Bool} {i : Int} (h0 : 0 ≤ i) (h1 : i < l.length) : (l.take (i + 1).toNat).filter p = (l.take i.toNat).filter p ++ if p (ix l i) = true then [ix l i] else [] := by
  rw [take_next h0 h1, List.filter_append]
  congr 1
  rw [List.filter_cons, List.filter_nil]
theorem filt_len {α : Type} {l : List α} {p : α → Bool} {i : Int} (h0 : 0 ≤ i) : (((l.take i.toNat).filter p).length : Int) ≤ i := by
  have h1 := List.length_filter_le p (l.take i.toNat)
  have h2 : (l.take i.toNat).length ≤ i.toNat := by rw [List.length_take]; exact Nat.min_le_left _ _
  omega
def an47 : Nat → Ann := fun | 47 => ⟨25, fun | 3 => some ⟨[1, 9, 10], [.slot 5 (.acc 68), .slot 11 (.int .i64)]⟩ | _ => none, fun  | _ => none⟩ | _ => ⟨0, fun _ => none, fun _ => none⟩
def V47 (c : Comp) (n : Str) (Q : List Comp → Prop) : Prop :=
∃ (I : List Comp → Int → Prop),
  ∃ (m : List Comp → Int → Nat),
    I [] (0 : Int) ∧
      ∀ (x : List Comp) (x_1 : Int),
        I x x_1 →
          (x_1 < (↑c.Comps.length : Int) →
              (0 : Int) ≤ x_1 ∧
                x_1 < (↑c.Comps.length : Int) ∧
                  ((ix c.Comps x_1).Name = n →
                      (x.length + [Comp.mk (ix c.Comps x_1).Name (ix c.Comps x_1).Props (ix c.Comps x_1).Comps].length) * (some (64 : Nat)).getD (0 : Nat) ≤ (140737488355328 : Nat) ∧
                        in64 (x_1 + (1 : Int)) ∧
                          I (x ++ [Comp.mk (ix c.Comps x_1).Name (ix c.Comps x_1).Props (ix c.Comps x_1).Comps]) (x_1 + (1 : Int)) ∧
                            m (x ++ [Comp.mk (ix c.Comps x_1).Name (ix c.Comps x_1).Props (ix c.Comps x_1).Comps]) (x_1 + (1 : Int)) < m x x_1) ∧
                    (¬(ix c.Comps x_1).Name = n → in64 (x_1 + (1 : Int)) ∧ I x (x_1 + (1 : Int)) ∧ m x (x_1 + (1 : Int)) < m x x_1)) ∧
            (¬x_1 < (↑c.Comps.length : Int) → Q x)
set_option maxRecDepth 100000 in
theorem V47_ok {c : Comp} {n : Str} {Q : List Comp → Prop} (h : V47 c n Q) : vcFun (E := EX8) (inlN an47 2) (an47 47) Tryd.f47 [.agg [.str c.Name, .sl (N := U) 45 c.Props, .sl (N := U) 68 c.Comps], .str n] [] [] 0 (resP EX8 [.acc 68] Q) := Eq.mp (show V47 c n Q = vcFun (E := EX8) (inlN an47 2) (an47 47) Tryd.f47 [.agg [.str c.Name, .sl (N := U) 45 c.Props, .sl (N := U) 68 c.Comps], .str n] [] [] 0 (resP EX8 [.acc 68] Q) by kernel_rfl) h
def allC_ (c : Comp) (n : Str) : List Comp := c.Comps.filter fun p => decide (p.Name = n)
theorem p47 (c : Comp) (n : Str) (hs : c.Comps.length ≤ 100000000) : V47 c n (fun y0 => y0 = allC_ c n) := by
  unfold V47 allC_
  refine ⟨fun x i => 0 ≤ i ∧ i ≤ c.Comps.length ∧ x = (c.Comps.take i.toNat).filter (fun p => decide (p.Name = n)), fun _ i => ((c.Comps.length : Int) - i).toNat, ⟨by omega, by omega, by simp⟩, ?_⟩
  rintro x i ⟨i0, i1, rfl⟩
  have hl := filt_len (l := c.Comps) (p := fun p => decide (p.Name = n)) i0
  refine ⟨fun hi => ⟨i0, hi, fun hn => ⟨by simp only [List.length_cons, List.length_nil, Option.getD_some]; omega, ⟨by omega, by omega⟩, ⟨by omega, by omega, ?_⟩, by dsimp only; omega⟩, fun hn => ⟨⟨by omega, by omega⟩, ⟨by omega, by omega, ?_⟩, by dsimp only; omega⟩⟩, fun hi => ?_⟩
  · rw [filt_next i0 hi, if_pos (by simpa using hn), Comp.eta]
  · rw [filt_next i0 hi, if_neg (by simpa using hn), List.append_nil]
  · rw [List.take_of_length_le (by omega)]
def c47s (c : Comp) (n : Str) (nx : Nat) : CR U := ⟨[List.length (α := Comp) c.Comps ≤ 100000000], [], .acc nx, [.ac 68 (allC_ c n)]⟩
def c47 (a : List (SV U)) (nx : Nat) : Option (CR U) := match a with | [.agg [.str c0, .sl 45 c1, .sl 68 c2], .str n] => some (c47s (⟨c0, c1, c2⟩) n nx) | _ => none
set_option maxRecDepth 100000 in
theorem c47_ok (args : List (SV U)) (nx : Nat) (c : CR U) (h : c47 args nx = some c) (hp : args.all pureS = true) (ho : allP c.ob) : ConOK EX8.P EX8.N EX8.T EX8.G 47 args nx c := by
  unfold c47 at h
  split at h
  · rename_i c0 c1 c2 n
    cases h
    exact con1 EX8_ok (inlN_ok EX8_ok an47 2) Tryd.func47 (k := .acc 68) hp (V47_ok (p47 (⟨c0, c1, c2⟩) n ho.1))
  · cases h
noncomputable def N47 : Env := EX8.addC 47 c47
theorem N47_ok : EnvOK N47 := EX8_ok.addC Tryd.call47 c47_ok
end Go.Proofs.YtadgfmmmdhlljaaDoor
end
section
namespace Go.Proofs.YtadgfmmmdhlljaaDoor
open Go Go.Wk Go.Wl Go.Rx Go.Fo Go.Li Go.Co 
def exM : Str := [66, 69, 71, 73, 78, 58, 97, 10, 88, 58, 49, 10, 66, 69, 71, 73, 78, 58, 98, 10, 69, 78, 68, 58, 66, 10, 89, 58, 50, 10, 69, 78, 68, 58, 65, 10]
def exN : Str := [66, 69, 71, 73, 78, 58, 97, 10, 88, 58, 49, 10]
def an38 : Nat → Ann := fun | 38 => ⟨54, fun _ => none, fun  | _ => none⟩ | _ => ⟨0, fun _ => none, fun _ => none⟩
def V38  (Q : Bool → Prop) : Prop :=
exM.length ≤ (100000 : Nat) ∧ exN.length ≤ (100000 : Nat) ∧ ((cE (compS exM)).nr = (0 : Int) ∧ (↑(cR (compS exM)).fst.length : Int) = (1 : Int) → (0 : Int) ≤ (0 : Int)) ∧ ((cE (compS exM)).nr = (0 : Int) ∧ (↑(cR (compS exM)).fst.length : Int) = (1 : Int) → (0 : Int) < (↑(cR (compS exM)).fst.length : Int)) ∧ (((cE (compS exM)).nr = (0 : Int) ∧ (↑(cR (compS exM)).fst.length : Int) = (1 : Int)) ∧ (ix (cR (compS exM)).fst (0 : Int)).Name = [(65 : UInt8)] → (0 : Int) ≤ (0 : Int)) ∧ (((cE (compS exM)).nr = (0 : Int) ∧ (↑(cR (compS exM)).fst.length : Int) = (1 : Int)) ∧ (ix (cR (compS exM)).fst (0 : Int)).Name = [(65 : UInt8)] → (0 : Int) < (↑(cR (compS exM)).fst.length : Int)) ∧ ((((cE (compS exM)).nr = (0 : Int) ∧ (↑(cR (compS exM)).fst.length : Int) = (1 : Int)) ∧ (ix (cR (compS exM)).fst (0 : Int)).Name = [(65 : UInt8)]) ∧ (↑(ix (cR (compS exM)).fst (0 : Int)).Props.length : Int) = (2 : Int) → (0 : Int) ≤ (0 : Int) ∧ (0 : Int) < (↑(cR (compS exM)).fst.length : Int) ∧ (Comp.mk (ix (cR (compS exM)).fst (0 : Int)).Name (ix (cR (compS exM)).fst (0 : Int)).Props (ix (cR (compS exM)).fst (0 : Int)).Comps).Comps.length ≤ (100000000 : Nat) ∧ Q (decide (((↑(allC_ (Comp.mk (ix (cR (compS exM)).fst (0 : Int)).Name (ix (cR (compS exM)).fst (0 : Int)).Props (ix (cR (compS exM)).fst (0 : Int)).Comps) [(66 : UInt8)]).length : Int) = (1 : Int) ∧ (cE (compS exN)).nr = (11 : Int)) ∧ (cE (compS exN)).at_ = (1 : Int)))) ∧ (¬((((cE (compS exM)).nr = (0 : Int) ∧ (↑(cR (compS exM)).fst.length : Int) = (1 : Int)) ∧ (ix (cR (compS exM)).fst (0 : Int)).Name = [(65 : UInt8)]) ∧ (↑(ix (cR (compS exM)).fst (0 : Int)).Props.length : Int) = (2 : Int)) → Q false)
set_option maxRecDepth 100000 in
theorem V38_ok  {Q : Bool → Prop} (h : V38  Q) : vcFun (E := N47) (inlN an38 2) (an38 38) Tryd.f38 [] [] [] 0 (resP N47 [.bool] Q) := Eq.mp (show V38  Q = vcFun (E := N47) (inlN an38 2) (an38 38) Tryd.f38 [] [] [] 0 (resP N47 [.bool] Q) by kernel_rfl) h
theorem exM_ok : compS exM = .ok [.mk [65] [⟨[], [88], [], [49]⟩, ⟨[], [89], [], [50]⟩] [.mk [66] [] []]] := by kernel_rfl
theorem exN_ok : compS exN = .error (11, 1) := by kernel_rfl
theorem p38   : V38  (fun y0 => y0 = true) := by
  unfold V38
  rw [exM_ok, exN_ok]
  refine ⟨by decide, by decide, fun _ => by decide, fun _ => by decide, fun _ => by decide, fun _ => by decide, fun _ => ⟨by decide, by decide, by decide, ?_⟩, fun h => absurd ⟨⟨⟨rfl, rfl⟩, rfl⟩, rfl⟩ h⟩
  exact decide_eq_true ⟨⟨by decide +kernel, rfl⟩, rfl⟩
def c38 (a : List (SV U)) : Option (Q1 U) := match a with | [] => some ⟨[], [], blB true⟩ | _ => none
set_option maxRecDepth 100000 in
theorem c38_ok (args : List (SV U)) (q : Q1 U) (h : c38 args = some q) (ho : allP q.ob) : LendOK N47 38 args ⟨q.ob, q.hy, q.v, []⟩ := by
  unfold c38 at h
  split at h
  · cases h
    exact lend1 N47_ok (inlN_ok N47_ok an38 2) Tryd.func38 (k := .bool) (x := true) trivial (V38_ok (p38  )) 0
  · cases h
noncomputable def N38 : Env := N47.addL 38 c38
theorem N38_ok : EnvOK N38 := N47_ok.addL Tryd.call38 c38_ok
end Go.Proofs.YtadgfmmmdhlljaaDoor
end
section
namespace Go.Co
open Go Go.Wk Go.Wl Go.Rx Go.Fo Go.Li
def mayP (p : Prp) : Bool := rightB p && decide ((tell p).length ≤ 5000) && decide (p.Name ≠ sBEGIN) && decide (p.Name ≠ sEND)
mutual
def mayC : Comp → Bool
  | .mk n p c => decide (isName n) && decide (n.length + 6 ≤ 5000) && p.all mayP && mayL c
def mayL : List Comp → Bool
  | [] => true
  | c :: l => mayC c && mayL l
end
mutual
def linC : Comp → List Str
  | .mk n p c => (sBEGIN ++ 58 :: n) :: (p.map tell ++ (linL c ++ [sEND ++ 58 :: n]))
def linL : List Comp → List Str
  | [] => []
  | c :: l => linC c ++ linL l
end
mutual
def depC : Comp → Int
  | .mk _ _ c => 1 + depL c
def depL : List Comp → Int
  | [] => 0
  | c :: l => max (depC c) (depL l)
end
mutual
def rowC : Comp → Int
  | .mk _ p c => 2 + p.length + rowL c
def rowL : List Comp → Int
  | [] => 0
  | c :: l => rowC c + rowL l
end
theorem rowL_cons (c : Comp) (l : List Comp) : rowL (c :: l) = rowC c + rowL l := by rw [rowL]
theorem depL_cons (c : Comp) (l : List Comp) : depL (c :: l) = max (depC c) (depL l) := by rw [depL]
mutual
theorem dep_geC : ∀ c : Comp, 1 ≤ depC c
  | .mk _ _ c => by unfold depC; have := dep_geL c; omega
theorem dep_geL : ∀ l : List Comp, 0 ≤ depL l
  | [] => by unfold depL; omega
  | c :: l => by unfold depL; have := dep_geC c; omega
end
mutual
theorem lin_lenC : ∀ c : Comp, ((linC c).length : Int) = rowC c
  | .mk _ p c => by
    unfold linC rowC
    have := lin_lenL c
    simp only [List.length_cons, List.length_append, List.length_map, List.length_nil]
    omega
theorem lin_lenL : ∀ l : List Comp, ((linL l).length : Int) = rowL l
  | [] => by unfold linL rowL; rfl
  | c :: l => by
    unfold linL rowL
    have := lin_lenC c
    have := lin_lenL l
    rw [List.length_append]; omega
end
theorem mayL_iff : ∀ {l : List Comp}, mayL l = true ↔ ∀ c ∈ l, mayC c = true
  | [] => by unfold mayL; simp
  | c :: l => by unfold mayL; rw [Bool.and_eq_true, mayL_iff (l := l)]; simp
theorem rowL_app {a b : List Comp} : rowL (a ++ b) = rowL a + rowL b := by
  induction a with
  | nil => show rowL b = rowL [] + rowL b; simp [rowL]
  | cons c a ih => rw [List.cons_append, rowL_cons, rowL_cons, ih]; omega
theorem mayC_out {c : Comp} : mayC c = true ↔ isName c.Name ∧ c.Name.length + 6 ≤ 5000 ∧ (∀ p ∈ c.Props, mayP p = true) ∧ mayL c.Comps = true := by
  obtain ⟨n, p, cs⟩ := c
  unfold mayC
  simp only [Bool.and_eq_true, decide_eq_true_eq, List.all_eq_true]
  exact ⟨fun ⟨⟨⟨a, b⟩, c⟩, d⟩ => ⟨a, b, c, d⟩, fun ⟨a, b, c, d⟩ => ⟨⟨⟨a, b⟩, c⟩, d⟩⟩
theorem mayP_out {p : Prp} : mayP p = true ↔ rightB p = true ∧ (tell p).length ≤ 5000 ∧ p.Name ≠ sBEGIN ∧ p.Name ≠ sEND := by
  unfold mayP
  simp only [Bool.and_eq_true, decide_eq_true_eq]
  exact ⟨fun ⟨⟨⟨a, b⟩, c⟩, d⟩ => ⟨a, b, c, d⟩, fun ⟨a, b, c, d⟩ => ⟨⟨⟨a, b⟩, c⟩, d⟩⟩
end Go.Co
end
section
namespace Go.Co
open Go Go.Wk Go.Wl Go.Rx Go.Fo Go.Li
theorem pName_tot {s n r : Str} (h : pName s = some (n, r)) : n.length + r.length = s.length := by
  unfold pName at h
  split at h
  · cases h
  · simp only [Option.some.injEq, Prod.mk.injEq] at h
    obtain ⟨rfl, rfl⟩ := h
    unfold upper
    rw [List.length_map]
    have := congrArg List.length (List.takeWhile_append_dropWhile (p := letterB) (l := s))
    rw [List.length_append] at this
    exact this
theorem hdIs_tot {c : UInt8} {s r : Str} (h : hdIs c s = some r) : s.length = r.length + 1 := by
  cases s with
  | nil => cases h
  | cons d t =>
    by_cases e : d = c
    · simp only [hdIs, if_pos e, Option.some.injEq] at h
      subst h; simp
    · simp only [hdIs, if_neg e] at h
      cases h
theorem while_tot (p : UInt8 → Bool) (s : Str) : (s.takeWhile p).length + (s.dropWhile p).length = s.length := by
  have := congrArg List.length (List.takeWhile_append_dropWhile (p := p) (l := s))
  rw [List.length_append] at this
  exact this
theorem said_quote : ∀ (n : Nat) (s : Str), s.length ≤ n → s.any quoteB = false → (said s).any quoteB = false := by
  intro n
  induction n with
  | zero => intro s h _; obtain rfl := List.eq_nil_of_length_eq_zero (Nat.le_zero.1 h); rfl
  | succ n ih =>
    intro s hs h
    match s, hs, h with
    | [], _, _ => rfl
    | [c], _, h => exact h
    | c :: d :: r, hs, h =>
      rw [List.any_cons, List.any_cons, Bool.or_eq_false_iff, Bool.or_eq_false_iff] at h
      obtain ⟨h1, h2, h3⟩ := h
      simp only [List.length_cons] at hs
      have i1 := ih r (by omega) h3
      have i2 := ih (d :: r) (by simp only [List.length_cons]; omega) (by rw [List.any_cons, h2, h3]; rfl)
      rw [said]
      split
      · rw [List.any_cons, i1]; rfl
      · split
        · rw [List.any_cons, i1]; rfl
        · split
          · rw [List.any_cons, i1]; rfl
          · rw [List.any_cons, i2, h1]; rfl
theorem plain_quote (c : UInt8) : plainB c = true → quoteB c = false :=
  all8 (P := fun c => plainB c = true → quoteB c = false) (by decide +kernel) c
theorem pValue_tot {s v r : Str} (h : pValue s = some (v, r)) : (told v).length + 2 * r.length ≤ 2 * s.length := by
  unfold pValue at h
  split at h
  · rename_i t ht
    split at h
    · rename_i u hu
      simp only [Option.some.injEq, Prod.mk.injEq] at h
      obtain ⟨rfl, rfl⟩ := h
      have h1 := hdIs_tot ht
      have h2 := hdIs_tot hu
      have h3 := while_tot inB t
      have h4 := said_len2 _ (t.takeWhile inB) (Nat.le_refl _)
      have h5 := told_len (said (t.takeWhile inB))
      omega
    · cases h
  · simp only [Option.some.injEq, Prod.mk.injEq] at h
    obtain ⟨rfl, rfl⟩ := h
    have h3 := while_tot plainB s
    have h4 := said_len2 _ (s.takeWhile plainB) (Nat.le_refl _)
    have h6 := esc_len2 (said (s.takeWhile plainB))
    have hq : (said (s.takeWhile plainB)).any quoteB = false := said_quote _ _ (Nat.le_refl _) (by
      rw [List.any_eq_false]
      intro c hc
      have := plain_quote c (List.all_eq_true.1 (take_all plainB s) c hc)
      rw [this]; simp)
    unfold told
    rw [if_neg (by rw [hq]; simp)]
    omega
theorem pVals_tot : ∀ (n : Nat) (s : Str), s.length ≤ n → ∀ l r, pVals s = some (l, r) → (joinV l).length + 2 * r.length ≤ 2 * s.length := by
  intro n
  induction n with
  | zero =>
    intro s hs l r h
    rw [pVals_eq] at h
    split at h
    · cases h
    · rename_i v t ht
      have h1 := pValue_tot ht
      split at h
      · simp only [Option.some.injEq, Prod.mk.injEq] at h
        obtain ⟨rfl, rfl⟩ := h
        have e : joinV [v] = told v := by simp [joinV]
        rw [e]; exact h1
      · rename_i u hu
        have := hdIs_tot hu
        omega
  | succ n ih =>
    intro s hs l r h
    rw [pVals_eq] at h
    split at h
    · cases h
    · rename_i v t ht
      have h1 := pValue_tot ht
      split at h
      · simp only [Option.some.injEq, Prod.mk.injEq] at h
        obtain ⟨rfl, rfl⟩ := h
        have e : joinV [v] = told v := by simp [joinV]
        rw [e]; exact h1
      · rename_i u hu
        have h2 := hdIs_tot hu
        split at h
        · cases h
        · rename_i l' r' h'
          simp only [Option.some.injEq, Prod.mk.injEq] at h
          obtain ⟨rfl, rfl⟩ := h
          have i := ih u (by omega) _ _ h'
          have e : (joinV (v :: l')).length ≤ (told v).length + 1 + (joinV l').length := by
            cases l' with
            | nil => simp [joinV]
            | cons a l' => simp [joinV]; omega
          omega
theorem pParam_tot {s r : Str} {x : Param} (h : pParam s = some (x, r)) : (tellP x).length + 2 * r.length ≤ 2 * s.length + 1 := by
  unfold pParam at h
  split at h
  · cases h
  · rename_i n t ht
    have h1 := pName_tot ht
    split at h
    · cases h
    · rename_i u hu
      have h2 := hdIs_tot hu
      split at h
      · cases h
      · rename_i l' r' h'
        simp only [Option.some.injEq, Prod.mk.injEq] at h
        obtain ⟨rfl, rfl⟩ := h
        have h3 := pVals_tot _ _ (Nat.le_refl _) _ _ h'
        unfold tellP
        simp only [List.length_cons, List.length_append]
        omega
theorem pParams_tot : ∀ (n : Nat) (s : Str), s.length ≤ n → ∀ l r, pParams s = some (l, r) → (l.flatMap tellP).length + 2 * r.length ≤ 2 * s.length := by
  intro n
  induction n with
  | zero =>
    intro s hs l r h
    rw [pParams_eq] at h
    split at h
    · simp only [Option.some.injEq, Prod.mk.injEq] at h
      obtain ⟨rfl, rfl⟩ := h
      simp
    · rename_i t ht
      have := hdIs_tot ht
      omega
  | succ n ih =>
    intro s hs l r h
    rw [pParams_eq] at h
    split at h
    · simp only [Option.some.injEq, Prod.mk.injEq] at h
      obtain ⟨rfl, rfl⟩ := h
      simp
    · rename_i t ht
      have h1 := hdIs_tot ht
      split at h
      · cases h
      · rename_i x t' hp
        have h2 := pParam_tot hp
        have h3 := pParam_len hp
        split at h
        · cases h
        · rename_i l' r' h'
          simp only [Option.some.injEq, Prod.mk.injEq] at h
          obtain ⟨rfl, rfl⟩ := h
          have i := ih t' (by omega) _ _ h'
          rw [List.flatMap_cons, List.length_append]
          omega
theorem tell_tot {s : Str} {p : Prp} (h : pProp s = some p) : (tell p).length ≤ 2 * s.length := by
  unfold pProp at h
  split at h
  · cases h
  · rename_i g n r hh
    have hd : (if g = [] then n else g ++ 46 :: n).length + 2 * r.length ≤ 2 * s.length := by
      unfold pHead at hh
      split at hh
      · cases hh
      · rename_i m u hm
        have h1 := pName_tot hm
        split at hh
        · simp only [Option.some.injEq, Prod.mk.injEq] at hh
          obtain ⟨rfl, rfl, rfl⟩ := hh
          rw [if_pos rfl]; omega
        · rename_i t ht
          have h2 := hdIs_tot ht
          split at hh
          · cases hh
          · rename_i m2 u2 hm2
            have h3 := pName_tot hm2
            simp only [Option.some.injEq, Prod.mk.injEq] at hh
            obtain ⟨rfl, rfl, rfl⟩ := hh
            split
            · omega
            · simp only [List.length_append, List.length_cons]; omega
    split at h
    · cases h
    · rename_i l t hl
      have h4 := pParams_tot _ _ (Nat.le_refl _) _ _ hl
      split at h
      · cases h
      · rename_i v hv
        have h5 := hdIs_tot hv
        split at h
        · simp only [Option.some.injEq] at h
          subst h
          unfold Li.tell
          simp only [List.length_append, List.length_cons] at hd ⊢
          omega
        · cases h
def totR (l : List Row) : Nat := (l.map fun r => r.Text.length).sum
theorem totR_app (a b : List Row) : totR (a ++ b) = totR a + totR b := by simp [totR]
theorem totR_mem {l : List Row} {r : Row} (h : r ∈ l) : r.Text.length ≤ totR l := by
  induction l with
  | nil => cases h
  | cons a l ih =>
    have e : totR (a :: l) = a.Text.length + totR l := by simp [totR]
    rw [e]
    rcases List.mem_cons.1 h with rfl | h
    · omega
    · have := ih h; omega
theorem totR_last (out : List Row) (t : Str) : totR (lastAdd out t) ≤ totR out + t.length := by
  by_cases h : out = []
  · subst h
    unfold lastAdd
    simp [totR]
    show (0 : Nat) + t.length ≤ t.length
    omega
  · obtain ⟨a, x, rfl⟩ := snoc h
    rw [lastAdd_snoc, totR_app, totR_app]
    simp [totR]
    omega
theorem uGo_tot : ∀ (ls : List Str) (a : Int) (out : List Row) (o : Bool) (rows : List Row), uGo ls a out o = .ok rows → totR rows ≤ totR out + (ls.map List.length).sum
  | [], _, out, _, rows, h => by unfold uGo at h; cases h; simp
  | l :: ls, a, out, o, rows, h => by
    rw [uGo] at h
    cases hs : uStep a l out o with
    | error e => rw [hs] at h; cases h
    | ok q =>
      obtain ⟨out', o'⟩ := q
      rw [hs] at h
      have ih := uGo_tot ls _ out' o' rows h
      have key : totR out' ≤ totR out + l.length := by
        unfold uStep at hs
        split at hs
        · cases hs; omega
        · split at hs
          · split at hs
            · obtain ⟨rfl, _⟩ := uTop_in hs
              have := totR_last out (l.drop 1)
              rw [List.length_drop] at this
              omega
            · cases hs
          · obtain ⟨rfl, _⟩ := uTop_in hs
            rw [totR_app]
            simp [totR]
      simp only [List.map_cons, List.sum_cons]
      omega
theorem linesOf_tot : ∀ (n : Nat) (s : Str), s.length ≤ n → ((linesOf s).map List.length).sum ≤ s.length
  | n, s, hn => by
    by_cases h : s = []
    · subst h; rw [linesOf_nil]; simp
    · have h1 := tl_lt h
      cases n with
      | zero => omega
      | succ n =>
        rw [linesOf_cons h]
        have ih := linesOf_tot n (tl s) (by omega)
        simp only [List.map_cons, List.sum_cons]
        have ht := while_tot nl s
        by_cases h10 : (10 : UInt8) ∈ s
        · rw [if_pos h10]
          have h2 : (trimR (hd s)).length ≤ (hd s).length := by
            unfold trimR
            split
            · rw [List.length_dropLast]; omega
            · exact Nat.le_refl _
          have h3 : (tl s).length ≤ (s.dropWhile nl).length := by unfold tl; rw [List.length_drop]; omega
          have h4 : (hd s).length = (s.takeWhile nl).length := rfl
          omega
        · rw [if_neg h10]
          have h3 := (hd_all h10).2
          rw [h3] at ih ⊢
          rw [linesOf_nil]; simp
theorem unfold_tot {s : Str} {rows : List Row} (h : unfoldS s = .ok rows) : ∀ r ∈ rows, r.Text.length ≤ s.length := by
  have h1 := uGo_tot _ _ _ _ _ h
  have h2 := linesOf_tot _ s (Nat.le_refl _)
  intro r hr
  have := totR_mem hr
  simp only [totR, List.map_nil, List.sum_nil] at h1
  unfold totR at this
  omega
inductive RdC (m : Nat) : Comp → Prop
  | mk {n : Str} {p : List Prp} {c : List Comp} : isName n → n.length ≤ m → (∀ x ∈ p, rightB x = true ∧ (tell x).length ≤ 2 * m ∧ x.Name ≠ sBEGIN ∧ x.Name ≠ sEND) → (∀ x ∈ c, RdC m x) → RdC m (.mk n p c)
theorem RdC.out {m : Nat} {c : Comp} (h : RdC m c) : isName c.Name ∧ c.Name.length ≤ m ∧ (∀ x ∈ c.Props, rightB x = true ∧ (tell x).length ≤ 2 * m ∧ x.Name ≠ sBEGIN ∧ x.Name ≠ sEND) ∧ ∀ x ∈ c.Comps, RdC m x := by
  cases h with | mk h1 h2 h3 h4 => exact ⟨h1, h2, h3, h4⟩
theorem nameP_right {p : Prp} (h : nameP p ≠ []) : isName (nameP p) ∧ (nameP p).length = p.Value.length := by
  unfold nameP at h ⊢
  split
  · rename_i h1
    exact ⟨h1.2.2, by unfold upper; rw [List.length_map]⟩
  · rename_i h1; rw [if_neg h1] at h; exact absurd rfl h
def depO : Int → List Frm → Prop
  | _, [] => True
  | k, (c, _) :: st => k + depL c.Comps ≤ 5 ∧ depO (k - 1) st
theorem dep_app {a b : List Comp} : depL (a ++ b) = max (depL a) (depL b) := by
  induction a with
  | nil => show depL b = max (depL []) (depL b); have := dep_geL b; have e : depL [] = 0 := by rw [depL]
           omega
  | cons c a ih => rw [List.cons_append, depL_cons, depL_cons, ih]; omega
theorem dep_one (c : Comp) : depL [c] = depC c := by have := dep_geC c; unfold depL; unfold depL; omega
theorem row_one (c : Comp) : rowL [c] = rowC c := by unfold rowL; unfold rowL; omega
theorem depC_eq (c : Comp) : depC c = 1 + depL c.Comps := by obtain ⟨n, p, cs⟩ := c; unfold depC; rfl
theorem rowC_eq (c : Comp) : rowC c = 2 + c.Props.length + rowL c.Comps := by obtain ⟨n, p, cs⟩ := c; unfold rowC; rfl
def rowO : List Frm → Int
  | [] => 0
  | (c, _) :: st => 1 + c.Props.length + rowL c.Comps + rowO st
theorem go_right {m : Nat} : ∀ (rs : List Row) (st : List Frm) (out l : List Comp), (∀ r ∈ rs, r.Text.length ≤ m) → (∀ f ∈ st, RdC m f.1) → (∀ c ∈ out, RdC m c) → st.length ≤ 6 → depO (st.length - 1) st → depL out ≤ 6 → goC rs st out = .ok l →
    (∀ c ∈ l, RdC m c) ∧ depL l ≤ 6 ∧ rowL l ≤ rs.length + rowO st + rowL out
  | [], st, out, l, _, _, ho, _, _, hd, h => by
    cases st with
    | nil =>
      rw [goC] at h
      cases h
      exact ⟨ho, hd, by unfold rowO; simp⟩
    | cons f st => obtain ⟨c, b⟩ := f; rw [goC] at h; cases h
  | r :: rs, st, out, l, hr, hs, ho, hl, hO, hd, h => by
    rw [goC] at h
    by_cases he : (parseS r.Text).2 ≠ .nil
    · rw [if_pos he] at h; cases h
    · rw [if_neg he] at h
      have he0 : (parseS r.Text).2 = .nil := Classical.not_not.1 he
      obtain ⟨hp1, hp2⟩ := parse_right he0
      have ht := tell_tot hp2
      have hm := hr r (List.mem_cons_self ..)
      have hr' : ∀ q ∈ rs, q.Text.length ≤ m := fun q hq => hr q (List.mem_cons_of_mem _ hq)
      generalize (parseS r.Text).1 = p at h hp1 hp2 ht
      have hv : p.Value.length ≤ m := by
        unfold Li.tell at ht
        unfold pProp at hp2
        split at hp2
        · cases hp2
        · rename_i g n r2 hh
          obtain ⟨_, _, c⟩ := head_size hh
          split at hp2
          · cases hp2
          · rename_i l2 t hl2
            obtain ⟨⟨_, g1⟩, _⟩ := pParams_size _ _ (Nat.le_refl _) _ _ hl2
            split at hp2
            · cases hp2
            · rename_i v hv
              have f := hdIs_len hv
              split at hp2
              · simp only [Option.some.injEq] at hp2
                subst hp2
                show v.length ≤ m
                omega
              · cases hp2
      cases hst : stepC st out r.At p with
      | error e => rw [hst] at h; cases h
      | ok q =>
        rw [hst] at h
        have h : goC rs q.1 q.2 = .ok l := h
        unfold stepC at hst
        by_cases hB : p.Name = sBEGIN
        · rw [if_pos hB] at hst
          by_cases hn : nameP p = []
          · rw [if_pos hn] at hst; cases hst
          · rw [if_neg hn] at hst
            by_cases h6 : 6 < st.length + 1
            · rw [if_pos h6] at hst; cases hst
            · rw [if_neg h6] at hst
              cases hst
              obtain ⟨n1, n2⟩ := nameP_right hn
              obtain ⟨a1, a2, a3⟩ := go_right rs ((.mk (nameP p) [] [], r.At) :: st) out l hr' (fun f hf => by
                rcases List.mem_cons.1 hf with rfl | hf
                · exact .mk n1 (by omega) (fun x hx => by cases hx) (fun x hx => by cases hx)
                · exact hs f hf) ho (by rw [List.length_cons]; omega) ⟨by rw [List.length_cons]; show _ + depL [] ≤ 5; unfold depL; omega, by
                  rw [List.length_cons]
                  have : ((st.length + 1 : Nat) : Int) - 1 - 1 = (st.length : Int) - 1 := by omega
                  rw [this]; exact hO⟩ hd h
              refine ⟨a1, a2, ?_⟩
              unfold rowO at a3
              have e1 : ((Comp.mk (nameP p) [] []).Props.length : Int) = 0 := rfl
              have e2 : rowL (Comp.mk (nameP p) [] []).Comps = 0 := by show rowL [] = 0; unfold rowL; rfl
              rw [e1, e2] at a3
              rw [List.length_cons]; omega
        · rw [if_neg hB] at hst
          cases st with
          | nil => cases hst
          | cons f st =>
            obtain ⟨c, b⟩ := f
            simp only at hst
            obtain ⟨hO1, hO2⟩ := hO
            have hc := hs (c, b) (List.mem_cons_self ..)
            have hs' : ∀ f ∈ st, RdC m f.1 := fun f hf => hs f (List.mem_cons_of_mem _ hf)
            obtain ⟨c1, c2, c3, c4⟩ := hc.out
            rw [List.length_cons] at hl hO1 hO2
            by_cases hE : p.Name = sEND
            · rw [if_pos hE] at hst
              split at hst
              · cases hst
              · cases st with
                | nil =>
                  cases hst
                  obtain ⟨a1, a2, a3⟩ := go_right rs [] (out ++ [c]) l hr' (fun f hf => by cases hf) (fun x hx => by
                    rcases List.mem_append.1 hx with hx | hx
                    · exact ho x hx
                    · rw [List.mem_singleton.1 hx]; exact hc) (by simp) trivial (by
                    have := depC_eq c
                    rw [dep_app, dep_one]
                    simp only [List.length_nil] at hO1
                    omega) h
                  refine ⟨a1, a2, ?_⟩
                  rw [rowL_app, row_one, rowC_eq] at a3
                  unfold rowO at a3 ⊢
                  unfold rowO
                  rw [List.length_cons]; omega
                | cons f2 st =>
                  obtain ⟨d, b'⟩ := f2
                  cases hst
                  have hd' := hs' (d, b') (List.mem_cons_self ..)
                  obtain ⟨d1, d2, d3, d4⟩ := hd'.out
                  obtain ⟨hO3, hO4⟩ := hO2
                  have hdc := depC_eq c
                  rw [List.length_cons] at hl hO1 hO3 hO4
                  obtain ⟨a1, a2, a3⟩ := go_right rs ((addC d c, b') :: st) out l hr' (fun f hf => by
                    rcases List.mem_cons.1 hf with rfl | hf
                    · exact .mk d1 d2 d3 fun x hx => by
                        rcases List.mem_append.1 hx with hx | hx
                        · exact d4 x hx
                        · rw [List.mem_singleton.1 hx]; exact hc
                    · exact hs' f (List.mem_cons_of_mem _ hf)) ho (by rw [List.length_cons]; omega) ⟨by
                    show _ + depL (d.Comps ++ [c]) ≤ 5
                    rw [dep_app, dep_one, List.length_cons]
                    omega, by
                    rw [List.length_cons]
                    have : ((st.length + 1 : Nat) : Int) - 1 - 1 = ((st.length + 1 + 1 : Nat) : Int) - 1 - 1 - 1 := by omega
                    rw [this]; exact hO4⟩ hd h
                  refine ⟨a1, a2, ?_⟩
                  unfold rowO at a3 ⊢
                  unfold rowO
                  have e1 : (addC d c).Props.length = d.Props.length := rfl
                  have e2 : rowL (addC d c).Comps = rowL d.Comps + rowC c := by show rowL (d.Comps ++ [c]) = _; rw [rowL_app, row_one]
                  rw [e1, e2, rowC_eq] at a3
                  rw [List.length_cons]; omega
            · rw [if_neg hE] at hst
              cases hst
              obtain ⟨a1, a2, a3⟩ := go_right rs ((addP c p, b) :: st) out l hr' (fun f hf => by
                rcases List.mem_cons.1 hf with rfl | hf
                · exact .mk c1 c2 (fun x hx => by
                    rcases List.mem_append.1 hx with hx | hx
                    · exact c3 x hx
                    · rw [List.mem_singleton.1 hx]; exact ⟨hp1, by omega, hB, hE⟩) c4
                · exact hs' f hf) ho (by rw [List.length_cons]; exact hl) ⟨by rw [List.length_cons]; exact hO1, by rw [List.length_cons]; exact hO2⟩ hd h
              refine ⟨a1, a2, ?_⟩
              unfold rowO at a3 ⊢
              have e1 : ((addP c p).Props.length : Int) = c.Props.length + 1 := by show ((c.Props ++ [p]).length : Int) = _; simp
              have e2 : rowL (addP c p).Comps = rowL c.Comps := rfl
              rw [e1, e2] at a3
              rw [List.length_cons]; omega
theorem RdC.may {m : Nat} (hm : m ≤ 2500) : ∀ {c : Comp}, RdC m c → mayC c = true := fun {c} h => by
  induction h with
  | mk h1 h2 h3 _ ih =>
    rw [mayC_out]
    refine ⟨h1, Nat.le_trans (Nat.add_le_add_right (Nat.le_trans h2 hm) 6) (by decide), fun p hp => ?_, mayL_iff.2 ih⟩
    obtain ⟨a, b, c, d⟩ := h3 p hp
    exact mayP_out.2 ⟨a, by omega, c, d⟩
theorem parse_right_all {s : Str} {l : List Comp} (h : compS s = .ok l) : depL l ≤ 6 ∧ rowL l ≤ 1000 ∧ (s.length ≤ 2500 → mayL l = true) ∧ ∀ c ∈ l, RdC s.length c := by
  unfold compS at h
  cases hu : unfoldS s with
  | error e => rw [hu] at h; cases h
  | ok rows =>
    rw [hu] at h
    have h : goC rows [] [] = .ok l := h
    obtain ⟨h1, _⟩ := unfold_short hu
    obtain ⟨a1, a2, a3⟩ := go_right (m := s.length) rows [] [] l (unfold_tot hu) (fun f hf => by cases hf) (fun c hc => by cases hc) (by simp) trivial (by unfold depL; omega) h
    refine ⟨a2, ?_, fun hs => mayL_iff.2 fun c hc => (a1 c hc).may hs, a1⟩
    have e : rowL [] = 0 := by unfold rowL; rfl
    unfold rowO at a3
    omega
end Go.Co
end
section
namespace Go.Co
open Go Go.Wk Go.Wl Go.Rx Go.Fo Go.Li
theorem uTop_num {a : Int} {out : List Row} {e : Int × Int} (h : uTop a out = .error e) : e.1 = 4 ∨ e.1 = 5 := by
  unfold uTop at h
  split at h
  · cases h; exact .inl rfl
  · split at h
    · cases h; exact .inr rfl
    · cases h
theorem uGo_num : ∀ (ls : List Str) (a : Int) (out : List Row) (o : Bool) (e : Int × Int), uGo ls a out o = .error e → e.1 = 4 ∨ e.1 = 5 ∨ e.1 = 11
  | [], _, out, _, e, h => by unfold uGo at h; cases h
  | l :: ls, a, out, o, e, h => by
    rw [uGo] at h
    cases hs : uStep a l out o with
    | error e' =>
      rw [hs] at h
      cases h
      unfold uStep at hs
      split at hs
      · cases hs
      · split at hs
        · split at hs
          · rcases uTop_num hs with h | h
            · exact .inl h
            · exact .inr (.inl h)
          · cases hs; exact .inr (.inr rfl)
        · rcases uTop_num hs with h | h
          · exact .inl h
          · exact .inr (.inl h)
    | ok q => rw [hs] at h; exact uGo_num ls _ _ _ e h
theorem step_num {st : List Frm} {out : List Comp} {a : Int} {p : Prp} {e : Int × Int} (h : stepC st out a p = .error e) : e.1 = 11 ∨ e.1 = 12 := by
  unfold stepC at h
  split at h
  · split at h
    · cases h; exact .inl rfl
    · split at h
      · cases h; exact .inr rfl
      · cases h
  · cases st with
    | nil => cases h; exact .inl rfl
    | cons f st =>
      obtain ⟨c, b⟩ := f
      simp only at h
      split at h
      · split at h
        · cases h; exact .inl rfl
        · cases st with
          | nil => cases h
          | cons f st => obtain ⟨d, b'⟩ := f; cases h
      · cases h
theorem goC_num : ∀ (rs : List Row) (st : List Frm) (out : List Comp) (e : Int × Int), goC rs st out = .error e → 1 ≤ e.1 ∧ e.1 ≤ 16
  | [], [], out, e, h => by rw [goC] at h; cases h
  | [], (_, b) :: _, out, e, h => by rw [goC] at h; cases h; exact ⟨(by decide : (1 : Int) ≤ 11), (by decide : (11 : Int) ≤ 16)⟩
  | r :: rs, st, out, e, h => by
    rw [goC] at h
    by_cases he : (parseS r.Text).2 ≠ .nil
    · rw [if_pos he] at h
      obtain ⟨-, n, e1, e2, -⟩ := parse_err he
      rw [e1] at h
      cases h
      show 1 ≤ n ∧ n ≤ 16
      rcases e2 with rfl | rfl <;> exact ⟨by decide, by decide⟩
    · rw [if_neg he] at h
      cases hs : stepC st out r.At (parseS r.Text).1 with
      | error e' =>
        rw [hs] at h
        cases h
        rcases step_num hs with h | h <;> rw [h] <;> exact ⟨by decide, by decide⟩
      | ok q => rw [hs] at h; exact goC_num rs _ _ e h
theorem comp_num {s : Str} {e : Int × Int} (h : compS s = .error e) : 1 ≤ e.1 ∧ e.1 ≤ 16 := by
  unfold compS at h
  cases hu : unfoldS s with
  | error e' =>
    rw [hu] at h
    cases h
    rcases uGo_num _ _ _ _ _ hu with h | h | h <;> rw [h] <;> exact ⟨by decide, by decide⟩
  | ok rows => rw [hu] at h; exact goC_num _ _ _ _ h
theorem comp_nr (s : Str) : (cE (compS s)).nr = (cR (compS s)).2.1 ∧ (cE (compS s)).at_ = (cR (compS s)).2.2 := by
  cases h : compS s with
  | ok l => exact ⟨rfl, rfl⟩
  | error e =>
    obtain ⟨h1, h2⟩ := comp_num h
    refine ⟨?_, rfl⟩
    show (if 1 ≤ e.1 ∧ e.1 ≤ 16 then e.1 else -1) = e.1
    rw [if_pos ⟨h1, h2⟩]
theorem right_okP {p : Prp} (h : rightB p = true) : okP p := by
  obtain ⟨_, hm⟩ := rightB_iff.1 h
  unfold manyB at hm
  simp only [Bool.or_eq_false_iff, List.any_eq_false, decide_eq_false_iff_not, decide_eq_true_eq] at hm
  refine ⟨by have := hm.1.1; omega, fun x hx => by have := hm.1.2 x hx; omega⟩
theorem rowL_ge : ∀ l : List Comp, (l.length : Int) ≤ rowL l ∧ ∀ c ∈ l, rowC c ≤ rowL l
  | [] => ⟨by unfold rowL; simp, fun c hc => by cases hc⟩
  | c :: l => by
    obtain ⟨h1, h2⟩ := rowL_ge l
    have h3 := lin_lenC c
    have h4 := rowC_eq c
    have h5 := lin_lenL c.Comps
    rw [rowL_cons]
    refine ⟨by rw [List.length_cons]; omega, fun d hd => ?_⟩
    rcases List.mem_cons.1 hd with rfl | hd
    · omega
    · have := h2 d hd; omega
theorem RdC.okC {m : Nat} : ∀ {c : Comp}, RdC m c → rowC c ≤ 100000000 → OkC c := fun {c} h => by
  induction h with
  | @mk n p cs h1 h2 h3 _ ih =>
    intro hr
    have e : rowC (Comp.mk n p cs) = 2 + p.length + rowL cs := rowC_eq _
    obtain ⟨g1, g2⟩ := rowL_ge cs
    exact .mk (by omega) (fun x hx => right_okP (h3 x hx).1) (by omega) fun x hx => ih x hx (by have := g2 x hx; omega)
theorem comp_okC (s : Str) : (cR (compS s)).1.length ≤ 1000 ∧ ∀ x ∈ (cR (compS s)).1, OkC x := by
  cases h : compS s with
  | error e => exact ⟨Nat.zero_le _, fun x hx => by cases hx⟩
  | ok l =>
    obtain ⟨_, h2, _, h4⟩ := parse_right_all h
    obtain ⟨g1, g2⟩ := rowL_ge l
    exact ⟨by show l.length ≤ 1000; omega, fun x hx => (h4 x hx).okC (by have := g2 x hx; omega)⟩
end Go.Co
end
section

end
