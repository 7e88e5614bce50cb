/- 21 texts, one behind the other. -/
import Derived.Test.YtadgfmmmdhlljaaDoorP9
import Derived.Test.YtadgfmmmdhlljaaDoorP4
import Derived.Test.YtadgfmmmdhlljaaDoorP1
set_option linter.unusedVariables false
set_option linter.unusedSimpArgs false
section
namespace Go.Proofs.YtadgfmmmdhlljaaDoor
open Go Go.Wk Go.Wl Go.Rx Go.Fo Go.Li Go.Co 
def an39 : Nat → Ann := fun | 39 => ⟨177, fun | 7 => some ⟨[21, 22], [.slot 23 (.int .i64), .slot 6 (.acc 68), .chain 7 0 120 [.str, .acc 45, .acc 68, .int .i64], .alt, .slot 23 (.int .i64), .slot 6 (.acc 68), .chain 7 1 120 [.str, .acc 45, .acc 68, .int .i64], .alt, .slot 23 (.int .i64), .slot 6 (.acc 68), .chain 7 2 120 [.str, .acc 45, .acc 68, .int .i64], .alt, .slot 23 (.int .i64), .slot 6 (.acc 68), .chain 7 3 120 [.str, .acc 45, .acc 68, .int .i64], .alt, .slot 23 (.int .i64), .slot 6 (.acc 68), .chain 7 4 120 [.str, .acc 45, .acc 68, .int .i64], .alt, .slot 23 (.int .i64), .slot 6 (.acc 68), .chain 7 5 120 [.str, .acc 45, .acc 68, .int .i64], .alt, .slot 23 (.int .i64), .slot 6 (.acc 68), .chain 7 6 120 [.str, .acc 45, .acc 68, .int .i64]]⟩ | _ => none, fun _ => none⟩ | 86 => ⟨13, fun | 2 => some ⟨[], [.unr 8]⟩ | _ => none, fun _ => none⟩ | _ => ⟨0, fun _ => none, fun _ => none⟩
def V39 (s : Str) (Q : List Comp → Err → Prop) : Prop :=
List.length s ≤ (100000 : Nat) ∧ (uE (unfoldS s) ≠ Err.nil → Q [] (uE (unfoldS s))) ∧ (¬uE (unfoldS s) ≠ Err.nil → ∃ (I : Int → List Comp → Prop), ∃ (m : Int → List Comp → Nat), ∃ (I_1 : Int → List Comp → List UInt8 → List Prp → List Comp → Int → Prop), ∃ (m_1 : Int → List Comp → List UInt8 → List Prp → List Comp → Int → Nat), ∃ (I_2 : Int → List Comp → List UInt8 → List Prp → List Comp → Int → List UInt8 → List Prp → List Comp → Int → Prop), ∃ (m_2 : Int → List Comp → List UInt8 → List Prp → List Comp → Int → List UInt8 → List Prp → List Comp → Int → Nat), ∃ (I_3 : Int → List Comp → List UInt8 → List Prp → List Comp → Int → List UInt8 → List Prp → List Comp → Int → List UInt8 → List Prp → List Comp → Int → Prop), ∃ (m_3 : Int → List Comp → List UInt8 → List Prp → List Comp → Int → List UInt8 → List Prp → List Comp → Int → List UInt8 → List Prp → List Comp → Int → Nat), ∃ (I_4 : Int → List Comp → List UInt8 → List Prp → List Comp → Int → List UInt8 → List Prp → List Comp → Int → List UInt8 → List Prp → List Comp → Int → List UInt8 → List Prp → List Comp → Int → Prop), ∃ (m_4 : Int → List Comp → List UInt8 → List Prp → List Comp → Int → List UInt8 → List Prp → List Comp → Int → List UInt8 → List Prp → List Comp → Int → List UInt8 → List Prp → List Comp → Int → Nat), ∃ (I_5 : Int → List Comp → List UInt8 → List Prp → List Comp → Int → List UInt8 → List Prp → List Comp → Int → List UInt8 → List Prp → List Comp → Int → List UInt8 → List Prp → List Comp → Int → List UInt8 → List Prp → List Comp → Int → Prop), ∃ (m_5 : Int → List Comp → List UInt8 → List Prp → List Comp → Int → List UInt8 → List Prp → List Comp → Int → List UInt8 → List Prp → List Comp → Int → List UInt8 → List Prp → List Comp → Int → List UInt8 → List Prp → List Comp → Int → Nat), ∃ (I_6 : Int → List Comp → List UInt8 → List Prp → List Comp → Int → List UInt8 → List Prp → List Comp → Int → List UInt8 → List Prp → List Comp → Int → List UInt8 → List Prp → List Comp → Int → List UInt8 → List Prp → List Comp → Int → List UInt8 → List Prp → List Comp → Int → Prop), ∃ (m_6 : Int → List Comp → List UInt8 → List Prp → List Comp → Int → List UInt8 → List Prp → List Comp → Int → List UInt8 → List Prp → List Comp → Int → List UInt8 → List Prp → List Comp → Int → List UInt8 → List Prp → List Comp → Int → List UInt8 → List Prp → List Comp → Int → Nat), I (0 : Int) [] ∧ (∀ (x : Int) (x_1 : List Comp), I x x_1 → (x < (↑(uR (unfoldS s)).fst.length : Int) → (0 : Int) ≤ x ∧ x < (↑(uR (unfoldS s)).fst.length : Int) ∧ (in64 (ix (uR (unfoldS s)).fst x).At → List.length (ix (uR (unfoldS s)).fst x).Text ≤ (100000000 : Nat) ∧ ((parseS (ix (uR (unfoldS s)).fst x).Text).snd ≠ Err.nil → Q [] (atE (ix (uR (unfoldS s)).fst x).At (parseS (ix (uR (unfoldS s)).fst x).Text).snd)) ∧ (¬(parseS (ix (uR (unfoldS s)).fst x).Text).snd ≠ Err.nil → ((parseS (ix (uR (unfoldS s)).fst x).Text).fst.Name = [(66 : UInt8), (69 : UInt8), (71 : UInt8), (73 : UInt8), (78 : UInt8)] → ((parseS (ix (uR (unfoldS s)).fst x).Text).fst.Name = [(66 : UInt8), (69 : UInt8), (71 : UInt8), (73 : UInt8), (78 : UInt8)] → List.length (parseS (ix (uR (unfoldS s)).fst x).Text).fst.Value ≤ (10000000 : Nat) ∧ ((namedS (Prp.mk (parseS (ix (uR (unfoldS s)).fst x).Text).fst.Group (parseS (ix (uR (unfoldS s)).fst x).Text).fst.Name (parseS (ix (uR (unfoldS s)).fst x).Text).fst.Params (parseS (ix (uR (unfoldS s)).fst x).Text).fst.Value)).snd ≠ Err.nil → Q [] (atE (ix (uR (unfoldS s)).fst x).At (namedS (Prp.mk (parseS (ix (uR (unfoldS s)).fst x).Text).fst.Group (parseS (ix (uR (unfoldS s)).fst x).Text).fst.Name (parseS (ix (uR (unfoldS s)).fst x).Text).fst.Params (parseS (ix (uR (unfoldS s)).fst x).Text).fst.Value)).snd)) ∧ (¬(namedS (Prp.mk (parseS (ix (uR (unfoldS s)).fst x).Text).fst.Group (parseS (ix (uR (unfoldS s)).fst x).Text).fst.Name (parseS (ix (uR (unfoldS s)).fst x).Text).fst.Params (parseS (ix (uR (unfoldS s)).fst x).Text).fst.Value)).snd ≠ Err.nil → ((parseS (ix (uR (unfoldS s)).fst x).Text).fst.Name = [(66 : UInt8), (69 : UInt8), (71 : UInt8), (73 : UInt8), (78 : UInt8)] → in64 ((0 : Int) + (1 : Int)) ∧ ((6 : Int) < (0 : Int) + (1 : Int) → Q [] (atE (ix (uR (unfoldS s)).fst x).At (Err.no (12 : Int)))) ∧ (¬(6 : Int) < (0 : Int) + (1 : Int) → in64 (x + (1 : Int)) ∧ I_1 (x + (1 : Int)) x_1 (namedS (Prp.mk (parseS (ix (uR (unfoldS s)).fst x).Text).fst.Group (parseS (ix (uR (unfoldS s)).fst x).Text).fst.Name (parseS (ix (uR (unfoldS s)).fst x).Text).fst.Params (parseS (ix (uR (unfoldS s)).fst x).Text).fst.Value)).fst [] [] (ix (uR (unfoldS s)).fst x).At ∧ m_1 (x + (1 : Int)) x_1 (namedS (Prp.mk (parseS (ix (uR (unfoldS s)).fst x).Text).fst.Group (parseS (ix (uR (unfoldS s)).fst x).Text).fst.Name (parseS (ix (uR (unfoldS s)).fst x).Text).fst.Params (parseS (ix (uR (unfoldS s)).fst x).Text).fst.Value)).fst [] [] (ix (uR (unfoldS s)).fst x).At < m x x_1)) ∧ (¬(parseS (ix (uR (unfoldS s)).fst x).Text).fst.Name = [(66 : UInt8), (69 : UInt8), (71 : UInt8), (73 : UInt8), (78 : UInt8)] → Q [] (atE (ix (uR (unfoldS s)).fst x).At (Err.no (11 : Int)))))) ∧ (¬(parseS (ix (uR (unfoldS s)).fst x).Text).fst.Name = [(66 : UInt8), (69 : UInt8), (71 : UInt8), (73 : UInt8), (78 : UInt8)] → Q [] (atE (ix (uR (unfoldS s)).fst x).At (Err.no (11 : Int))))) ∧ (¬(parseS (ix (uR (unfoldS s)).fst x).Text).fst.Name = [(66 : UInt8), (69 : UInt8), (71 : UInt8), (73 : UInt8), (78 : UInt8)] → ((parseS (ix (uR (unfoldS s)).fst x).Text).fst.Name = [(69 : UInt8), (78 : UInt8), (68 : UInt8)] → List.length (parseS (ix (uR (unfoldS s)).fst x).Text).fst.Value ≤ (10000000 : Nat) ∧ ((namedS (Prp.mk (parseS (ix (uR (unfoldS s)).fst x).Text).fst.Group (parseS (ix (uR (unfoldS s)).fst x).Text).fst.Name (parseS (ix (uR (unfoldS s)).fst x).Text).fst.Params (parseS (ix (uR (unfoldS s)).fst x).Text).fst.Value)).snd ≠ Err.nil → Q [] (atE (ix (uR (unfoldS s)).fst x).At (namedS (Prp.mk (parseS (ix (uR (unfoldS s)).fst x).Text).fst.Group (parseS (ix (uR (unfoldS s)).fst x).Text).fst.Name (parseS (ix (uR (unfoldS s)).fst x).Text).fst.Params (parseS (ix (uR (unfoldS s)).fst x).Text).fst.Value)).snd)) ∧ (¬(namedS (Prp.mk (parseS (ix (uR (unfoldS s)).fst x).Text).fst.Group (parseS (ix (uR (unfoldS s)).fst x).Text).fst.Name (parseS (ix (uR (unfoldS s)).fst x).Text).fst.Params (parseS (ix (uR (unfoldS s)).fst x).Text).fst.Value)).snd ≠ Err.nil → ((parseS (ix (uR (unfoldS s)).fst x).Text).fst.Name = [(66 : UInt8), (69 : UInt8), (71 : UInt8), (73 : UInt8), (78 : UInt8)] → in64 ((0 : Int) + (1 : Int)) ∧ ((6 : Int) < (0 : Int) + (1 : Int) → Q [] (atE (ix (uR (unfoldS s)).fst x).At (Err.no (12 : Int)))) ∧ (¬(6 : Int) < (0 : Int) + (1 : Int) → in64 (x + (1 : Int)) ∧ I_1 (x + (1 : Int)) x_1 (namedS (Prp.mk (parseS (ix (uR (unfoldS s)).fst x).Text).fst.Group (parseS (ix (uR (unfoldS s)).fst x).Text).fst.Name (parseS (ix (uR (unfoldS s)).fst x).Text).fst.Params (parseS (ix (uR (unfoldS s)).fst x).Text).fst.Value)).fst [] [] (ix (uR (unfoldS s)).fst x).At ∧ m_1 (x + (1 : Int)) x_1 (namedS (Prp.mk (parseS (ix (uR (unfoldS s)).fst x).Text).fst.Group (parseS (ix (uR (unfoldS s)).fst x).Text).fst.Name (parseS (ix (uR (unfoldS s)).fst x).Text).fst.Params (parseS (ix (uR (unfoldS s)).fst x).Text).fst.Value)).fst [] [] (ix (uR (unfoldS s)).fst x).At < m x x_1)) ∧ (¬(parseS (ix (uR (unfoldS s)).fst x).Text).fst.Name = [(66 : UInt8), (69 : UInt8), (71 : UInt8), (73 : UInt8), (78 : UInt8)] → Q [] (atE (ix (uR (unfoldS s)).fst x).At (Err.no (11 : Int)))))) ∧ (¬(parseS (ix (uR (unfoldS s)).fst x).Text).fst.Name = [(69 : UInt8), (78 : UInt8), (68 : UInt8)] → Q [] (atE (ix (uR (unfoldS s)).fst x).At (Err.no (11 : Int)))))))) ∧ (¬x < (↑(uR (unfoldS s)).fst.length : Int) → Q x_1 Err.nil)) ∧ (∀ (x : Int) (x_1 : List Comp) (x_2 : List UInt8) (x_3 : List Prp) (x_4 : List Comp) (x_5 : Int), I_1 x x_1 x_2 x_3 x_4 x_5 → (x < (↑(uR (unfoldS s)).fst.length : Int) → (0 : Int) ≤ x ∧ x < (↑(uR (unfoldS s)).fst.length : Int) ∧ (in64 (ix (uR (unfoldS s)).fst x).At → List.length (ix (uR (unfoldS s)).fst x).Text ≤ (100000000 : Nat) ∧ ((parseS (ix (uR (unfoldS s)).fst x).Text).snd ≠ Err.nil → Q [] (atE (ix (uR (unfoldS s)).fst x).At (parseS (ix (uR (unfoldS s)).fst x).Text).snd)) ∧ (¬(parseS (ix (uR (unfoldS s)).fst x).Text).snd ≠ Err.nil → ((parseS (ix (uR (unfoldS s)).fst x).Text).fst.Name = [(66 : UInt8), (69 : UInt8), (71 : UInt8), (73 : UInt8), (78 : UInt8)] → ((parseS (ix (uR (unfoldS s)).fst x).Text).fst.Name = [(66 : UInt8), (69 : UInt8), (71 : UInt8), (73 : UInt8), (78 : UInt8)] → List.length (parseS (ix (uR (unfoldS s)).fst x).Text).fst.Value ≤ (10000000 : Nat) ∧ ((namedS (Prp.mk (parseS (ix (uR (unfoldS s)).fst x).Text).fst.Group (parseS (ix (uR (unfoldS s)).fst x).Text).fst.Name (parseS (ix (uR (unfoldS s)).fst x).Text).fst.Params (parseS (ix (uR (unfoldS s)).fst x).Text).fst.Value)).snd ≠ Err.nil → Q [] (atE (ix (uR (unfoldS s)).fst x).At (namedS (Prp.mk (parseS (ix (uR (unfoldS s)).fst x).Text).fst.Group (parseS (ix (uR (unfoldS s)).fst x).Text).fst.Name (parseS (ix (uR (unfoldS s)).fst x).Text).fst.Params (parseS (ix (uR (unfoldS s)).fst x).Text).fst.Value)).snd)) ∧ (¬(namedS (Prp.mk (parseS (ix (uR (unfoldS s)).fst x).Text).fst.Group (parseS (ix (uR (unfoldS s)).fst x).Text).fst.Name (parseS (ix (uR (unfoldS s)).fst x).Text).fst.Params (parseS (ix (uR (unfoldS s)).fst x).Text).fst.Value)).snd ≠ Err.nil → ((parseS (ix (uR (unfoldS s)).fst x).Text).fst.Name = [(66 : UInt8), (69 : UInt8), (71 : UInt8), (73 : UInt8), (78 : UInt8)] → in64 ((0 : Int) + (1 : Int)) ∧ in64 ((0 : Int) + (1 : Int) + (1 : Int)) ∧ ((6 : Int) < (0 : Int) + (1 : Int) + (1 : Int) → Q [] (atE (ix (uR (unfoldS s)).fst x).At (Err.no (12 : Int)))) ∧ (¬(6 : Int) < (0 : Int) + (1 : Int) + (1 : Int) → in64 (x + (1 : Int)) ∧ I_2 (x + (1 : Int)) x_1 (namedS (Prp.mk (parseS (ix (uR (unfoldS s)).fst x).Text).fst.Group (parseS (ix (uR (unfoldS s)).fst x).Text).fst.Name (parseS (ix (uR (unfoldS s)).fst x).Text).fst.Params (parseS (ix (uR (unfoldS s)).fst x).Text).fst.Value)).fst [] [] (ix (uR (unfoldS s)).fst x).At x_2 x_3 x_4 x_5 ∧ m_2 (x + (1 : Int)) x_1 (namedS (Prp.mk (parseS (ix (uR (unfoldS s)).fst x).Text).fst.Group (parseS (ix (uR (unfoldS s)).fst x).Text).fst.Name (parseS (ix (uR (unfoldS s)).fst x).Text).fst.Params (parseS (ix (uR (unfoldS s)).fst x).Text).fst.Value)).fst [] [] (ix (uR (unfoldS s)).fst x).At x_2 x_3 x_4 x_5 < m_1 x x_1 x_2 x_3 x_4 x_5)) ∧ (¬(parseS (ix (uR (unfoldS s)).fst x).Text).fst.Name = [(66 : UInt8), (69 : UInt8), (71 : UInt8), (73 : UInt8), (78 : UInt8)] → ((parseS (ix (uR (unfoldS s)).fst x).Text).fst.Name = [(69 : UInt8), (78 : UInt8), (68 : UInt8)] ∧ x_2 ≠ (namedS (Prp.mk (parseS (ix (uR (unfoldS s)).fst x).Text).fst.Group (parseS (ix (uR (unfoldS s)).fst x).Text).fst.Name (parseS (ix (uR (unfoldS s)).fst x).Text).fst.Params (parseS (ix (uR (unfoldS s)).fst x).Text).fst.Value)).fst → Q [] (atE (ix (uR (unfoldS s)).fst x).At (Err.no (11 : Int)))) ∧ (¬((parseS (ix (uR (unfoldS s)).fst x).Text).fst.Name = [(69 : UInt8), (78 : UInt8), (68 : UInt8)] ∧ x_2 ≠ (namedS (Prp.mk (parseS (ix (uR (unfoldS s)).fst x).Text).fst.Group (parseS (ix (uR (unfoldS s)).fst x).Text).fst.Name (parseS (ix (uR (unfoldS s)).fst x).Text).fst.Params (parseS (ix (uR (unfoldS s)).fst x).Text).fst.Value)).fst) → ((parseS (ix (uR (unfoldS s)).fst x).Text).fst.Name ≠ [(69 : UInt8), (78 : UInt8), (68 : UInt8)] → (x_3.length + [Prp.mk (parseS (ix (uR (unfoldS s)).fst x).Text).fst.Group (parseS (ix (uR (unfoldS s)).fst x).Text).fst.Name (parseS (ix (uR (unfoldS s)).fst x).Text).fst.Params (parseS (ix (uR (unfoldS s)).fst x).Text).fst.Value].length) * (some (72 : Nat)).getD (0 : Nat) ≤ (140737488355328 : Nat) ∧ in64 (x + (1 : Int)) ∧ I_1 (x + (1 : Int)) x_1 x_2 (x_3 ++ [Prp.mk (parseS (ix (uR (unfoldS s)).fst x).Text).fst.Group (parseS (ix (uR (unfoldS s)).fst x).Text).fst.Name (parseS (ix (uR (unfoldS s)).fst x).Text).fst.Params (parseS (ix (uR (unfoldS s)).fst x).Text).fst.Value]) x_4 x_5 ∧ m_1 (x + (1 : Int)) x_1 x_2 (x_3 ++ [Prp.mk (parseS (ix (uR (unfoldS s)).fst x).Text).fst.Group (parseS (ix (uR (unfoldS s)).fst x).Text).fst.Name (parseS (ix (uR (unfoldS s)).fst x).Text).fst.Params (parseS (ix (uR (unfoldS s)).fst x).Text).fst.Value]) x_4 x_5 < m_1 x x_1 x_2 x_3 x_4 x_5) ∧ (¬(parseS (ix (uR (unfoldS s)).fst x).Text).fst.Name ≠ [(69 : UInt8), (78 : UInt8), (68 : UInt8)] → (x_1.length + [Comp.mk x_2 x_3 x_4].length) * (some (64 : Nat)).getD (0 : Nat) ≤ (140737488355328 : Nat) ∧ in64 (x + (1 : Int)) ∧ I (x + (1 : Int)) (x_1 ++ [Comp.mk x_2 x_3 x_4]) ∧ m (x + (1 : Int)) (x_1 ++ [Comp.mk x_2 x_3 x_4]) < m_1 x x_1 x_2 x_3 x_4 x_5))))) ∧ (¬(parseS (ix (uR (unfoldS s)).fst x).Text).fst.Name = [(66 : UInt8), (69 : UInt8), (71 : UInt8), (73 : UInt8), (78 : UInt8)] → ((parseS (ix (uR (unfoldS s)).fst x).Text).fst.Name = [(69 : UInt8), (78 : UInt8), (68 : UInt8)] ∧ x_2 ≠ [] → Q [] (atE (ix (uR (unfoldS s)).fst x).At (Err.no (11 : Int)))) ∧ (¬((parseS (ix (uR (unfoldS s)).fst x).Text).fst.Name = [(69 : UInt8), (78 : UInt8), (68 : UInt8)] ∧ x_2 ≠ []) → ((parseS (ix (uR (unfoldS s)).fst x).Text).fst.Name ≠ [(69 : UInt8), (78 : UInt8), (68 : UInt8)] → (x_3.length + [Prp.mk (parseS (ix (uR (unfoldS s)).fst x).Text).fst.Group (parseS (ix (uR (unfoldS s)).fst x).Text).fst.Name (parseS (ix (uR (unfoldS s)).fst x).Text).fst.Params (parseS (ix (uR (unfoldS s)).fst x).Text).fst.Value].length) * (some (72 : Nat)).getD (0 : Nat) ≤ (140737488355328 : Nat) ∧ in64 (x + (1 : Int)) ∧ I_1 (x + (1 : Int)) x_1 x_2 (x_3 ++ [Prp.mk (parseS (ix (uR (unfoldS s)).fst x).Text).fst.Group (parseS (ix (uR (unfoldS s)).fst x).Text).fst.Name (parseS (ix (uR (unfoldS s)).fst x).Text).fst.Params (parseS (ix (uR (unfoldS s)).fst x).Text).fst.Value]) x_4 x_5 ∧ m_1 (x + (1 : Int)) x_1 x_2 (x_3 ++ [Prp.mk (parseS (ix (uR (unfoldS s)).fst x).Text).fst.Group (parseS (ix (uR (unfoldS s)).fst x).Text).fst.Name (parseS (ix (uR (unfoldS s)).fst x).Text).fst.Params (parseS (ix (uR (unfoldS s)).fst x).Text).fst.Value]) x_4 x_5 < m_1 x x_1 x_2 x_3 x_4 x_5) ∧ (¬(parseS (ix (uR (unfoldS s)).fst x).Text).fst.Name ≠ [(69 : UInt8), (78 : UInt8), (68 : UInt8)] → (x_1.length + [Comp.mk x_2 x_3 x_4].length) * (some (64 : Nat)).getD (0 : Nat) ≤ (140737488355328 : Nat) ∧ in64 (x + (1 : Int)) ∧ I (x + (1 : Int)) (x_1 ++ [Comp.mk x_2 x_3 x_4]) ∧ m (x + (1 : Int)) (x_1 ++ [Comp.mk x_2 x_3 x_4]) < m_1 x x_1 x_2 x_3 x_4 x_5)))) ∧ (¬(parseS (ix (uR (unfoldS s)).fst x).Text).fst.Name = [(66 : UInt8), (69 : UInt8), (71 : UInt8), (73 : UInt8), (78 : UInt8)] → ((parseS (ix (uR (unfoldS s)).fst x).Text).fst.Name = [(69 : UInt8), (78 : UInt8), (68 : UInt8)] → List.length (parseS (ix (uR (unfoldS s)).fst x).Text).fst.Value ≤ (10000000 : Nat) ∧ ((namedS (Prp.mk (parseS (ix (uR (unfoldS s)).fst x).Text).fst.Group (parseS (ix (uR (unfoldS s)).fst x).Text).fst.Name (parseS (ix (uR (unfoldS s)).fst x).Text).fst.Params (parseS (ix (uR (unfoldS s)).fst x).Text).fst.Value)).snd ≠ Err.nil → Q [] (atE (ix (uR (unfoldS s)).fst x).At (namedS (Prp.mk (parseS (ix (uR (unfoldS s)).fst x).Text).fst.Group (parseS (ix (uR (unfoldS s)).fst x).Text).fst.Name (parseS (ix (uR (unfoldS s)).fst x).Text).fst.Params (parseS (ix (uR (unfoldS s)).fst x).Text).fst.Value)).snd)) ∧ (¬(namedS (Prp.mk (parseS (ix (uR (unfoldS s)).fst x).Text).fst.Group (parseS (ix (uR (unfoldS s)).fst x).Text).fst.Name (parseS (ix (uR (unfoldS s)).fst x).Text).fst.Params (parseS (ix (uR (unfoldS s)).fst x).Text).fst.Value)).snd ≠ Err.nil → ((parseS (ix (uR (unfoldS s)).fst x).Text).fst.Name = [(66 : UInt8), (69 : UInt8), (71 : UInt8), (73 : UInt8), (78 : UInt8)] → in64 ((0 : Int) + (1 : Int)) ∧ in64 ((0 : Int) + (1 : Int) + (1 : Int)) ∧ ((6 : Int) < (0 : Int) + (1 : Int) + (1 : Int) → Q [] (atE (ix (uR (unfoldS s)).fst x).At (Err.no (12 : Int)))) ∧ (¬(6 : Int) < (0 : Int) + (1 : Int) + (1 : Int) → in64 (x + (1 : Int)) ∧ I_2 (x + (1 : Int)) x_1 (namedS (Prp.mk (parseS (ix (uR (unfoldS s)).fst x).Text).fst.Group (parseS (ix (uR (unfoldS s)).fst x).Text).fst.Name (parseS (ix (uR (unfoldS s)).fst x).Text).fst.Params (parseS (ix (uR (unfoldS s)).fst x).Text).fst.Value)).fst [] [] (ix (uR (unfoldS s)).fst x).At x_2 x_3 x_4 x_5 ∧ m_2 (x + (1 : Int)) x_1 (namedS (Prp.mk (parseS (ix (uR (unfoldS s)).fst x).Text).fst.Group (parseS (ix (uR (unfoldS s)).fst x).Text).fst.Name (parseS (ix (uR (unfoldS s)).fst x).Text).fst.Params (parseS (ix (uR (unfoldS s)).fst x).Text).fst.Value)).fst [] [] (ix (uR (unfoldS s)).fst x).At x_2 x_3 x_4 x_5 < m_1 x x_1 x_2 x_3 x_4 x_5)) ∧ (¬(parseS (ix (uR (unfoldS s)).fst x).Text).fst.Name = [(66 : UInt8), (69 : UInt8), (71 : UInt8), (73 : UInt8), (78 : UInt8)] → ((parseS (ix (uR (unfoldS s)).fst x).Text).fst.Name = [(69 : UInt8), (78 : UInt8), (68 : UInt8)] ∧ x_2 ≠ (namedS (Prp.mk (parseS (ix (uR (unfoldS s)).fst x).Text).fst.Group (parseS (ix (uR (unfoldS s)).fst x).Text).fst.Name (parseS (ix (uR (unfoldS s)).fst x).Text).fst.Params (parseS (ix (uR (unfoldS s)).fst x).Text).fst.Value)).fst → Q [] (atE (ix (uR (unfoldS s)).fst x).At (Err.no (11 : Int)))) ∧ (¬((parseS (ix (uR (unfoldS s)).fst x).Text).fst.Name = [(69 : UInt8), (78 : UInt8), (68 : UInt8)] ∧ x_2 ≠ (namedS (Prp.mk (parseS (ix (uR (unfoldS s)).fst x).Text).fst.Group (parseS (ix (uR (unfoldS s)).fst x).Text).fst.Name (parseS (ix (uR (unfoldS s)).fst x).Text).fst.Params (parseS (ix (uR (unfoldS s)).fst x).Text).fst.Value)).fst) → ((parseS (ix (uR (unfoldS s)).fst x).Text).fst.Name ≠ [(69 : UInt8), (78 : UInt8), (68 : UInt8)] → (x_3.length + [Prp.mk (parseS (ix (uR (unfoldS s)).fst x).Text).fst.Group (parseS (ix (uR (unfoldS s)).fst x).Text).fst.Name (parseS (ix (uR (unfoldS s)).fst x).Text).fst.Params (parseS (ix (uR (unfoldS s)).fst x).Text).fst.Value].length) * (some (72 : Nat)).getD (0 : Nat) ≤ (140737488355328 : Nat) ∧ in64 (x + (1 : Int)) ∧ I_1 (x + (1 : Int)) x_1 x_2 (x_3 ++ [Prp.mk (parseS (ix (uR (unfoldS s)).fst x).Text).fst.Group (parseS (ix (uR (unfoldS s)).fst x).Text).fst.Name (parseS (ix (uR (unfoldS s)).fst x).Text).fst.Params (parseS (ix (uR (unfoldS s)).fst x).Text).fst.Value]) x_4 x_5 ∧ m_1 (x + (1 : Int)) x_1 x_2 (x_3 ++ [Prp.mk (parseS (ix (uR (unfoldS s)).fst x).Text).fst.Group (parseS (ix (uR (unfoldS s)).fst x).Text).fst.Name (parseS (ix (uR (unfoldS s)).fst x).Text).fst.Params (parseS (ix (uR (unfoldS s)).fst x).Text).fst.Value]) x_4 x_5 < m_1 x x_1 x_2 x_3 x_4 x_5) ∧ (¬(parseS (ix (uR (unfoldS s)).fst x).Text).fst.Name ≠ [(69 : UInt8), (78 : UInt8), (68 : UInt8)] → (x_1.length + [Comp.mk x_2 x_3 x_4].length) * (some (64 : Nat)).getD (0 : Nat) ≤ (140737488355328 : Nat) ∧ in64 (x + (1 : Int)) ∧ I (x + (1 : Int)) (x_1 ++ [Comp.mk x_2 x_3 x_4]) ∧ m (x + (1 : Int)) (x_1 ++ [Comp.mk x_2 x_3 x_4]) < m_1 x x_1 x_2 x_3 x_4 x_5))))) ∧ (¬(parseS (ix (uR (unfoldS s)).fst x).Text).fst.Name = [(69 : UInt8), (78 : UInt8), (68 : UInt8)] → ((parseS (ix (uR (unfoldS s)).fst x).Text).fst.Name = [(69 : UInt8), (78 : UInt8), (68 : UInt8)] ∧ x_2 ≠ [] → Q [] (atE (ix (uR (unfoldS s)).fst x).At (Err.no (11 : Int)))) ∧ (¬((parseS (ix (uR (unfoldS s)).fst x).Text).fst.Name = [(69 : UInt8), (78 : UInt8), (68 : UInt8)] ∧ x_2 ≠ []) → ((parseS (ix (uR (unfoldS s)).fst x).Text).fst.Name ≠ [(69 : UInt8), (78 : UInt8), (68 : UInt8)] → (x_3.length + [Prp.mk (parseS (ix (uR (unfoldS s)).fst x).Text).fst.Group (parseS (ix (uR (unfoldS s)).fst x).Text).fst.Name (parseS (ix (uR (unfoldS s)).fst x).Text).fst.Params (parseS (ix (uR (unfoldS s)).fst x).Text).fst.Value].length) * (some (72 : Nat)).getD (0 : Nat) ≤ (140737488355328 : Nat) ∧ in64 (x + (1 : Int)) ∧ I_1 (x + (1 : Int)) x_1 x_2 (x_3 ++ [Prp.mk (parseS (ix (uR (unfoldS s)).fst x).Text).fst.Group (parseS (ix (uR (unfoldS s)).fst x).Text).fst.Name (parseS (ix (uR (unfoldS s)).fst x).Text).fst.Params (parseS (ix (uR (unfoldS s)).fst x).Text).fst.Value]) x_4 x_5 ∧ m_1 (x + (1 : Int)) x_1 x_2 (x_3 ++ [Prp.mk (parseS (ix (uR (unfoldS s)).fst x).Text).fst.Group (parseS (ix (uR (unfoldS s)).fst x).Text).fst.Name (parseS (ix (uR (unfoldS s)).fst x).Text).fst.Params (parseS (ix (uR (unfoldS s)).fst x).Text).fst.Value]) x_4 x_5 < m_1 x x_1 x_2 x_3 x_4 x_5) ∧ (¬(parseS (ix (uR (unfoldS s)).fst x).Text).fst.Name ≠ [(69 : UInt8), (78 : UInt8), (68 : UInt8)] → (x_1.length + [Comp.mk x_2 x_3 x_4].length) * (some (64 : Nat)).getD (0 : Nat) ≤ (140737488355328 : Nat) ∧ in64 (x + (1 : Int)) ∧ I (x + (1 : Int)) (x_1 ++ [Comp.mk x_2 x_3 x_4]) ∧ m (x + (1 : Int)) (x_1 ++ [Comp.mk x_2 x_3 x_4]) < m_1 x x_1 x_2 x_3 x_4 x_5))))))) ∧ (¬x < (↑(uR (unfoldS s)).fst.length : Int) → Q [] (atE x_5 (Err.no (11 : Int))))) ∧ (∀ (x : Int) (x_1 : List Comp) (x_2 : List UInt8) (x_3 : List Prp) (x_4 : List Comp) (x_5 : Int) (x_6 : List UInt8) (x_7 : List Prp) (x_8 : List Comp) (x_9 : Int), I_2 x x_1 x_2 x_3 x_4 x_5 x_6 x_7 x_8 x_9 → (x < (↑(uR (unfoldS s)).fst.length : Int) → (0 : Int) ≤ x ∧ x < (↑(uR (unfoldS s)).fst.length : Int) ∧ (in64 (ix (uR (unfoldS s)).fst x).At → List.length (ix (uR (unfoldS s)).fst x).Text ≤ (100000000 : Nat) ∧ ((parseS (ix (uR (unfoldS s)).fst x).Text).snd ≠ Err.nil → Q [] (atE (ix (uR (unfoldS s)).fst x).At (parseS (ix (uR (unfoldS s)).fst x).Text).snd)) ∧ (¬(parseS (ix (uR (unfoldS s)).fst x).Text).snd ≠ Err.nil → ((parseS (ix (uR (unfoldS s)).fst x).Text).fst.Name = [(66 : UInt8), (69 : UInt8), (71 : UInt8), (73 : UInt8), (78 : UInt8)] → ((parseS (ix (uR (unfoldS s)).fst x).Text).fst.Name = [(66 : UInt8), (69 : UInt8), (71 : UInt8), (73 : UInt8), (78 : UInt8)] → List.length (parseS (ix (uR (unfoldS s)).fst x).Text).fst.Value ≤ (10000000 : Nat) ∧ ((namedS (Prp.mk (parseS (ix (uR (unfoldS s)).fst x).Text).fst.Group (parseS (ix (uR (unfoldS s)).fst x).Text).fst.Name (parseS (ix (uR (unfoldS s)).fst x).Text).fst.Params (parseS (ix (uR (unfoldS s)).fst x).Text).fst.Value)).snd ≠ Err.nil → Q [] (atE (ix (uR (unfoldS s)).fst x).At (namedS (Prp.mk (parseS (ix (uR (unfoldS s)).fst x).Text).fst.Group (parseS (ix (uR (unfoldS s)).fst x).Text).fst.Name (parseS (ix (uR (unfoldS s)).fst x).Text).fst.Params (parseS (ix (uR (unfoldS s)).fst x).Text).fst.Value)).snd)) ∧ (¬(namedS (Prp.mk (parseS (ix (uR (unfoldS s)).fst x).Text).fst.Group (parseS (ix (uR (unfoldS s)).fst x).Text).fst.Name (parseS (ix (uR (unfoldS s)).fst x).Text).fst.Params (parseS (ix (uR (unfoldS s)).fst x).Text).fst.Value)).snd ≠ Err.nil → ((parseS (ix (uR (unfoldS s)).fst x).Text).fst.Name = [(66 : UInt8), (69 : UInt8), (71 : UInt8), (73 : UInt8), (78 : UInt8)] → in64 ((0 : Int) + (1 : Int)) ∧ in64 ((0 : Int) + (1 : Int) + (1 : Int)) ∧ in64 ((0 : Int) + (1 : Int) + (1 : Int) + (1 : Int)) ∧ ((6 : Int) < (0 : Int) + (1 : Int) + (1 : Int) + (1 : Int) → Q [] (atE (ix (uR (unfoldS s)).fst x).At (Err.no (12 : Int)))) ∧ (¬(6 : Int) < (0 : Int) + (1 : Int) + (1 : Int) + (1 : Int) → in64 (x + (1 : Int)) ∧ I_3 (x + (1 : Int)) x_1 (namedS (Prp.mk (parseS (ix (uR (unfoldS s)).fst x).Text).fst.Group (parseS (ix (uR (unfoldS s)).fst x).Text).fst.Name (parseS (ix (uR (unfoldS s)).fst x).Text).fst.Params (parseS (ix (uR (unfoldS s)).fst x).Text).fst.Value)).fst [] [] (ix (uR (unfoldS s)).fst x).At x_2 x_3 x_4 x_5 x_6 x_7 x_8 x_9 ∧ m_3 (x + (1 : Int)) x_1 (namedS (Prp.mk (parseS (ix (uR (unfoldS s)).fst x).Text).fst.Group (parseS (ix (uR (unfoldS s)).fst x).Text).fst.Name (parseS (ix (uR (unfoldS s)).fst x).Text).fst.Params (parseS (ix (uR (unfoldS s)).fst x).Text).fst.Value)).fst [] [] (ix (uR (unfoldS s)).fst x).At x_2 x_3 x_4 x_5 x_6 x_7 x_8 x_9 < m_2 x x_1 x_2 x_3 x_4 x_5 x_6 x_7 x_8 x_9)) ∧ (¬(parseS (ix (uR (unfoldS s)).fst x).Text).fst.Name = [(66 : UInt8), (69 : UInt8), (71 : UInt8), (73 : UInt8), (78 : UInt8)] → ((parseS (ix (uR (unfoldS s)).fst x).Text).fst.Name = [(69 : UInt8), (78 : UInt8), (68 : UInt8)] ∧ x_2 ≠ (namedS (Prp.mk (parseS (ix (uR (unfoldS s)).fst x).Text).fst.Group (parseS (ix (uR (unfoldS s)).fst x).Text).fst.Name (parseS (ix (uR (unfoldS s)).fst x).Text).fst.Params (parseS (ix (uR (unfoldS s)).fst x).Text).fst.Value)).fst → Q [] (atE (ix (uR (unfoldS s)).fst x).At (Err.no (11 : Int)))) ∧ (¬((parseS (ix (uR (unfoldS s)).fst x).Text).fst.Name = [(69 : UInt8), (78 : UInt8), (68 : UInt8)] ∧ x_2 ≠ (namedS (Prp.mk (parseS (ix (uR (unfoldS s)).fst x).Text).fst.Group (parseS (ix (uR (unfoldS s)).fst x).Text).fst.Name (parseS (ix (uR (unfoldS s)).fst x).Text).fst.Params (parseS (ix (uR (unfoldS s)).fst x).Text).fst.Value)).fst) → ((parseS (ix (uR (unfoldS s)).fst x).Text).fst.Name ≠ [(69 : UInt8), (78 : UInt8), (68 : UInt8)] → (x_3.length + [Prp.mk (parseS (ix (uR (unfoldS s)).fst x).Text).fst.Group (parseS (ix (uR (unfoldS s)).fst x).Text).fst.Name (parseS (ix (uR (unfoldS s)).fst x).Text).fst.Params (parseS (ix (uR (unfoldS s)).fst x).Text).fst.Value].length) * (some (72 : Nat)).getD (0 : Nat) ≤ (140737488355328 : Nat) ∧ in64 (x + (1 : Int)) ∧ I_2 (x + (1 : Int)) x_1 x_2 (x_3 ++ [Prp.mk (parseS (ix (uR (unfoldS s)).fst x).Text).fst.Group (parseS (ix (uR (unfoldS s)).fst x).Text).fst.Name (parseS (ix (uR (unfoldS s)).fst x).Text).fst.Params (parseS (ix (uR (unfoldS s)).fst x).Text).fst.Value]) x_4 x_5 x_6 x_7 x_8 x_9 ∧ m_2 (x + (1 : Int)) x_1 x_2 (x_3 ++ [Prp.mk (parseS (ix (uR (unfoldS s)).fst x).Text).fst.Group (parseS (ix (uR (unfoldS s)).fst x).Text).fst.Name (parseS (ix (uR (unfoldS s)).fst x).Text).fst.Params (parseS (ix (uR (unfoldS s)).fst x).Text).fst.Value]) x_4 x_5 x_6 x_7 x_8 x_9 < m_2 x x_1 x_2 x_3 x_4 x_5 x_6 x_7 x_8 x_9) ∧ (¬(parseS (ix (uR (unfoldS s)).fst x).Text).fst.Name ≠ [(69 : UInt8), (78 : UInt8), (68 : UInt8)] → ((x_8.length + [Comp.mk [] [] []].length) * (some (64 : Nat)).getD (0 : Nat) ≤ (140737488355328 : Nat) ∧ (0 : Int) ≤ (↑x_8.length : Int) ∧ (↑x_8.length : Int) < (↑(x_8 ++ [Comp.mk [] [] []]).length : Int) ∧ in64 (x + (1 : Int)) ∧ I_1 (x + (1 : Int)) x_1 x_6 x_7 ((x_8 ++ [Comp.mk [] [] []]).set (↑x_8.length : Int).toNat (Comp.mk x_2 x_3 x_4)) x_9 ∧ m_1 (x + (1 : Int)) x_1 x_6 x_7 ((x_8 ++ [Comp.mk [] [] []]).set (↑x_8.length : Int).toNat (Comp.mk x_2 x_3 x_4)) x_9 < m_2 x x_1 x_2 x_3 x_4 x_5 x_6 x_7 x_8 x_9) ∧ (x_8.length + [Comp.mk x_2 x_3 x_4].length) * (some (64 : Nat)).getD (0 : Nat) ≤ (140737488355328 : Nat) ∧ in64 (x + (1 : Int)) ∧ I_1 (x + (1 : Int)) x_1 x_6 x_7 (x_8 ++ [Comp.mk x_2 x_3 x_4]) x_9 ∧ m_1 (x + (1 : Int)) x_1 x_6 x_7 (x_8 ++ [Comp.mk x_2 x_3 x_4]) x_9 < m_2 x x_1 x_2 x_3 x_4 x_5 x_6 x_7 x_8 x_9))))) ∧ (¬(parseS (ix (uR (unfoldS s)).fst x).Text).fst.Name = [(66 : UInt8), (69 : UInt8), (71 : UInt8), (73 : UInt8), (78 : UInt8)] → ((parseS (ix (uR (unfoldS s)).fst x).Text).fst.Name = [(69 : UInt8), (78 : UInt8), (68 : UInt8)] ∧ x_2 ≠ [] → Q [] (atE (ix (uR (unfoldS s)).fst x).At (Err.no (11 : Int)))) ∧ (¬((parseS (ix (uR (unfoldS s)).fst x).Text).fst.Name = [(69 : UInt8), (78 : UInt8), (68 : UInt8)] ∧ x_2 ≠ []) → ((parseS (ix (uR (unfoldS s)).fst x).Text).fst.Name ≠ [(69 : UInt8), (78 : UInt8), (68 : UInt8)] → (x_3.length + [Prp.mk (parseS (ix (uR (unfoldS s)).fst x).Text).fst.Group (parseS (ix (uR (unfoldS s)).fst x).Text).fst.Name (parseS (ix (uR (unfoldS s)).fst x).Text).fst.Params (parseS (ix (uR (unfoldS s)).fst x).Text).fst.Value].length) * (some (72 : Nat)).getD (0 : Nat) ≤ (140737488355328 : Nat) ∧ in64 (x + (1 : Int)) ∧ I_2 (x + (1 : Int)) x_1 x_2 (x_3 ++ [Prp.mk (parseS (ix (uR (unfoldS s)).fst x).Text).fst.Group (parseS (ix (uR (unfoldS s)).fst x).Text).fst.Name (parseS (ix (uR (unfoldS s)).fst x).Text).fst.Params (parseS (ix (uR (unfoldS s)).fst x).Text).fst.Value]) x_4 x_5 x_6 x_7 x_8 x_9 ∧ m_2 (x + (1 : Int)) x_1 x_2 (x_3 ++ [Prp.mk (parseS (ix (uR (unfoldS s)).fst x).Text).fst.Group (parseS (ix (uR (unfoldS s)).fst x).Text).fst.Name (parseS (ix (uR (unfoldS s)).fst x).Text).fst.Params (parseS (ix (uR (unfoldS s)).fst x).Text).fst.Value]) x_4 x_5 x_6 x_7 x_8 x_9 < m_2 x x_1 x_2 x_3 x_4 x_5 x_6 x_7 x_8 x_9) ∧ (¬(parseS (ix (uR (unfoldS s)).fst x).Text).fst.Name ≠ [(69 : UInt8), (78 : UInt8), (68 : UInt8)] → ((x_8.length + [Comp.mk [] [] []].length) * (some (64 : Nat)).getD (0 : Nat) ≤ (140737488355328 : Nat) ∧ (0 : Int) ≤ (↑x_8.length : Int) ∧ (↑x_8.length : Int) < (↑(x_8 ++ [Comp.mk [] [] []]).length : Int) ∧ in64 (x + (1 : Int)) ∧ I_1 (x + (1 : Int)) x_1 x_6 x_7 ((x_8 ++ [Comp.mk [] [] []]).set (↑x_8.length : Int).toNat (Comp.mk x_2 x_3 x_4)) x_9 ∧ m_1 (x + (1 : Int)) x_1 x_6 x_7 ((x_8 ++ [Comp.mk [] [] []]).set (↑x_8.length : Int).toNat (Comp.mk x_2 x_3 x_4)) x_9 < m_2 x x_1 x_2 x_3 x_4 x_5 x_6 x_7 x_8 x_9) ∧ (x_8.length + [Comp.mk x_2 x_3 x_4].length) * (some (64 : Nat)).getD (0 : Nat) ≤ (140737488355328 : Nat) ∧ in64 (x + (1 : Int)) ∧ I_1 (x + (1 : Int)) x_1 x_6 x_7 (x_8 ++ [Comp.mk x_2 x_3 x_4]) x_9 ∧ m_1 (x + (1 : Int)) x_1 x_6 x_7 (x_8 ++ [Comp.mk x_2 x_3 x_4]) x_9 < m_2 x x_1 x_2 x_3 x_4 x_5 x_6 x_7 x_8 x_9)))) ∧ (¬(parseS (ix (uR (unfoldS s)).fst x).Text).fst.Name = [(66 : UInt8), (69 : UInt8), (71 : UInt8), (73 : UInt8), (78 : UInt8)] → ((parseS (ix (uR (unfoldS s)).fst x).Text).fst.Name = [(69 : UInt8), (78 : UInt8), (68 : UInt8)] → List.length (parseS (ix (uR (unfoldS s)).fst x).Text).fst.Value ≤ (10000000 : Nat) ∧ ((namedS (Prp.mk (parseS (ix (uR (unfoldS s)).fst x).Text).fst.Group (parseS (ix (uR (unfoldS s)).fst x).Text).fst.Name (parseS (ix (uR (unfoldS s)).fst x).Text).fst.Params (parseS (ix (uR (unfoldS s)).fst x).Text).fst.Value)).snd ≠ Err.nil → Q [] (atE (ix (uR (unfoldS s)).fst x).At (namedS (Prp.mk (parseS (ix (uR (unfoldS s)).fst x).Text).fst.Group (parseS (ix (uR (unfoldS s)).fst x).Text).fst.Name (parseS (ix (uR (unfoldS s)).fst x).Text).fst.Params (parseS (ix (uR (unfoldS s)).fst x).Text).fst.Value)).snd)) ∧ (¬(namedS (Prp.mk (parseS (ix (uR (unfoldS s)).fst x).Text).fst.Group (parseS (ix (uR (unfoldS s)).fst x).Text).fst.Name (parseS (ix (uR (unfoldS s)).fst x).Text).fst.Params (parseS (ix (uR (unfoldS s)).fst x).Text).fst.Value)).snd ≠ Err.nil → ((parseS (ix (uR (unfoldS s)).fst x).Text).fst.Name = [(66 : UInt8), (69 : UInt8), (71 : UInt8), (73 : UInt8), (78 : UInt8)] → in64 ((0 : Int) + (1 : Int)) ∧ in64 ((0 : Int) + (1 : Int) + (1 : Int)) ∧ in64 ((0 : Int) + (1 : Int) + (1 : Int) + (1 : Int)) ∧ ((6 : Int) < (0 : Int) + (1 : Int) + (1 : Int) + (1 : Int) → Q [] (atE (ix (uR (unfoldS s)).fst x).At (Err.no (12 : Int)))) ∧ (¬(6 : Int) < (0 : Int) + (1 : Int) + (1 : Int) + (1 : Int) → in64 (x + (1 : Int)) ∧ I_3 (x + (1 : Int)) x_1 (namedS (Prp.mk (parseS (ix (uR (unfoldS s)).fst x).Text).fst.Group (parseS (ix (uR (unfoldS s)).fst x).Text).fst.Name (parseS (ix (uR (unfoldS s)).fst x).Text).fst.Params (parseS (ix (uR (unfoldS s)).fst x).Text).fst.Value)).fst [] [] (ix (uR (unfoldS s)).fst x).At x_2 x_3 x_4 x_5 x_6 x_7 x_8 x_9 ∧ m_3 (x + (1 : Int)) x_1 (namedS (Prp.mk (parseS (ix (uR (unfoldS s)).fst x).Text).fst.Group (parseS (ix (uR (unfoldS s)).fst x).Text).fst.Name (parseS (ix (uR (unfoldS s)).fst x).Text).fst.Params (parseS (ix (uR (unfoldS s)).fst x).Text).fst.Value)).fst [] [] (ix (uR (unfoldS s)).fst x).At x_2 x_3 x_4 x_5 x_6 x_7 x_8 x_9 < m_2 x x_1 x_2 x_3 x_4 x_5 x_6 x_7 x_8 x_9)) ∧ (¬(parseS (ix (uR (unfoldS s)).fst x).Text).fst.Name = [(66 : UInt8), (69 : UInt8), (71 : UInt8), (73 : UInt8), (78 : UInt8)] → ((parseS (ix (uR (unfoldS s)).fst x).Text).fst.Name = [(69 : UInt8), (78 : UInt8), (68 : UInt8)] ∧ x_2 ≠ (namedS (Prp.mk (parseS (ix (uR (unfoldS s)).fst x).Text).fst.Group (parseS (ix (uR (unfoldS s)).fst x).Text).fst.Name (parseS (ix (uR (unfoldS s)).fst x).Text).fst.Params (parseS (ix (uR (unfoldS s)).fst x).Text).fst.Value)).fst → Q [] (atE (ix (uR (unfoldS s)).fst x).At (Err.no (11 : Int)))) ∧ (¬((parseS (ix (uR (unfoldS s)).fst x).Text).fst.Name = [(69 : UInt8), (78 : UInt8), (68 : UInt8)] ∧ x_2 ≠ (namedS (Prp.mk (parseS (ix (uR (unfoldS s)).fst x).Text).fst.Group (parseS (ix (uR (unfoldS s)).fst x).Text).fst.Name (parseS (ix (uR (unfoldS s)).fst x).Text).fst.Params (parseS (ix (uR (unfoldS s)).fst x).Text).fst.Value)).fst) → ((parseS (ix (uR (unfoldS s)).fst x).Text).fst.Name ≠ [(69 : UInt8), (78 : UInt8), (68 : UInt8)] → (x_3.length + [Prp.mk (parseS (ix (uR (unfoldS s)).fst x).Text).fst.Group (parseS (ix (uR (unfoldS s)).fst x).Text).fst.Name (parseS (ix (uR (unfoldS s)).fst x).Text).fst.Params (parseS (ix (uR (unfoldS s)).fst x).Text).fst.Value].length) * (some (72 : Nat)).getD (0 : Nat) ≤ (140737488355328 : Nat) ∧ in64 (x + (1 : Int)) ∧ I_2 (x + (1 : Int)) x_1 x_2 (x_3 ++ [Prp.mk (parseS (ix (uR (unfoldS s)).fst x).Text).fst.Group (parseS (ix (uR (unfoldS s)).fst x).Text).fst.Name (parseS (ix (uR (unfoldS s)).fst x).Text).fst.Params (parseS (ix (uR (unfoldS s)).fst x).Text).fst.Value]) x_4 x_5 x_6 x_7 x_8 x_9 ∧ m_2 (x + (1 : Int)) x_1 x_2 (x_3 ++ [Prp.mk (parseS (ix (uR (unfoldS s)).fst x).Text).fst.Group (parseS (ix (uR (unfoldS s)).fst x).Text).fst.Name (parseS (ix (uR (unfoldS s)).fst x).Text).fst.Params (parseS (ix (uR (unfoldS s)).fst x).Text).fst.Value]) x_4 x_5 x_6 x_7 x_8 x_9 < m_2 x x_1 x_2 x_3 x_4 x_5 x_6 x_7 x_8 x_9) ∧ (¬(parseS (ix (uR (unfoldS s)).fst x).Text).fst.Name ≠ [(69 : UInt8), (78 : UInt8), (68 : UInt8)] → ((x_8.length + [Comp.mk [] [] []].length) * (some (64 : Nat)).getD (0 : Nat) ≤ (140737488355328 : Nat) ∧ (0 : Int) ≤ (↑x_8.length : Int) ∧ (↑x_8.length : Int) < (↑(x_8 ++ [Comp.mk [] [] []]).length : Int) ∧ in64 (x + (1 : Int)) ∧ I_1 (x + (1 : Int)) x_1 x_6 x_7 ((x_8 ++ [Comp.mk [] [] []]).set (↑x_8.length : Int).toNat (Comp.mk x_2 x_3 x_4)) x_9 ∧ m_1 (x + (1 : Int)) x_1 x_6 x_7 ((x_8 ++ [Comp.mk [] [] []]).set (↑x_8.length : Int).toNat (Comp.mk x_2 x_3 x_4)) x_9 < m_2 x x_1 x_2 x_3 x_4 x_5 x_6 x_7 x_8 x_9) ∧ (x_8.length + [Comp.mk x_2 x_3 x_4].length) * (some (64 : Nat)).getD (0 : Nat) ≤ (140737488355328 : Nat) ∧ in64 (x + (1 : Int)) ∧ I_1 (x + (1 : Int)) x_1 x_6 x_7 (x_8 ++ [Comp.mk x_2 x_3 x_4]) x_9 ∧ m_1 (x + (1 : Int)) x_1 x_6 x_7 (x_8 ++ [Comp.mk x_2 x_3 x_4]) x_9 < m_2 x x_1 x_2 x_3 x_4 x_5 x_6 x_7 x_8 x_9))))) ∧ (¬(parseS (ix (uR (unfoldS s)).fst x).Text).fst.Name = [(69 : UInt8), (78 : UInt8), (68 : UInt8)] → ((parseS (ix (uR (unfoldS s)).fst x).Text).fst.Name = [(69 : UInt8), (78 : UInt8), (68 : UInt8)] ∧ x_2 ≠ [] → Q [] (atE (ix (uR (unfoldS s)).fst x).At (Err.no (11 : Int)))) ∧ (¬((parseS (ix (uR (unfoldS s)).fst x).Text).fst.Name = [(69 : UInt8), (78 : UInt8), (68 : UInt8)] ∧ x_2 ≠ []) → ((parseS (ix (uR (unfoldS s)).fst x).Text).fst.Name ≠ [(69 : UInt8), (78 : UInt8), (68 : UInt8)] → (x_3.length + [Prp.mk (parseS (ix (uR (unfoldS s)).fst x).Text).fst.Group (parseS (ix (uR (unfoldS s)).fst x).Text).fst.Name (parseS (ix (uR (unfoldS s)).fst x).Text).fst.Params (parseS (ix (uR (unfoldS s)).fst x).Text).fst.Value].length) * (some (72 : Nat)).getD (0 : Nat) ≤ (140737488355328 : Nat) ∧ in64 (x + (1 : Int)) ∧ I_2 (x + (1 : Int)) x_1 x_2 (x_3 ++ [Prp.mk (parseS (ix (uR (unfoldS s)).fst x).Text).fst.Group (parseS (ix (uR (unfoldS s)).fst x).Text).fst.Name (parseS (ix (uR (unfoldS s)).fst x).Text).fst.Params (parseS (ix (uR (unfoldS s)).fst x).Text).fst.Value]) x_4 x_5 x_6 x_7 x_8 x_9 ∧ m_2 (x + (1 : Int)) x_1 x_2 (x_3 ++ [Prp.mk (parseS (ix (uR (unfoldS s)).fst x).Text).fst.Group (parseS (ix (uR (unfoldS s)).fst x).Text).fst.Name (parseS (ix (uR (unfoldS s)).fst x).Text).fst.Params (parseS (ix (uR (unfoldS s)).fst x).Text).fst.Value]) x_4 x_5 x_6 x_7 x_8 x_9 < m_2 x x_1 x_2 x_3 x_4 x_5 x_6 x_7 x_8 x_9) ∧ (¬(parseS (ix (uR (unfoldS s)).fst x).Text).fst.Name ≠ [(69 : UInt8), (78 : UInt8), (68 : UInt8)] → ((x_8.length + [Comp.mk [] [] []].length) * (some (64 : Nat)).getD (0 : Nat) ≤ (140737488355328 : Nat) ∧ (0 : Int) ≤ (↑x_8.length : Int) ∧ (↑x_8.length : Int) < (↑(x_8 ++ [Comp.mk [] [] []]).length : Int) ∧ in64 (x + (1 : Int)) ∧ I_1 (x + (1 : Int)) x_1 x_6 x_7 ((x_8 ++ [Comp.mk [] [] []]).set (↑x_8.length : Int).toNat (Comp.mk x_2 x_3 x_4)) x_9 ∧ m_1 (x + (1 : Int)) x_1 x_6 x_7 ((x_8 ++ [Comp.mk [] [] []]).set (↑x_8.length : Int).toNat (Comp.mk x_2 x_3 x_4)) x_9 < m_2 x x_1 x_2 x_3 x_4 x_5 x_6 x_7 x_8 x_9) ∧ (x_8.length + [Comp.mk x_2 x_3 x_4].length) * (some (64 : Nat)).getD (0 : Nat) ≤ (140737488355328 : Nat) ∧ in64 (x + (1 : Int)) ∧ I_1 (x + (1 : Int)) x_1 x_6 x_7 (x_8 ++ [Comp.mk x_2 x_3 x_4]) x_9 ∧ m_1 (x + (1 : Int)) x_1 x_6 x_7 (x_8 ++ [Comp.mk x_2 x_3 x_4]) x_9 < m_2 x x_1 x_2 x_3 x_4 x_5 x_6 x_7 x_8 x_9))))))) ∧ (¬x < (↑(uR (unfoldS s)).fst.length : Int) → Q [] (atE x_5 (Err.no (11 : Int))))) ∧ (∀ (x : Int) (x_1 : List Comp) (x_2 : List UInt8) (x_3 : List Prp) (x_4 : List Comp) (x_5 : Int) (x_6 : List UInt8) (x_7 : List Prp) (x_8 : List Comp) (x_9 : Int) (x_10 : List UInt8) (x_11 : List Prp) (x_12 : List Comp) (x_13 : Int), I_3 x x_1 x_2 x_3 x_4 x_5 x_6 x_7 x_8 x_9 x_10 x_11 x_12 x_13 → (x < (↑(uR (unfoldS s)).fst.length : Int) → (0 : Int) ≤ x ∧ x < (↑(uR (unfoldS s)).fst.length : Int) ∧ (in64 (ix (uR (unfoldS s)).fst x).At → List.length (ix (uR (unfoldS s)).fst x).Text ≤ (100000000 : Nat) ∧ ((parseS (ix (uR (unfoldS s)).fst x).Text).snd ≠ Err.nil → Q [] (atE (ix (uR (unfoldS s)).fst x).At (parseS (ix (uR (unfoldS s)).fst x).Text).snd)) ∧ (¬(parseS (ix (uR (unfoldS s)).fst x).Text).snd ≠ Err.nil → ((parseS (ix (uR (unfoldS s)).fst x).Text).fst.Name = [(66 : UInt8), (69 : UInt8), (71 : UInt8), (73 : UInt8), (78 : UInt8)] → ((parseS (ix (uR (unfoldS s)).fst x).Text).fst.Name = [(66 : UInt8), (69 : UInt8), (71 : UInt8), (73 : UInt8), (78 : UInt8)] → List.length (parseS (ix (uR (unfoldS s)).fst x).Text).fst.Value ≤ (10000000 : Nat) ∧ ((namedS (Prp.mk (parseS (ix (uR (unfoldS s)).fst x).Text).fst.Group (parseS (ix (uR (unfoldS s)).fst x).Text).fst.Name (parseS (ix (uR (unfoldS s)).fst x).Text).fst.Params (parseS (ix (uR (unfoldS s)).fst x).Text).fst.Value)).snd ≠ Err.nil → Q [] (atE (ix (uR (unfoldS s)).fst x).At (namedS (Prp.mk (parseS (ix (uR (unfoldS s)).fst x).Text).fst.Group (parseS (ix (uR (unfoldS s)).fst x).Text).fst.Name (parseS (ix (uR (unfoldS s)).fst x).Text).fst.Params (parseS (ix (uR (unfoldS s)).fst x).Text).fst.Value)).snd)) ∧ (¬(namedS (Prp.mk (parseS (ix (uR (unfoldS s)).fst x).Text).fst.Group (parseS (ix (uR (unfoldS s)).fst x).Text).fst.Name (parseS (ix (uR (unfoldS s)).fst x).Text).fst.Params (parseS (ix (uR (unfoldS s)).fst x).Text).fst.Value)).snd ≠ Err.nil → ((parseS (ix (uR (unfoldS s)).fst x).Text).fst.Name = [(66 : UInt8), (69 : UInt8), (71 : UInt8), (73 : UInt8), (78 : UInt8)] → in64 ((0 : Int) + (1 : Int)) ∧ in64 ((0 : Int) + (1 : Int) + (1 : Int)) ∧ in64 ((0 : Int) + (1 : Int) + (1 : Int) + (1 : Int)) ∧ in64 ((0 : Int) + (1 : Int) + (1 : Int) + (1 : Int) + (1 : Int)) ∧ ((6 : Int) < (0 : Int) + (1 : Int) + (1 : Int) + (1 : Int) + (1 : Int) → Q [] (atE (ix (uR (unfoldS s)).fst x).At (Err.no (12 : Int)))) ∧ (¬(6 : Int) < (0 : Int) + (1 : Int) + (1 : Int) + (1 : Int) + (1 : Int) → in64 (x + (1 : Int)) ∧ I_4 (x + (1 : Int)) x_1 (namedS (Prp.mk (parseS (ix (uR (unfoldS s)).fst x).Text).fst.Group (parseS (ix (uR (unfoldS s)).fst x).Text).fst.Name (parseS (ix (uR (unfoldS s)).fst x).Text).fst.Params (parseS (ix (uR (unfoldS s)).fst x).Text).fst.Value)).fst [] [] (ix (uR (unfoldS s)).fst x).At x_2 x_3 x_4 x_5 x_6 x_7 x_8 x_9 x_10 x_11 x_12 x_13 ∧ m_4 (x + (1 : Int)) x_1 (namedS (Prp.mk (parseS (ix (uR (unfoldS s)).fst x).Text).fst.Group (parseS (ix (uR (unfoldS s)).fst x).Text).fst.Name (parseS (ix (uR (unfoldS s)).fst x).Text).fst.Params (parseS (ix (uR (unfoldS s)).fst x).Text).fst.Value)).fst [] [] (ix (uR (unfoldS s)).fst x).At x_2 x_3 x_4 x_5 x_6 x_7 x_8 x_9 x_10 x_11 x_12 x_13 < m_3 x x_1 x_2 x_3 x_4 x_5 x_6 x_7 x_8 x_9 x_10 x_11 x_12 x_13)) ∧ (¬(parseS (ix (uR (unfoldS s)).fst x).Text).fst.Name = [(66 : UInt8), (69 : UInt8), (71 : UInt8), (73 : UInt8), (78 : UInt8)] → ((parseS (ix (uR (unfoldS s)).fst x).Text).fst.Name = [(69 : UInt8), (78 : UInt8), (68 : UInt8)] ∧ x_2 ≠ (namedS (Prp.mk (parseS (ix (uR (unfoldS s)).fst x).Text).fst.Group (parseS (ix (uR (unfoldS s)).fst x).Text).fst.Name (parseS (ix (uR (unfoldS s)).fst x).Text).fst.Params (parseS (ix (uR (unfoldS s)).fst x).Text).fst.Value)).fst → Q [] (atE (ix (uR (unfoldS s)).fst x).At (Err.no (11 : Int)))) ∧ (¬((parseS (ix (uR (unfoldS s)).fst x).Text).fst.Name = [(69 : UInt8), (78 : UInt8), (68 : UInt8)] ∧ x_2 ≠ (namedS (Prp.mk (parseS (ix (uR (unfoldS s)).fst x).Text).fst.Group (parseS (ix (uR (unfoldS s)).fst x).Text).fst.Name (parseS (ix (uR (unfoldS s)).fst x).Text).fst.Params (parseS (ix (uR (unfoldS s)).fst x).Text).fst.Value)).fst) → ((parseS (ix (uR (unfoldS s)).fst x).Text).fst.Name ≠ [(69 : UInt8), (78 : UInt8), (68 : UInt8)] → (x_3.length + [Prp.mk (parseS (ix (uR (unfoldS s)).fst x).Text).fst.Group (parseS (ix (uR (unfoldS s)).fst x).Text).fst.Name (parseS (ix (uR (unfoldS s)).fst x).Text).fst.Params (parseS (ix (uR (unfoldS s)).fst x).Text).fst.Value].length) * (some (72 : Nat)).getD (0 : Nat) ≤ (140737488355328 : Nat) ∧ in64 (x + (1 : Int)) ∧ I_3 (x + (1 : Int)) x_1 x_2 (x_3 ++ [Prp.mk (parseS (ix (uR (unfoldS s)).fst x).Text).fst.Group (parseS (ix (uR (unfoldS s)).fst x).Text).fst.Name (parseS (ix (uR (unfoldS s)).fst x).Text).fst.Params (parseS (ix (uR (unfoldS s)).fst x).Text).fst.Value]) x_4 x_5 x_6 x_7 x_8 x_9 x_10 x_11 x_12 x_13 ∧ m_3 (x + (1 : Int)) x_1 x_2 (x_3 ++ [Prp.mk (parseS (ix (uR (unfoldS s)).fst x).Text).fst.Group (parseS (ix (uR (unfoldS s)).fst x).Text).fst.Name (parseS (ix (uR (unfoldS s)).fst x).Text).fst.Params (parseS (ix (uR (unfoldS s)).fst x).Text).fst.Value]) x_4 x_5 x_6 x_7 x_8 x_9 x_10 x_11 x_12 x_13 < m_3 x x_1 x_2 x_3 x_4 x_5 x_6 x_7 x_8 x_9 x_10 x_11 x_12 x_13) ∧ (¬(parseS (ix (uR (unfoldS s)).fst x).Text).fst.Name ≠ [(69 : UInt8), (78 : UInt8), (68 : UInt8)] → ((x_8.length + [Comp.mk [] [] []].length) * (some (64 : Nat)).getD (0 : Nat) ≤ (140737488355328 : Nat) ∧ (0 : Int) ≤ (↑x_8.length : Int) ∧ (↑x_8.length : Int) < (↑(x_8 ++ [Comp.mk [] [] []]).length : Int) ∧ in64 (x + (1 : Int)) ∧ I_2 (x + (1 : Int)) x_1 x_6 x_7 ((x_8 ++ [Comp.mk [] [] []]).set (↑x_8.length : Int).toNat (Comp.mk x_2 x_3 x_4)) x_9 x_10 x_11 x_12 x_13 ∧ m_2 (x + (1 : Int)) x_1 x_6 x_7 ((x_8 ++ [Comp.mk [] [] []]).set (↑x_8.length : Int).toNat (Comp.mk x_2 x_3 x_4)) x_9 x_10 x_11 x_12 x_13 < m_3 x x_1 x_2 x_3 x_4 x_5 x_6 x_7 x_8 x_9 x_10 x_11 x_12 x_13) ∧ (x_8.length + [Comp.mk x_2 x_3 x_4].length) * (some (64 : Nat)).getD (0 : Nat) ≤ (140737488355328 : Nat) ∧ in64 (x + (1 : Int)) ∧ I_2 (x + (1 : Int)) x_1 x_6 x_7 (x_8 ++ [Comp.mk x_2 x_3 x_4]) x_9 x_10 x_11 x_12 x_13 ∧ m_2 (x + (1 : Int)) x_1 x_6 x_7 (x_8 ++ [Comp.mk x_2 x_3 x_4]) x_9 x_10 x_11 x_12 x_13 < m_3 x x_1 x_2 x_3 x_4 x_5 x_6 x_7 x_8 x_9 x_10 x_11 x_12 x_13))))) ∧ (¬(parseS (ix (uR (unfoldS s)).fst x).Text).fst.Name = [(66 : UInt8), (69 : UInt8), (71 : UInt8), (73 : UInt8), (78 : UInt8)] → ((parseS (ix (uR (unfoldS s)).fst x).Text).fst.Name = [(69 : UInt8), (78 : UInt8), (68 : UInt8)] ∧ x_2 ≠ [] → Q [] (atE (ix (uR (unfoldS s)).fst x).At (Err.no (11 : Int)))) ∧ (¬((parseS (ix (uR (unfoldS s)).fst x).Text).fst.Name = [(69 : UInt8), (78 : UInt8), (68 : UInt8)] ∧ x_2 ≠ []) → ((parseS (ix (uR (unfoldS s)).fst x).Text).fst.Name ≠ [(69 : UInt8), (78 : UInt8), (68 : UInt8)] → (x_3.length + [Prp.mk (parseS (ix (uR (unfoldS s)).fst x).Text).fst.Group (parseS (ix (uR (unfoldS s)).fst x).Text).fst.Name (parseS (ix (uR (unfoldS s)).fst x).Text).fst.Params (parseS (ix (uR (unfoldS s)).fst x).Text).fst.Value].length) * (some (72 : Nat)).getD (0 : Nat) ≤ (140737488355328 : Nat) ∧ in64 (x + (1 : Int)) ∧ I_3 (x + (1 : Int)) x_1 x_2 (x_3 ++ [Prp.mk (parseS (ix (uR (unfoldS s)).fst x).Text).fst.Group (parseS (ix (uR (unfoldS s)).fst x).Text).fst.Name (parseS (ix (uR (unfoldS s)).fst x).Text).fst.Params (parseS (ix (uR (unfoldS s)).fst x).Text).fst.Value]) x_4 x_5 x_6 x_7 x_8 x_9 x_10 x_11 x_12 x_13 ∧ m_3 (x + (1 : Int)) x_1 x_2 (x_3 ++ [Prp.mk (parseS (ix (uR (unfoldS s)).fst x).Text).fst.Group (parseS (ix (uR (unfoldS s)).fst x).Text).fst.Name (parseS (ix (uR (unfoldS s)).fst x).Text).fst.Params (parseS (ix (uR (unfoldS s)).fst x).Text).fst.Value]) x_4 x_5 x_6 x_7 x_8 x_9 x_10 x_11 x_12 x_13 < m_3 x x_1 x_2 x_3 x_4 x_5 x_6 x_7 x_8 x_9 x_10 x_11 x_12 x_13) ∧ (¬(parseS (ix (uR (unfoldS s)).fst x).Text).fst.Name ≠ [(69 : UInt8), (78 : UInt8), (68 : UInt8)] → ((x_8.length + [Comp.mk [] [] []].length) * (some (64 : Nat)).getD (0 : Nat) ≤ (140737488355328 : Nat) ∧ (0 : Int) ≤ (↑x_8.length : Int) ∧ (↑x_8.length : Int) < (↑(x_8 ++ [Comp.mk [] [] []]).length : Int) ∧ in64 (x + (1 : Int)) ∧ I_2 (x + (1 : Int)) x_1 x_6 x_7 ((x_8 ++ [Comp.mk [] [] []]).set (↑x_8.length : Int).toNat (Comp.mk x_2 x_3 x_4)) x_9 x_10 x_11 x_12 x_13 ∧ m_2 (x + (1 : Int)) x_1 x_6 x_7 ((x_8 ++ [Comp.mk [] [] []]).set (↑x_8.length : Int).toNat (Comp.mk x_2 x_3 x_4)) x_9 x_10 x_11 x_12 x_13 < m_3 x x_1 x_2 x_3 x_4 x_5 x_6 x_7 x_8 x_9 x_10 x_11 x_12 x_13) ∧ (x_8.length + [Comp.mk x_2 x_3 x_4].length) * (some (64 : Nat)).getD (0 : Nat) ≤ (140737488355328 : Nat) ∧ in64 (x + (1 : Int)) ∧ I_2 (x + (1 : Int)) x_1 x_6 x_7 (x_8 ++ [Comp.mk x_2 x_3 x_4]) x_9 x_10 x_11 x_12 x_13 ∧ m_2 (x + (1 : Int)) x_1 x_6 x_7 (x_8 ++ [Comp.mk x_2 x_3 x_4]) x_9 x_10 x_11 x_12 x_13 < m_3 x x_1 x_2 x_3 x_4 x_5 x_6 x_7 x_8 x_9 x_10 x_11 x_12 x_13)))) ∧ (¬(parseS (ix (uR (unfoldS s)).fst x).Text).fst.Name = [(66 : UInt8), (69 : UInt8), (71 : UInt8), (73 : UInt8), (78 : UInt8)] → ((parseS (ix (uR (unfoldS s)).fst x).Text).fst.Name = [(69 : UInt8), (78 : UInt8), (68 : UInt8)] → List.length (parseS (ix (uR (unfoldS s)).fst x).Text).fst.Value ≤ (10000000 : Nat) ∧ ((namedS (Prp.mk (parseS (ix (uR (unfoldS s)).fst x).Text).fst.Group (parseS (ix (uR (unfoldS s)).fst x).Text).fst.Name (parseS (ix (uR (unfoldS s)).fst x).Text).fst.Params (parseS (ix (uR (unfoldS s)).fst x).Text).fst.Value)).snd ≠ Err.nil → Q [] (atE (ix (uR (unfoldS s)).fst x).At (namedS (Prp.mk (parseS (ix (uR (unfoldS s)).fst x).Text).fst.Group (parseS (ix (uR (unfoldS s)).fst x).Text).fst.Name (parseS (ix (uR (unfoldS s)).fst x).Text).fst.Params (parseS (ix (uR (unfoldS s)).fst x).Text).fst.Value)).snd)) ∧ (¬(namedS (Prp.mk (parseS (ix (uR (unfoldS s)).fst x).Text).fst.Group (parseS (ix (uR (unfoldS s)).fst x).Text).fst.Name (parseS (ix (uR (unfoldS s)).fst x).Text).fst.Params (parseS (ix (uR (unfoldS s)).fst x).Text).fst.Value)).snd ≠ Err.nil → ((parseS (ix (uR (unfoldS s)).fst x).Text).fst.Name = [(66 : UInt8), (69 : UInt8), (71 : UInt8), (73 : UInt8), (78 : UInt8)] → in64 ((0 : Int) + (1 : Int)) ∧ in64 ((0 : Int) + (1 : Int) + (1 : Int)) ∧ in64 ((0 : Int) + (1 : Int) + (1 : Int) + (1 : Int)) ∧ in64 ((0 : Int) + (1 : Int) + (1 : Int) + (1 : Int) + (1 : Int)) ∧ ((6 : Int) < (0 : Int) + (1 : Int) + (1 : Int) + (1 : Int) + (1 : Int) → Q [] (atE (ix (uR (unfoldS s)).fst x).At (Err.no (12 : Int)))) ∧ (¬(6 : Int) < (0 : Int) + (1 : Int) + (1 : Int) + (1 : Int) + (1 : Int) → in64 (x + (1 : Int)) ∧ I_4 (x + (1 : Int)) x_1 (namedS (Prp.mk (parseS (ix (uR (unfoldS s)).fst x).Text).fst.Group (parseS (ix (uR (unfoldS s)).fst x).Text).fst.Name (parseS (ix (uR (unfoldS s)).fst x).Text).fst.Params (parseS (ix (uR (unfoldS s)).fst x).Text).fst.Value)).fst [] [] (ix (uR (unfoldS s)).fst x).At x_2 x_3 x_4 x_5 x_6 x_7 x_8 x_9 x_10 x_11 x_12 x_13 ∧ m_4 (x + (1 : Int)) x_1 (namedS (Prp.mk (parseS (ix (uR (unfoldS s)).fst x).Text).fst.Group (parseS (ix (uR (unfoldS s)).fst x).Text).fst.Name (parseS (ix (uR (unfoldS s)).fst x).Text).fst.Params (parseS (ix (uR (unfoldS s)).fst x).Text).fst.Value)).fst [] [] (ix (uR (unfoldS s)).fst x).At x_2 x_3 x_4 x_5 x_6 x_7 x_8 x_9 x_10 x_11 x_12 x_13 < m_3 x x_1 x_2 x_3 x_4 x_5 x_6 x_7 x_8 x_9 x_10 x_11 x_12 x_13)) ∧ (¬(parseS (ix (uR (unfoldS s)).fst x).Text).fst.Name = [(66 : UInt8), (69 : UInt8), (71 : UInt8), (73 : UInt8), (78 : UInt8)] → ((parseS (ix (uR (unfoldS s)).fst x).Text).fst.Name = [(69 : UInt8), (78 : UInt8), (68 : UInt8)] ∧ x_2 ≠ (namedS (Prp.mk (parseS (ix (uR (unfoldS s)).fst x).Text).fst.Group (parseS (ix (uR (unfoldS s)).fst x).Text).fst.Name (parseS (ix (uR (unfoldS s)).fst x).Text).fst.Params (parseS (ix (uR (unfoldS s)).fst x).Text).fst.Value)).fst → Q [] (atE (ix (uR (unfoldS s)).fst x).At (Err.no (11 : Int)))) ∧ (¬((parseS (ix (uR (unfoldS s)).fst x).Text).fst.Name = [(69 : UInt8), (78 : UInt8), (68 : UInt8)] ∧ x_2 ≠ (namedS (Prp.mk (parseS (ix (uR (unfoldS s)).fst x).Text).fst.Group (parseS (ix (uR (unfoldS s)).fst x).Text).fst.Name (parseS (ix (uR (unfoldS s)).fst x).Text).fst.Params (parseS (ix (uR (unfoldS s)).fst x).Text).fst.Value)).fst) → ((parseS (ix (uR (unfoldS s)).fst x).Text).fst.Name ≠ [(69 : UInt8), (78 : UInt8), (68 : UInt8)] → (x_3.length + [Prp.mk (parseS (ix (uR (unfoldS s)).fst x).Text).fst.Group (parseS (ix (uR (unfoldS s)).fst x).Text).fst.Name (parseS (ix (uR (unfoldS s)).fst x).Text).fst.Params (parseS (ix (uR (unfoldS s)).fst x).Text).fst.Value].length) * (some (72 : Nat)).getD (0 : Nat) ≤ (140737488355328 : Nat) ∧ in64 (x + (1 : Int)) ∧ I_3 (x + (1 : Int)) x_1 x_2 (x_3 ++ [Prp.mk (parseS (ix (uR (unfoldS s)).fst x).Text).fst.Group (parseS (ix (uR (unfoldS s)).fst x).Text).fst.Name (parseS (ix (uR (unfoldS s)).fst x).Text).fst.Params (parseS (ix (uR (unfoldS s)).fst x).Text).fst.Value]) x_4 x_5 x_6 x_7 x_8 x_9 x_10 x_11 x_12 x_13 ∧ m_3 (x + (1 : Int)) x_1 x_2 (x_3 ++ [Prp.mk (parseS (ix (uR (unfoldS s)).fst x).Text).fst.Group (parseS (ix (uR (unfoldS s)).fst x).Text).fst.Name (parseS (ix (uR (unfoldS s)).fst x).Text).fst.Params (parseS (ix (uR (unfoldS s)).fst x).Text).fst.Value]) x_4 x_5 x_6 x_7 x_8 x_9 x_10 x_11 x_12 x_13 < m_3 x x_1 x_2 x_3 x_4 x_5 x_6 x_7 x_8 x_9 x_10 x_11 x_12 x_13) ∧ (¬(parseS (ix (uR (unfoldS s)).fst x).Text).fst.Name ≠ [(69 : UInt8), (78 : UInt8), (68 : UInt8)] → ((x_8.length + [Comp.mk [] [] []].length) * (some (64 : Nat)).getD (0 : Nat) ≤ (140737488355328 : Nat) ∧ (0 : Int) ≤ (↑x_8.length : Int) ∧ (↑x_8.length : Int) < (↑(x_8 ++ [Comp.mk [] [] []]).length : Int) ∧ in64 (x + (1 : Int)) ∧ I_2 (x + (1 : Int)) x_1 x_6 x_7 ((x_8 ++ [Comp.mk [] [] []]).set (↑x_8.length : Int).toNat (Comp.mk x_2 x_3 x_4)) x_9 x_10 x_11 x_12 x_13 ∧ m_2 (x + (1 : Int)) x_1 x_6 x_7 ((x_8 ++ [Comp.mk [] [] []]).set (↑x_8.length : Int).toNat (Comp.mk x_2 x_3 x_4)) x_9 x_10 x_11 x_12 x_13 < m_3 x x_1 x_2 x_3 x_4 x_5 x_6 x_7 x_8 x_9 x_10 x_11 x_12 x_13) ∧ (x_8.length + [Comp.mk x_2 x_3 x_4].length) * (some (64 : Nat)).getD (0 : Nat) ≤ (140737488355328 : Nat) ∧ in64 (x + (1 : Int)) ∧ I_2 (x + (1 : Int)) x_1 x_6 x_7 (x_8 ++ [Comp.mk x_2 x_3 x_4]) x_9 x_10 x_11 x_12 x_13 ∧ m_2 (x + (1 : Int)) x_1 x_6 x_7 (x_8 ++ [Comp.mk x_2 x_3 x_4]) x_9 x_10 x_11 x_12 x_13 < m_3 x x_1 x_2 x_3 x_4 x_5 x_6 x_7 x_8 x_9 x_10 x_11 x_12 x_13))))) ∧ (¬(parseS (ix (uR (unfoldS s)).fst x).Text).fst.Name = [(69 : UInt8), (78 : UInt8), (68 : UInt8)] → ((parseS (ix (uR (unfoldS s)).fst x).Text).fst.Name = [(69 : UInt8), (78 : UInt8), (68 : UInt8)] ∧ x_2 ≠ [] → Q [] (atE (ix (uR (unfoldS s)).fst x).At (Err.no (11 : Int)))) ∧ (¬((parseS (ix (uR (unfoldS s)).fst x).Text).fst.Name = [(69 : UInt8), (78 : UInt8), (68 : UInt8)] ∧ x_2 ≠ []) → ((parseS (ix (uR (unfoldS s)).fst x).Text).fst.Name ≠ [(69 : UInt8), (78 : UInt8), (68 : UInt8)] → (x_3.length + [Prp.mk (parseS (ix (uR (unfoldS s)).fst x).Text).fst.Group (parseS (ix (uR (unfoldS s)).fst x).Text).fst.Name (parseS (ix (uR (unfoldS s)).fst x).Text).fst.Params (parseS (ix (uR (unfoldS s)).fst x).Text).fst.Value].length) * (some (72 : Nat)).getD (0 : Nat) ≤ (140737488355328 : Nat) ∧ in64 (x + (1 : Int)) ∧ I_3 (x + (1 : Int)) x_1 x_2 (x_3 ++ [Prp.mk (parseS (ix (uR (unfoldS s)).fst x).Text).fst.Group (parseS (ix (uR (unfoldS s)).fst x).Text).fst.Name (parseS (ix (uR (unfoldS s)).fst x).Text).fst.Params (parseS (ix (uR (unfoldS s)).fst x).Text).fst.Value]) x_4 x_5 x_6 x_7 x_8 x_9 x_10 x_11 x_12 x_13 ∧ m_3 (x + (1 : Int)) x_1 x_2 (x_3 ++ [Prp.mk (parseS (ix (uR (unfoldS s)).fst x).Text).fst.Group (parseS (ix (uR (unfoldS s)).fst x).Text).fst.Name (parseS (ix (uR (unfoldS s)).fst x).Text).fst.Params (parseS (ix (uR (unfoldS s)).fst x).Text).fst.Value]) x_4 x_5 x_6 x_7 x_8 x_9 x_10 x_11 x_12 x_13 < m_3 x x_1 x_2 x_3 x_4 x_5 x_6 x_7 x_8 x_9 x_10 x_11 x_12 x_13) ∧ (¬(parseS (ix (uR (unfoldS s)).fst x).Text).fst.Name ≠ [(69 : UInt8), (78 : UInt8), (68 : UInt8)] → ((x_8.length + [Comp.mk [] [] []].length) * (some (64 : Nat)).getD (0 : Nat) ≤ (140737488355328 : Nat) ∧ (0 : Int) ≤ (↑x_8.length : Int) ∧ (↑x_8.length : Int) < (↑(x_8 ++ [Comp.mk [] [] []]).length : Int) ∧ in64 (x + (1 : Int)) ∧ I_2 (x + (1 : Int)) x_1 x_6 x_7 ((x_8 ++ [Comp.mk [] [] []]).set (↑x_8.length : Int).toNat (Comp.mk x_2 x_3 x_4)) x_9 x_10 x_11 x_12 x_13 ∧ m_2 (x + (1 : Int)) x_1 x_6 x_7 ((x_8 ++ [Comp.mk [] [] []]).set (↑x_8.length : Int).toNat (Comp.mk x_2 x_3 x_4)) x_9 x_10 x_11 x_12 x_13 < m_3 x x_1 x_2 x_3 x_4 x_5 x_6 x_7 x_8 x_9 x_10 x_11 x_12 x_13) ∧ (x_8.length + [Comp.mk x_2 x_3 x_4].length) * (some (64 : Nat)).getD (0 : Nat) ≤ (140737488355328 : Nat) ∧ in64 (x + (1 : Int)) ∧ I_2 (x + (1 : Int)) x_1 x_6 x_7 (x_8 ++ [Comp.mk x_2 x_3 x_4]) x_9 x_10 x_11 x_12 x_13 ∧ m_2 (x + (1 : Int)) x_1 x_6 x_7 (x_8 ++ [Comp.mk x_2 x_3 x_4]) x_9 x_10 x_11 x_12 x_13 < m_3 x x_1 x_2 x_3 x_4 x_5 x_6 x_7 x_8 x_9 x_10 x_11 x_12 x_13))))))) ∧ (¬x < (↑(uR (unfoldS s)).fst.length : Int) → Q [] (atE x_5 (Err.no (11 : Int))))) ∧ (∀ (x : Int) (x_1 : List Comp) (x_2 : List UInt8) (x_3 : List Prp) (x_4 : List Comp) (x_5 : Int) (x_6 : List UInt8) (x_7 : List Prp) (x_8 : List Comp) (x_9 : Int) (x_10 : List UInt8) (x_11 : List Prp) (x_12 : List Comp) (x_13 : Int) (x_14 : List UInt8) (x_15 : List Prp) (x_16 : List Comp) (x_17 : Int), I_4 x x_1 x_2 x_3 x_4 x_5 x_6 x_7 x_8 x_9 x_10 x_11 x_12 x_13 x_14 x_15 x_16 x_17 → (x < (↑(uR (unfoldS s)).fst.length : Int) → (0 : Int) ≤ x ∧ x < (↑(uR (unfoldS s)).fst.length : Int) ∧ (in64 (ix (uR (unfoldS s)).fst x).At → List.length (ix (uR (unfoldS s)).fst x).Text ≤ (100000000 : Nat) ∧ ((parseS (ix (uR (unfoldS s)).fst x).Text).snd ≠ Err.nil → Q [] (atE (ix (uR (unfoldS s)).fst x).At (parseS (ix (uR (unfoldS s)).fst x).Text).snd)) ∧ (¬(parseS (ix (uR (unfoldS s)).fst x).Text).snd ≠ Err.nil → ((parseS (ix (uR (unfoldS s)).fst x).Text).fst.Name = [(66 : UInt8), (69 : UInt8), (71 : UInt8), (73 : UInt8), (78 : UInt8)] → ((parseS (ix (uR (unfoldS s)).fst x).Text).fst.Name = [(66 : UInt8), (69 : UInt8), (71 : UInt8), (73 : UInt8), (78 : UInt8)] → List.length (parseS (ix (uR (unfoldS s)).fst x).Text).fst.Value ≤ (10000000 : Nat) ∧ ((namedS (Prp.mk (parseS (ix (uR (unfoldS s)).fst x).Text).fst.Group (parseS (ix (uR (unfoldS s)).fst x).Text).fst.Name (parseS (ix (uR (unfoldS s)).fst x).Text).fst.Params (parseS (ix (uR (unfoldS s)).fst x).Text).fst.Value)).snd ≠ Err.nil → Q [] (atE (ix (uR (unfoldS s)).fst x).At (namedS (Prp.mk (parseS (ix (uR (unfoldS s)).fst x).Text).fst.Group (parseS (ix (uR (unfoldS s)).fst x).Text).fst.Name (parseS (ix (uR (unfoldS s)).fst x).Text).fst.Params (parseS (ix (uR (unfoldS s)).fst x).Text).fst.Value)).snd)) ∧ (¬(namedS (Prp.mk (parseS (ix (uR (unfoldS s)).fst x).Text).fst.Group (parseS (ix (uR (unfoldS s)).fst x).Text).fst.Name (parseS (ix (uR (unfoldS s)).fst x).Text).fst.Params (parseS (ix (uR (unfoldS s)).fst x).Text).fst.Value)).snd ≠ Err.nil → ((parseS (ix (uR (unfoldS s)).fst x).Text).fst.Name = [(66 : UInt8), (69 : UInt8), (71 : UInt8), (73 : UInt8), (78 : UInt8)] → in64 ((0 : Int) + (1 : Int)) ∧ in64 ((0 : Int) + (1 : Int) + (1 : Int)) ∧ in64 ((0 : Int) + (1 : Int) + (1 : Int) + (1 : Int)) ∧ in64 ((0 : Int) + (1 : Int) + (1 : Int) + (1 : Int) + (1 : Int)) ∧ in64 ((0 : Int) + (1 : Int) + (1 : Int) + (1 : Int) + (1 : Int) + (1 : Int)) ∧ ((6 : Int) < (0 : Int) + (1 : Int) + (1 : Int) + (1 : Int) + (1 : Int) + (1 : Int) → Q [] (atE (ix (uR (unfoldS s)).fst x).At (Err.no (12 : Int)))) ∧ (¬(6 : Int) < (0 : Int) + (1 : Int) + (1 : Int) + (1 : Int) + (1 : Int) + (1 : Int) → in64 (x + (1 : Int)) ∧ I_5 (x + (1 : Int)) x_1 (namedS (Prp.mk (parseS (ix (uR (unfoldS s)).fst x).Text).fst.Group (parseS (ix (uR (unfoldS s)).fst x).Text).fst.Name (parseS (ix (uR (unfoldS s)).fst x).Text).fst.Params (parseS (ix (uR (unfoldS s)).fst x).Text).fst.Value)).fst [] [] (ix (uR (unfoldS s)).fst x).At x_2 x_3 x_4 x_5 x_6 x_7 x_8 x_9 x_10 x_11 x_12 x_13 x_14 x_15 x_16 x_17 ∧ m_5 (x + (1 : Int)) x_1 (namedS (Prp.mk (parseS (ix (uR (unfoldS s)).fst x).Text).fst.Group (parseS (ix (uR (unfoldS s)).fst x).Text).fst.Name (parseS (ix (uR (unfoldS s)).fst x).Text).fst.Params (parseS (ix (uR (unfoldS s)).fst x).Text).fst.Value)).fst [] [] (ix (uR (unfoldS s)).fst x).At x_2 x_3 x_4 x_5 x_6 x_7 x_8 x_9 x_10 x_11 x_12 x_13 x_14 x_15 x_16 x_17 < m_4 x x_1 x_2 x_3 x_4 x_5 x_6 x_7 x_8 x_9 x_10 x_11 x_12 x_13 x_14 x_15 x_16 x_17)) ∧ (¬(parseS (ix (uR (unfoldS s)).fst x).Text).fst.Name = [(66 : UInt8), (69 : UInt8), (71 : UInt8), (73 : UInt8), (78 : UInt8)] → ((parseS (ix (uR (unfoldS s)).fst x).Text).fst.Name = [(69 : UInt8), (78 : UInt8), (68 : UInt8)] ∧ x_2 ≠ (namedS (Prp.mk (parseS (ix (uR (unfoldS s)).fst x).Text).fst.Group (parseS (ix (uR (unfoldS s)).fst x).Text).fst.Name (parseS (ix (uR (unfoldS s)).fst x).Text).fst.Params (parseS (ix (uR (unfoldS s)).fst x).Text).fst.Value)).fst → Q [] (atE (ix (uR (unfoldS s)).fst x).At (Err.no (11 : Int)))) ∧ (¬((parseS (ix (uR (unfoldS s)).fst x).Text).fst.Name = [(69 : UInt8), (78 : UInt8), (68 : UInt8)] ∧ x_2 ≠ (namedS (Prp.mk (parseS (ix (uR (unfoldS s)).fst x).Text).fst.Group (parseS (ix (uR (unfoldS s)).fst x).Text).fst.Name (parseS (ix (uR (unfoldS s)).fst x).Text).fst.Params (parseS (ix (uR (unfoldS s)).fst x).Text).fst.Value)).fst) → ((parseS (ix (uR (unfoldS s)).fst x).Text).fst.Name ≠ [(69 : UInt8), (78 : UInt8), (68 : UInt8)] → (x_3.length + [Prp.mk (parseS (ix (uR (unfoldS s)).fst x).Text).fst.Group (parseS (ix (uR (unfoldS s)).fst x).Text).fst.Name (parseS (ix (uR (unfoldS s)).fst x).Text).fst.Params (parseS (ix (uR (unfoldS s)).fst x).Text).fst.Value].length) * (some (72 : Nat)).getD (0 : Nat) ≤ (140737488355328 : Nat) ∧ in64 (x + (1 : Int)) ∧ I_4 (x + (1 : Int)) x_1 x_2 (x_3 ++ [Prp.mk (parseS (ix (uR (unfoldS s)).fst x).Text).fst.Group (parseS (ix (uR (unfoldS s)).fst x).Text).fst.Name (parseS (ix (uR (unfoldS s)).fst x).Text).fst.Params (parseS (ix (uR (unfoldS s)).fst x).Text).fst.Value]) x_4 x_5 x_6 x_7 x_8 x_9 x_10 x_11 x_12 x_13 x_14 x_15 x_16 x_17 ∧ m_4 (x + (1 : Int)) x_1 x_2 (x_3 ++ [Prp.mk (parseS (ix (uR (unfoldS s)).fst x).Text).fst.Group (parseS (ix (uR (unfoldS s)).fst x).Text).fst.Name (parseS (ix (uR (unfoldS s)).fst x).Text).fst.Params (parseS (ix (uR (unfoldS s)).fst x).Text).fst.Value]) x_4 x_5 x_6 x_7 x_8 x_9 x_10 x_11 x_12 x_13 x_14 x_15 x_16 x_17 < m_4 x x_1 x_2 x_3 x_4 x_5 x_6 x_7 x_8 x_9 x_10 x_11 x_12 x_13 x_14 x_15 x_16 x_17) ∧ (¬(parseS (ix (uR (unfoldS s)).fst x).Text).fst.Name ≠ [(69 : UInt8), (78 : UInt8), (68 : UInt8)] → ((x_8.length + [Comp.mk [] [] []].length) * (some (64 : Nat)).getD (0 : Nat) ≤ (140737488355328 : Nat) ∧ (0 : Int) ≤ (↑x_8.length : Int) ∧ (↑x_8.length : Int) < (↑(x_8 ++ [Comp.mk [] [] []]).length : Int) ∧ in64 (x + (1 : Int)) ∧ I_3 (x + (1 : Int)) x_1 x_6 x_7 ((x_8 ++ [Comp.mk [] [] []]).set (↑x_8.length : Int).toNat (Comp.mk x_2 x_3 x_4)) x_9 x_10 x_11 x_12 x_13 x_14 x_15 x_16 x_17 ∧ m_3 (x + (1 : Int)) x_1 x_6 x_7 ((x_8 ++ [Comp.mk [] [] []]).set (↑x_8.length : Int).toNat (Comp.mk x_2 x_3 x_4)) x_9 x_10 x_11 x_12 x_13 x_14 x_15 x_16 x_17 < m_4 x x_1 x_2 x_3 x_4 x_5 x_6 x_7 x_8 x_9 x_10 x_11 x_12 x_13 x_14 x_15 x_16 x_17) ∧ (x_8.length + [Comp.mk x_2 x_3 x_4].length) * (some (64 : Nat)).getD (0 : Nat) ≤ (140737488355328 : Nat) ∧ in64 (x + (1 : Int)) ∧ I_3 (x + (1 : Int)) x_1 x_6 x_7 (x_8 ++ [Comp.mk x_2 x_3 x_4]) x_9 x_10 x_11 x_12 x_13 x_14 x_15 x_16 x_17 ∧ m_3 (x + (1 : Int)) x_1 x_6 x_7 (x_8 ++ [Comp.mk x_2 x_3 x_4]) x_9 x_10 x_11 x_12 x_13 x_14 x_15 x_16 x_17 < m_4 x x_1 x_2 x_3 x_4 x_5 x_6 x_7 x_8 x_9 x_10 x_11 x_12 x_13 x_14 x_15 x_16 x_17))))) ∧ (¬(parseS (ix (uR (unfoldS s)).fst x).Text).fst.Name = [(66 : UInt8), (69 : UInt8), (71 : UInt8), (73 : UInt8), (78 : UInt8)] → ((parseS (ix (uR (unfoldS s)).fst x).Text).fst.Name = [(69 : UInt8), (78 : UInt8), (68 : UInt8)] ∧ x_2 ≠ [] → Q [] (atE (ix (uR (unfoldS s)).fst x).At (Err.no (11 : Int)))) ∧ (¬((parseS (ix (uR (unfoldS s)).fst x).Text).fst.Name = [(69 : UInt8), (78 : UInt8), (68 : UInt8)] ∧ x_2 ≠ []) → ((parseS (ix (uR (unfoldS s)).fst x).Text).fst.Name ≠ [(69 : UInt8), (78 : UInt8), (68 : UInt8)] → (x_3.length + [Prp.mk (parseS (ix (uR (unfoldS s)).fst x).Text).fst.Group (parseS (ix (uR (unfoldS s)).fst x).Text).fst.Name (parseS (ix (uR (unfoldS s)).fst x).Text).fst.Params (parseS (ix (uR (unfoldS s)).fst x).Text).fst.Value].length) * (some (72 : Nat)).getD (0 : Nat) ≤ (140737488355328 : Nat) ∧ in64 (x + (1 : Int)) ∧ I_4 (x + (1 : Int)) x_1 x_2 (x_3 ++ [Prp.mk (parseS (ix (uR (unfoldS s)).fst x).Text).fst.Group (parseS (ix (uR (unfoldS s)).fst x).Text).fst.Name (parseS (ix (uR (unfoldS s)).fst x).Text).fst.Params (parseS (ix (uR (unfoldS s)).fst x).Text).fst.Value]) x_4 x_5 x_6 x_7 x_8 x_9 x_10 x_11 x_12 x_13 x_14 x_15 x_16 x_17 ∧ m_4 (x + (1 : Int)) x_1 x_2 (x_3 ++ [Prp.mk (parseS (ix (uR (unfoldS s)).fst x).Text).fst.Group (parseS (ix (uR (unfoldS s)).fst x).Text).fst.Name (parseS (ix (uR (unfoldS s)).fst x).Text).fst.Params (parseS (ix (uR (unfoldS s)).fst x).Text).fst.Value]) x_4 x_5 x_6 x_7 x_8 x_9 x_10 x_11 x_12 x_13 x_14 x_15 x_16 x_17 < m_4 x x_1 x_2 x_3 x_4 x_5 x_6 x_7 x_8 x_9 x_10 x_11 x_12 x_13 x_14 x_15 x_16 x_17) ∧ (¬(parseS (ix (uR (unfoldS s)).fst x).Text).fst.Name ≠ [(69 : UInt8), (78 : UInt8), (68 : UInt8)] → ((x_8.length + [Comp.mk [] [] []].length) * (some (64 : Nat)).getD (0 : Nat) ≤ (140737488355328 : Nat) ∧ (0 : Int) ≤ (↑x_8.length : Int) ∧ (↑x_8.length : Int) < (↑(x_8 ++ [Comp.mk [] [] []]).length : Int) ∧ in64 (x + (1 : Int)) ∧ I_3 (x + (1 : Int)) x_1 x_6 x_7 ((x_8 ++ [Comp.mk [] [] []]).set (↑x_8.length : Int).toNat (Comp.mk x_2 x_3 x_4)) x_9 x_10 x_11 x_12 x_13 x_14 x_15 x_16 x_17 ∧ m_3 (x + (1 : Int)) x_1 x_6 x_7 ((x_8 ++ [Comp.mk [] [] []]).set (↑x_8.length : Int).toNat (Comp.mk x_2 x_3 x_4)) x_9 x_10 x_11 x_12 x_13 x_14 x_15 x_16 x_17 < m_4 x x_1 x_2 x_3 x_4 x_5 x_6 x_7 x_8 x_9 x_10 x_11 x_12 x_13 x_14 x_15 x_16 x_17) ∧ (x_8.length + [Comp.mk x_2 x_3 x_4].length) * (some (64 : Nat)).getD (0 : Nat) ≤ (140737488355328 : Nat) ∧ in64 (x + (1 : Int)) ∧ I_3 (x + (1 : Int)) x_1 x_6 x_7 (x_8 ++ [Comp.mk x_2 x_3 x_4]) x_9 x_10 x_11 x_12 x_13 x_14 x_15 x_16 x_17 ∧ m_3 (x + (1 : Int)) x_1 x_6 x_7 (x_8 ++ [Comp.mk x_2 x_3 x_4]) x_9 x_10 x_11 x_12 x_13 x_14 x_15 x_16 x_17 < m_4 x x_1 x_2 x_3 x_4 x_5 x_6 x_7 x_8 x_9 x_10 x_11 x_12 x_13 x_14 x_15 x_16 x_17)))) ∧ (¬(parseS (ix (uR (unfoldS s)).fst x).Text).fst.Name = [(66 : UInt8), (69 : UInt8), (71 : UInt8), (73 : UInt8), (78 : UInt8)] → ((parseS (ix (uR (unfoldS s)).fst x).Text).fst.Name = [(69 : UInt8), (78 : UInt8), (68 : UInt8)] → List.length (parseS (ix (uR (unfoldS s)).fst x).Text).fst.Value ≤ (10000000 : Nat) ∧ ((namedS (Prp.mk (parseS (ix (uR (unfoldS s)).fst x).Text).fst.Group (parseS (ix (uR (unfoldS s)).fst x).Text).fst.Name (parseS (ix (uR (unfoldS s)).fst x).Text).fst.Params (parseS (ix (uR (unfoldS s)).fst x).Text).fst.Value)).snd ≠ Err.nil → Q [] (atE (ix (uR (unfoldS s)).fst x).At (namedS (Prp.mk (parseS (ix (uR (unfoldS s)).fst x).Text).fst.Group (parseS (ix (uR (unfoldS s)).fst x).Text).fst.Name (parseS (ix (uR (unfoldS s)).fst x).Text).fst.Params (parseS (ix (uR (unfoldS s)).fst x).Text).fst.Value)).snd)) ∧ (¬(namedS (Prp.mk (parseS (ix (uR (unfoldS s)).fst x).Text).fst.Group (parseS (ix (uR (unfoldS s)).fst x).Text).fst.Name (parseS (ix (uR (unfoldS s)).fst x).Text).fst.Params (parseS (ix (uR (unfoldS s)).fst x).Text).fst.Value)).snd ≠ Err.nil → ((parseS (ix (uR (unfoldS s)).fst x).Text).fst.Name = [(66 : UInt8), (69 : UInt8), (71 : UInt8), (73 : UInt8), (78 : UInt8)] → in64 ((0 : Int) + (1 : Int)) ∧ in64 ((0 : Int) + (1 : Int) + (1 : Int)) ∧ in64 ((0 : Int) + (1 : Int) + (1 : Int) + (1 : Int)) ∧ in64 ((0 : Int) + (1 : Int) + (1 : Int) + (1 : Int) + (1 : Int)) ∧ in64 ((0 : Int) + (1 : Int) + (1 : Int) + (1 : Int) + (1 : Int) + (1 : Int)) ∧ ((6 : Int) < (0 : Int) + (1 : Int) + (1 : Int) + (1 : Int) + (1 : Int) + (1 : Int) → Q [] (atE (ix (uR (unfoldS s)).fst x).At (Err.no (12 : Int)))) ∧ (¬(6 : Int) < (0 : Int) + (1 : Int) + (1 : Int) + (1 : Int) + (1 : Int) + (1 : Int) → in64 (x + (1 : Int)) ∧ I_5 (x + (1 : Int)) x_1 (namedS (Prp.mk (parseS (ix (uR (unfoldS s)).fst x).Text).fst.Group (parseS (ix (uR (unfoldS s)).fst x).Text).fst.Name (parseS (ix (uR (unfoldS s)).fst x).Text).fst.Params (parseS (ix (uR (unfoldS s)).fst x).Text).fst.Value)).fst [] [] (ix (uR (unfoldS s)).fst x).At x_2 x_3 x_4 x_5 x_6 x_7 x_8 x_9 x_10 x_11 x_12 x_13 x_14 x_15 x_16 x_17 ∧ m_5 (x + (1 : Int)) x_1 (namedS (Prp.mk (parseS (ix (uR (unfoldS s)).fst x).Text).fst.Group (parseS (ix (uR (unfoldS s)).fst x).Text).fst.Name (parseS (ix (uR (unfoldS s)).fst x).Text).fst.Params (parseS (ix (uR (unfoldS s)).fst x).Text).fst.Value)).fst [] [] (ix (uR (unfoldS s)).fst x).At x_2 x_3 x_4 x_5 x_6 x_7 x_8 x_9 x_10 x_11 x_12 x_13 x_14 x_15 x_16 x_17 < m_4 x x_1 x_2 x_3 x_4 x_5 x_6 x_7 x_8 x_9 x_10 x_11 x_12 x_13 x_14 x_15 x_16 x_17)) ∧ (¬(parseS (ix (uR (unfoldS s)).fst x).Text).fst.Name = [(66 : UInt8), (69 : UInt8), (71 : UInt8), (73 : UInt8), (78 : UInt8)] → ((parseS (ix (uR (unfoldS s)).fst x).Text).fst.Name = [(69 : UInt8), (78 : UInt8), (68 : UInt8)] ∧ x_2 ≠ (namedS (Prp.mk (parseS (ix (uR (unfoldS s)).fst x).Text).fst.Group (parseS (ix (uR (unfoldS s)).fst x).Text).fst.Name (parseS (ix (uR (unfoldS s)).fst x).Text).fst.Params (parseS (ix (uR (unfoldS s)).fst x).Text).fst.Value)).fst → Q [] (atE (ix (uR (unfoldS s)).fst x).At (Err.no (11 : Int)))) ∧ (¬((parseS (ix (uR (unfoldS s)).fst x).Text).fst.Name = [(69 : UInt8), (78 : UInt8), (68 : UInt8)] ∧ x_2 ≠ (namedS (Prp.mk (parseS (ix (uR (unfoldS s)).fst x).Text).fst.Group (parseS (ix (uR (unfoldS s)).fst x).Text).fst.Name (parseS (ix (uR (unfoldS s)).fst x).Text).fst.Params (parseS (ix (uR (unfoldS s)).fst x).Text).fst.Value)).fst) → ((parseS (ix (uR (unfoldS s)).fst x).Text).fst.Name ≠ [(69 : UInt8), (78 : UInt8), (68 : UInt8)] → (x_3.length + [Prp.mk (parseS (ix (uR (unfoldS s)).fst x).Text).fst.Group (parseS (ix (uR (unfoldS s)).fst x).Text).fst.Name (parseS (ix (uR (unfoldS s)).fst x).Text).fst.Params (parseS (ix (uR (unfoldS s)).fst x).Text).fst.Value].length) * (some (72 : Nat)).getD (0 : Nat) ≤ (140737488355328 : Nat) ∧ in64 (x + (1 : Int)) ∧ I_4 (x + (1 : Int)) x_1 x_2 (x_3 ++ [Prp.mk (parseS (ix (uR (unfoldS s)).fst x).Text).fst.Group (parseS (ix (uR (unfoldS s)).fst x).Text).fst.Name (parseS (ix (uR (unfoldS s)).fst x).Text).fst.Params (parseS (ix (uR (unfoldS s)).fst x).Text).fst.Value]) x_4 x_5 x_6 x_7 x_8 x_9 x_10 x_11 x_12 x_13 x_14 x_15 x_16 x_17 ∧ m_4 (x + (1 : Int)) x_1 x_2 (x_3 ++ [Prp.mk (parseS (ix (uR (unfoldS s)).fst x).Text).fst.Group (parseS (ix (uR (unfoldS s)).fst x).Text).fst.Name (parseS (ix (uR (unfoldS s)).fst x).Text).fst.Params (parseS (ix (uR (unfoldS s)).fst x).Text).fst.Value]) x_4 x_5 x_6 x_7 x_8 x_9 x_10 x_11 x_12 x_13 x_14 x_15 x_16 x_17 < m_4 x x_1 x_2 x_3 x_4 x_5 x_6 x_7 x_8 x_9 x_10 x_11 x_12 x_13 x_14 x_15 x_16 x_17) ∧ (¬(parseS (ix (uR (unfoldS s)).fst x).Text).fst.Name ≠ [(69 : UInt8), (78 : UInt8), (68 : UInt8)] → ((x_8.length + [Comp.mk [] [] []].length) * (some (64 : Nat)).getD (0 : Nat) ≤ (140737488355328 : Nat) ∧ (0 : Int) ≤ (↑x_8.length : Int) ∧ (↑x_8.length : Int) < (↑(x_8 ++ [Comp.mk [] [] []]).length : Int) ∧ in64 (x + (1 : Int)) ∧ I_3 (x + (1 : Int)) x_1 x_6 x_7 ((x_8 ++ [Comp.mk [] [] []]).set (↑x_8.length : Int).toNat (Comp.mk x_2 x_3 x_4)) x_9 x_10 x_11 x_12 x_13 x_14 x_15 x_16 x_17 ∧ m_3 (x + (1 : Int)) x_1 x_6 x_7 ((x_8 ++ [Comp.mk [] [] []]).set (↑x_8.length : Int).toNat (Comp.mk x_2 x_3 x_4)) x_9 x_10 x_11 x_12 x_13 x_14 x_15 x_16 x_17 < m_4 x x_1 x_2 x_3 x_4 x_5 x_6 x_7 x_8 x_9 x_10 x_11 x_12 x_13 x_14 x_15 x_16 x_17) ∧ (x_8.length + [Comp.mk x_2 x_3 x_4].length) * (some (64 : Nat)).getD (0 : Nat) ≤ (140737488355328 : Nat) ∧ in64 (x + (1 : Int)) ∧ I_3 (x + (1 : Int)) x_1 x_6 x_7 (x_8 ++ [Comp.mk x_2 x_3 x_4]) x_9 x_10 x_11 x_12 x_13 x_14 x_15 x_16 x_17 ∧ m_3 (x + (1 : Int)) x_1 x_6 x_7 (x_8 ++ [Comp.mk x_2 x_3 x_4]) x_9 x_10 x_11 x_12 x_13 x_14 x_15 x_16 x_17 < m_4 x x_1 x_2 x_3 x_4 x_5 x_6 x_7 x_8 x_9 x_10 x_11 x_12 x_13 x_14 x_15 x_16 x_17))))) ∧ (¬(parseS (ix (uR (unfoldS s)).fst x).Text).fst.Name = [(69 : UInt8), (78 : UInt8), (68 : UInt8)] → ((parseS (ix (uR (unfoldS s)).fst x).Text).fst.Name = [(69 : UInt8), (78 : UInt8), (68 : UInt8)] ∧ x_2 ≠ [] → Q [] (atE (ix (uR (unfoldS s)).fst x).At (Err.no (11 : Int)))) ∧ (¬((parseS (ix (uR (unfoldS s)).fst x).Text).fst.Name = [(69 : UInt8), (78 : UInt8), (68 : UInt8)] ∧ x_2 ≠ []) → ((parseS (ix (uR (unfoldS s)).fst x).Text).fst.Name ≠ [(69 : UInt8), (78 : UInt8), (68 : UInt8)] → (x_3.length + [Prp.mk (parseS (ix (uR (unfoldS s)).fst x).Text).fst.Group (parseS (ix (uR (unfoldS s)).fst x).Text).fst.Name (parseS (ix (uR (unfoldS s)).fst x).Text).fst.Params (parseS (ix (uR (unfoldS s)).fst x).Text).fst.Value].length) * (some (72 : Nat)).getD (0 : Nat) ≤ (140737488355328 : Nat) ∧ in64 (x + (1 : Int)) ∧ I_4 (x + (1 : Int)) x_1 x_2 (x_3 ++ [Prp.mk (parseS (ix (uR (unfoldS s)).fst x).Text).fst.Group (parseS (ix (uR (unfoldS s)).fst x).Text).fst.Name (parseS (ix (uR (unfoldS s)).fst x).Text).fst.Params (parseS (ix (uR (unfoldS s)).fst x).Text).fst.Value]) x_4 x_5 x_6 x_7 x_8 x_9 x_10 x_11 x_12 x_13 x_14 x_15 x_16 x_17 ∧ m_4 (x + (1 : Int)) x_1 x_2 (x_3 ++ [Prp.mk (parseS (ix (uR (unfoldS s)).fst x).Text).fst.Group (parseS (ix (uR (unfoldS s)).fst x).Text).fst.Name (parseS (ix (uR (unfoldS s)).fst x).Text).fst.Params (parseS (ix (uR (unfoldS s)).fst x).Text).fst.Value]) x_4 x_5 x_6 x_7 x_8 x_9 x_10 x_11 x_12 x_13 x_14 x_15 x_16 x_17 < m_4 x x_1 x_2 x_3 x_4 x_5 x_6 x_7 x_8 x_9 x_10 x_11 x_12 x_13 x_14 x_15 x_16 x_17) ∧ (¬(parseS (ix (uR (unfoldS s)).fst x).Text).fst.Name ≠ [(69 : UInt8), (78 : UInt8), (68 : UInt8)] → ((x_8.length + [Comp.mk [] [] []].length) * (some (64 : Nat)).getD (0 : Nat) ≤ (140737488355328 : Nat) ∧ (0 : Int) ≤ (↑x_8.length : Int) ∧ (↑x_8.length : Int) < (↑(x_8 ++ [Comp.mk [] [] []]).length : Int) ∧ in64 (x + (1 : Int)) ∧ I_3 (x + (1 : Int)) x_1 x_6 x_7 ((x_8 ++ [Comp.mk [] [] []]).set (↑x_8.length : Int).toNat (Comp.mk x_2 x_3 x_4)) x_9 x_10 x_11 x_12 x_13 x_14 x_15 x_16 x_17 ∧ m_3 (x + (1 : Int)) x_1 x_6 x_7 ((x_8 ++ [Comp.mk [] [] []]).set (↑x_8.length : Int).toNat (Comp.mk x_2 x_3 x_4)) x_9 x_10 x_11 x_12 x_13 x_14 x_15 x_16 x_17 < m_4 x x_1 x_2 x_3 x_4 x_5 x_6 x_7 x_8 x_9 x_10 x_11 x_12 x_13 x_14 x_15 x_16 x_17) ∧ (x_8.length + [Comp.mk x_2 x_3 x_4].length) * (some (64 : Nat)).getD (0 : Nat) ≤ (140737488355328 : Nat) ∧ in64 (x + (1 : Int)) ∧ I_3 (x + (1 : Int)) x_1 x_6 x_7 (x_8 ++ [Comp.mk x_2 x_3 x_4]) x_9 x_10 x_11 x_12 x_13 x_14 x_15 x_16 x_17 ∧ m_3 (x + (1 : Int)) x_1 x_6 x_7 (x_8 ++ [Comp.mk x_2 x_3 x_4]) x_9 x_10 x_11 x_12 x_13 x_14 x_15 x_16 x_17 < m_4 x x_1 x_2 x_3 x_4 x_5 x_6 x_7 x_8 x_9 x_10 x_11 x_12 x_13 x_14 x_15 x_16 x_17))))))) ∧ (¬x < (↑(uR (unfoldS s)).fst.length : Int) → Q [] (atE x_5 (Err.no (11 : Int))))) ∧ (∀ (x : Int) (x_1 : List Comp) (x_2 : List UInt8) (x_3 : List Prp) (x_4 : List Comp) (x_5 : Int) (x_6 : List UInt8) (x_7 : List Prp) (x_8 : List Comp) (x_9 : Int) (x_10 : List UInt8) (x_11 : List Prp) (x_12 : List Comp) (x_13 : Int) (x_14 : List UInt8) (x_15 : List Prp) (x_16 : List Comp) (x_17 : Int) (x_18 : List UInt8) (x_19 : List Prp) (x_20 : List Comp) (x_21 : Int), I_5 x x_1 x_2 x_3 x_4 x_5 x_6 x_7 x_8 x_9 x_10 x_11 x_12 x_13 x_14 x_15 x_16 x_17 x_18 x_19 x_20 x_21 → (x < (↑(uR (unfoldS s)).fst.length : Int) → (0 : Int) ≤ x ∧ x < (↑(uR (unfoldS s)).fst.length : Int) ∧ (in64 (ix (uR (unfoldS s)).fst x).At → List.length (ix (uR (unfoldS s)).fst x).Text ≤ (100000000 : Nat) ∧ ((parseS (ix (uR (unfoldS s)).fst x).Text).snd ≠ Err.nil → Q [] (atE (ix (uR (unfoldS s)).fst x).At (parseS (ix (uR (unfoldS s)).fst x).Text).snd)) ∧ (¬(parseS (ix (uR (unfoldS s)).fst x).Text).snd ≠ Err.nil → ((parseS (ix (uR (unfoldS s)).fst x).Text).fst.Name = [(66 : UInt8), (69 : UInt8), (71 : UInt8), (73 : UInt8), (78 : UInt8)] → ((parseS (ix (uR (unfoldS s)).fst x).Text).fst.Name = [(66 : UInt8), (69 : UInt8), (71 : UInt8), (73 : UInt8), (78 : UInt8)] → List.length (parseS (ix (uR (unfoldS s)).fst x).Text).fst.Value ≤ (10000000 : Nat) ∧ ((namedS (Prp.mk (parseS (ix (uR (unfoldS s)).fst x).Text).fst.Group (parseS (ix (uR (unfoldS s)).fst x).Text).fst.Name (parseS (ix (uR (unfoldS s)).fst x).Text).fst.Params (parseS (ix (uR (unfoldS s)).fst x).Text).fst.Value)).snd ≠ Err.nil → Q [] (atE (ix (uR (unfoldS s)).fst x).At (namedS (Prp.mk (parseS (ix (uR (unfoldS s)).fst x).Text).fst.Group (parseS (ix (uR (unfoldS s)).fst x).Text).fst.Name (parseS (ix (uR (unfoldS s)).fst x).Text).fst.Params (parseS (ix (uR (unfoldS s)).fst x).Text).fst.Value)).snd)) ∧ (¬(namedS (Prp.mk (parseS (ix (uR (unfoldS s)).fst x).Text).fst.Group (parseS (ix (uR (unfoldS s)).fst x).Text).fst.Name (parseS (ix (uR (unfoldS s)).fst x).Text).fst.Params (parseS (ix (uR (unfoldS s)).fst x).Text).fst.Value)).snd ≠ Err.nil → ((parseS (ix (uR (unfoldS s)).fst x).Text).fst.Name = [(66 : UInt8), (69 : UInt8), (71 : UInt8), (73 : UInt8), (78 : UInt8)] → in64 ((0 : Int) + (1 : Int)) ∧ in64 ((0 : Int) + (1 : Int) + (1 : Int)) ∧ in64 ((0 : Int) + (1 : Int) + (1 : Int) + (1 : Int)) ∧ in64 ((0 : Int) + (1 : Int) + (1 : Int) + (1 : Int) + (1 : Int)) ∧ in64 ((0 : Int) + (1 : Int) + (1 : Int) + (1 : Int) + (1 : Int) + (1 : Int)) ∧ in64 ((0 : Int) + (1 : Int) + (1 : Int) + (1 : Int) + (1 : Int) + (1 : Int) + (1 : Int)) ∧ ((6 : Int) < (0 : Int) + (1 : Int) + (1 : Int) + (1 : Int) + (1 : Int) + (1 : Int) + (1 : Int) → Q [] (atE (ix (uR (unfoldS s)).fst x).At (Err.no (12 : Int)))) ∧ (¬(6 : Int) < (0 : Int) + (1 : Int) + (1 : Int) + (1 : Int) + (1 : Int) + (1 : Int) + (1 : Int) → in64 (x + (1 : Int)) ∧ I_6 (x + (1 : Int)) x_1 (namedS (Prp.mk (parseS (ix (uR (unfoldS s)).fst x).Text).fst.Group (parseS (ix (uR (unfoldS s)).fst x).Text).fst.Name (parseS (ix (uR (unfoldS s)).fst x).Text).fst.Params (parseS (ix (uR (unfoldS s)).fst x).Text).fst.Value)).fst [] [] (ix (uR (unfoldS s)).fst x).At x_2 x_3 x_4 x_5 x_6 x_7 x_8 x_9 x_10 x_11 x_12 x_13 x_14 x_15 x_16 x_17 x_18 x_19 x_20 x_21 ∧ m_6 (x + (1 : Int)) x_1 (namedS (Prp.mk (parseS (ix (uR (unfoldS s)).fst x).Text).fst.Group (parseS (ix (uR (unfoldS s)).fst x).Text).fst.Name (parseS (ix (uR (unfoldS s)).fst x).Text).fst.Params (parseS (ix (uR (unfoldS s)).fst x).Text).fst.Value)).fst [] [] (ix (uR (unfoldS s)).fst x).At x_2 x_3 x_4 x_5 x_6 x_7 x_8 x_9 x_10 x_11 x_12 x_13 x_14 x_15 x_16 x_17 x_18 x_19 x_20 x_21 < m_5 x x_1 x_2 x_3 x_4 x_5 x_6 x_7 x_8 x_9 x_10 x_11 x_12 x_13 x_14 x_15 x_16 x_17 x_18 x_19 x_20 x_21)) ∧ (¬(parseS (ix (uR (unfoldS s)).fst x).Text).fst.Name = [(66 : UInt8), (69 : UInt8), (71 : UInt8), (73 : UInt8), (78 : UInt8)] → ((parseS (ix (uR (unfoldS s)).fst x).Text).fst.Name = [(69 : UInt8), (78 : UInt8), (68 : UInt8)] ∧ x_2 ≠ (namedS (Prp.mk (parseS (ix (uR (unfoldS s)).fst x).Text).fst.Group (parseS (ix (uR (unfoldS s)).fst x).Text).fst.Name (parseS (ix (uR (unfoldS s)).fst x).Text).fst.Params (parseS (ix (uR (unfoldS s)).fst x).Text).fst.Value)).fst → Q [] (atE (ix (uR (unfoldS s)).fst x).At (Err.no (11 : Int)))) ∧ (¬((parseS (ix (uR (unfoldS s)).fst x).Text).fst.Name = [(69 : UInt8), (78 : UInt8), (68 : UInt8)] ∧ x_2 ≠ (namedS (Prp.mk (parseS (ix (uR (unfoldS s)).fst x).Text).fst.Group (parseS (ix (uR (unfoldS s)).fst x).Text).fst.Name (parseS (ix (uR (unfoldS s)).fst x).Text).fst.Params (parseS (ix (uR (unfoldS s)).fst x).Text).fst.Value)).fst) → ((parseS (ix (uR (unfoldS s)).fst x).Text).fst.Name ≠ [(69 : UInt8), (78 : UInt8), (68 : UInt8)] → (x_3.length + [Prp.mk (parseS (ix (uR (unfoldS s)).fst x).Text).fst.Group (parseS (ix (uR (unfoldS s)).fst x).Text).fst.Name (parseS (ix (uR (unfoldS s)).fst x).Text).fst.Params (parseS (ix (uR (unfoldS s)).fst x).Text).fst.Value].length) * (some (72 : Nat)).getD (0 : Nat) ≤ (140737488355328 : Nat) ∧ in64 (x + (1 : Int)) ∧ I_5 (x + (1 : Int)) x_1 x_2 (x_3 ++ [Prp.mk (parseS (ix (uR (unfoldS s)).fst x).Text).fst.Group (parseS (ix (uR (unfoldS s)).fst x).Text).fst.Name (parseS (ix (uR (unfoldS s)).fst x).Text).fst.Params (parseS (ix (uR (unfoldS s)).fst x).Text).fst.Value]) x_4 x_5 x_6 x_7 x_8 x_9 x_10 x_11 x_12 x_13 x_14 x_15 x_16 x_17 x_18 x_19 x_20 x_21 ∧ m_5 (x + (1 : Int)) x_1 x_2 (x_3 ++ [Prp.mk (parseS (ix (uR (unfoldS s)).fst x).Text).fst.Group (parseS (ix (uR (unfoldS s)).fst x).Text).fst.Name (parseS (ix (uR (unfoldS s)).fst x).Text).fst.Params (parseS (ix (uR (unfoldS s)).fst x).Text).fst.Value]) x_4 x_5 x_6 x_7 x_8 x_9 x_10 x_11 x_12 x_13 x_14 x_15 x_16 x_17 x_18 x_19 x_20 x_21 < m_5 x x_1 x_2 x_3 x_4 x_5 x_6 x_7 x_8 x_9 x_10 x_11 x_12 x_13 x_14 x_15 x_16 x_17 x_18 x_19 x_20 x_21) ∧ (¬(parseS (ix (uR (unfoldS s)).fst x).Text).fst.Name ≠ [(69 : UInt8), (78 : UInt8), (68 : UInt8)] → ((x_8.length + [Comp.mk [] [] []].length) * (some (64 : Nat)).getD (0 : Nat) ≤ (140737488355328 : Nat) ∧ (0 : Int) ≤ (↑x_8.length : Int) ∧ (↑x_8.length : Int) < (↑(x_8 ++ [Comp.mk [] [] []]).length : Int) ∧ in64 (x + (1 : Int)) ∧ I_4 (x + (1 : Int)) x_1 x_6 x_7 ((x_8 ++ [Comp.mk [] [] []]).set (↑x_8.length : Int).toNat (Comp.mk x_2 x_3 x_4)) x_9 x_10 x_11 x_12 x_13 x_14 x_15 x_16 x_17 x_18 x_19 x_20 x_21 ∧ m_4 (x + (1 : Int)) x_1 x_6 x_7 ((x_8 ++ [Comp.mk [] [] []]).set (↑x_8.length : Int).toNat (Comp.mk x_2 x_3 x_4)) x_9 x_10 x_11 x_12 x_13 x_14 x_15 x_16 x_17 x_18 x_19 x_20 x_21 < m_5 x x_1 x_2 x_3 x_4 x_5 x_6 x_7 x_8 x_9 x_10 x_11 x_12 x_13 x_14 x_15 x_16 x_17 x_18 x_19 x_20 x_21) ∧ (x_8.length + [Comp.mk x_2 x_3 x_4].length) * (some (64 : Nat)).getD (0 : Nat) ≤ (140737488355328 : Nat) ∧ in64 (x + (1 : Int)) ∧ I_4 (x + (1 : Int)) x_1 x_6 x_7 (x_8 ++ [Comp.mk x_2 x_3 x_4]) x_9 x_10 x_11 x_12 x_13 x_14 x_15 x_16 x_17 x_18 x_19 x_20 x_21 ∧ m_4 (x + (1 : Int)) x_1 x_6 x_7 (x_8 ++ [Comp.mk x_2 x_3 x_4]) x_9 x_10 x_11 x_12 x_13 x_14 x_15 x_16 x_17 x_18 x_19 x_20 x_21 < m_5 x x_1 x_2 x_3 x_4 x_5 x_6 x_7 x_8 x_9 x_10 x_11 x_12 x_13 x_14 x_15 x_16 x_17 x_18 x_19 x_20 x_21))))) ∧ (¬(parseS (ix (uR (unfoldS s)).fst x).Text).fst.Name = [(66 : UInt8), (69 : UInt8), (71 : UInt8), (73 : UInt8), (78 : UInt8)] → ((parseS (ix (uR (unfoldS s)).fst x).Text).fst.Name = [(69 : UInt8), (78 : UInt8), (68 : UInt8)] ∧ x_2 ≠ [] → Q [] (atE (ix (uR (unfoldS s)).fst x).At (Err.no (11 : Int)))) ∧ (¬((parseS (ix (uR (unfoldS s)).fst x).Text).fst.Name = [(69 : UInt8), (78 : UInt8), (68 : UInt8)] ∧ x_2 ≠ []) → ((parseS (ix (uR (unfoldS s)).fst x).Text).fst.Name ≠ [(69 : UInt8), (78 : UInt8), (68 : UInt8)] → (x_3.length + [Prp.mk (parseS (ix (uR (unfoldS s)).fst x).Text).fst.Group (parseS (ix (uR (unfoldS s)).fst x).Text).fst.Name (parseS (ix (uR (unfoldS s)).fst x).Text).fst.Params (parseS (ix (uR (unfoldS s)).fst x).Text).fst.Value].length) * (some (72 : Nat)).getD (0 : Nat) ≤ (140737488355328 : Nat) ∧ in64 (x + (1 : Int)) ∧ I_5 (x + (1 : Int)) x_1 x_2 (x_3 ++ [Prp.mk (parseS (ix (uR (unfoldS s)).fst x).Text).fst.Group (parseS (ix (uR (unfoldS s)).fst x).Text).fst.Name (parseS (ix (uR (unfoldS s)).fst x).Text).fst.Params (parseS (ix (uR (unfoldS s)).fst x).Text).fst.Value]) x_4 x_5 x_6 x_7 x_8 x_9 x_10 x_11 x_12 x_13 x_14 x_15 x_16 x_17 x_18 x_19 x_20 x_21 ∧ m_5 (x + (1 : Int)) x_1 x_2 (x_3 ++ [Prp.mk (parseS (ix (uR (unfoldS s)).fst x).Text).fst.Group (parseS (ix (uR (unfoldS s)).fst x).Text).fst.Name (parseS (ix (uR (unfoldS s)).fst x).Text).fst.Params (parseS (ix (uR (unfoldS s)).fst x).Text).fst.Value]) x_4 x_5 x_6 x_7 x_8 x_9 x_10 x_11 x_12 x_13 x_14 x_15 x_16 x_17 x_18 x_19 x_20 x_21 < m_5 x x_1 x_2 x_3 x_4 x_5 x_6 x_7 x_8 x_9 x_10 x_11 x_12 x_13 x_14 x_15 x_16 x_17 x_18 x_19 x_20 x_21) ∧ (¬(parseS (ix (uR (unfoldS s)).fst x).Text).fst.Name ≠ [(69 : UInt8), (78 : UInt8), (68 : UInt8)] → ((x_8.length + [Comp.mk [] [] []].length) * (some (64 : Nat)).getD (0 : Nat) ≤ (140737488355328 : Nat) ∧ (0 : Int) ≤ (↑x_8.length : Int) ∧ (↑x_8.length : Int) < (↑(x_8 ++ [Comp.mk [] [] []]).length : Int) ∧ in64 (x + (1 : Int)) ∧ I_4 (x + (1 : Int)) x_1 x_6 x_7 ((x_8 ++ [Comp.mk [] [] []]).set (↑x_8.length : Int).toNat (Comp.mk x_2 x_3 x_4)) x_9 x_10 x_11 x_12 x_13 x_14 x_15 x_16 x_17 x_18 x_19 x_20 x_21 ∧ m_4 (x + (1 : Int)) x_1 x_6 x_7 ((x_8 ++ [Comp.mk [] [] []]).set (↑x_8.length : Int).toNat (Comp.mk x_2 x_3 x_4)) x_9 x_10 x_11 x_12 x_13 x_14 x_15 x_16 x_17 x_18 x_19 x_20 x_21 < m_5 x x_1 x_2 x_3 x_4 x_5 x_6 x_7 x_8 x_9 x_10 x_11 x_12 x_13 x_14 x_15 x_16 x_17 x_18 x_19 x_20 x_21) ∧ (x_8.length + [Comp.mk x_2 x_3 x_4].length) * (some (64 : Nat)).getD (0 : Nat) ≤ (140737488355328 : Nat) ∧ in64 (x + (1 : Int)) ∧ I_4 (x + (1 : Int)) x_1 x_6 x_7 (x_8 ++ [Comp.mk x_2 x_3 x_4]) x_9 x_10 x_11 x_12 x_13 x_14 x_15 x_16 x_17 x_18 x_19 x_20 x_21 ∧ m_4 (x + (1 : Int)) x_1 x_6 x_7 (x_8 ++ [Comp.mk x_2 x_3 x_4]) x_9 x_10 x_11 x_12 x_13 x_14 x_15 x_16 x_17 x_18 x_19 x_20 x_21 < m_5 x x_1 x_2 x_3 x_4 x_5 x_6 x_7 x_8 x_9 x_10 x_11 x_12 x_13 x_14 x_15 x_16 x_17 x_18 x_19 x_20 x_21)))) ∧ (¬(parseS (ix (uR (unfoldS s)).fst x).Text).fst.Name = [(66 : UInt8), (69 : UInt8), (71 : UInt8), (73 : UInt8), (78 : UInt8)] → ((parseS (ix (uR (unfoldS s)).fst x).Text).fst.Name = [(69 : UInt8), (78 : UInt8), (68 : UInt8)] → List.length (parseS (ix (uR (unfoldS s)).fst x).Text).fst.Value ≤ (10000000 : Nat) ∧ ((namedS (Prp.mk (parseS (ix (uR (unfoldS s)).fst x).Text).fst.Group (parseS (ix (uR (unfoldS s)).fst x).Text).fst.Name (parseS (ix (uR (unfoldS s)).fst x).Text).fst.Params (parseS (ix (uR (unfoldS s)).fst x).Text).fst.Value)).snd ≠ Err.nil → Q [] (atE (ix (uR (unfoldS s)).fst x).At (namedS (Prp.mk (parseS (ix (uR (unfoldS s)).fst x).Text).fst.Group (parseS (ix (uR (unfoldS s)).fst x).Text).fst.Name (parseS (ix (uR (unfoldS s)).fst x).Text).fst.Params (parseS (ix (uR (unfoldS s)).fst x).Text).fst.Value)).snd)) ∧ (¬(namedS (Prp.mk (parseS (ix (uR (unfoldS s)).fst x).Text).fst.Group (parseS (ix (uR (unfoldS s)).fst x).Text).fst.Name (parseS (ix (uR (unfoldS s)).fst x).Text).fst.Params (parseS (ix (uR (unfoldS s)).fst x).Text).fst.Value)).snd ≠ Err.nil → ((parseS (ix (uR (unfoldS s)).fst x).Text).fst.Name = [(66 : UInt8), (69 : UInt8), (71 : UInt8), (73 : UInt8), (78 : UInt8)] → in64 ((0 : Int) + (1 : Int)) ∧ in64 ((0 : Int) + (1 : Int) + (1 : Int)) ∧ in64 ((0 : Int) + (1 : Int) + (1 : Int) + (1 : Int)) ∧ in64 ((0 : Int) + (1 : Int) + (1 : Int) + (1 : Int) + (1 : Int)) ∧ in64 ((0 : Int) + (1 : Int) + (1 : Int) + (1 : Int) + (1 : Int) + (1 : Int)) ∧ in64 ((0 : Int) + (1 : Int) + (1 : Int) + (1 : Int) + (1 : Int) + (1 : Int) + (1 : Int)) ∧ ((6 : Int) < (0 : Int) + (1 : Int) + (1 : Int) + (1 : Int) + (1 : Int) + (1 : Int) + (1 : Int) → Q [] (atE (ix (uR (unfoldS s)).fst x).At (Err.no (12 : Int)))) ∧ (¬(6 : Int) < (0 : Int) + (1 : Int) + (1 : Int) + (1 : Int) + (1 : Int) + (1 : Int) + (1 : Int) → in64 (x + (1 : Int)) ∧ I_6 (x + (1 : Int)) x_1 (namedS (Prp.mk (parseS (ix (uR (unfoldS s)).fst x).Text).fst.Group (parseS (ix (uR (unfoldS s)).fst x).Text).fst.Name (parseS (ix (uR (unfoldS s)).fst x).Text).fst.Params (parseS (ix (uR (unfoldS s)).fst x).Text).fst.Value)).fst [] [] (ix (uR (unfoldS s)).fst x).At x_2 x_3 x_4 x_5 x_6 x_7 x_8 x_9 x_10 x_11 x_12 x_13 x_14 x_15 x_16 x_17 x_18 x_19 x_20 x_21 ∧ m_6 (x + (1 : Int)) x_1 (namedS (Prp.mk (parseS (ix (uR (unfoldS s)).fst x).Text).fst.Group (parseS (ix (uR (unfoldS s)).fst x).Text).fst.Name (parseS (ix (uR (unfoldS s)).fst x).Text).fst.Params (parseS (ix (uR (unfoldS s)).fst x).Text).fst.Value)).fst [] [] (ix (uR (unfoldS s)).fst x).At x_2 x_3 x_4 x_5 x_6 x_7 x_8 x_9 x_10 x_11 x_12 x_13 x_14 x_15 x_16 x_17 x_18 x_19 x_20 x_21 < m_5 x x_1 x_2 x_3 x_4 x_5 x_6 x_7 x_8 x_9 x_10 x_11 x_12 x_13 x_14 x_15 x_16 x_17 x_18 x_19 x_20 x_21)) ∧ (¬(parseS (ix (uR (unfoldS s)).fst x).Text).fst.Name = [(66 : UInt8), (69 : UInt8), (71 : UInt8), (73 : UInt8), (78 : UInt8)] → ((parseS (ix (uR (unfoldS s)).fst x).Text).fst.Name = [(69 : UInt8), (78 : UInt8), (68 : UInt8)] ∧ x_2 ≠ (namedS (Prp.mk (parseS (ix (uR (unfoldS s)).fst x).Text).fst.Group (parseS (ix (uR (unfoldS s)).fst x).Text).fst.Name (parseS (ix (uR (unfoldS s)).fst x).Text).fst.Params (parseS (ix (uR (unfoldS s)).fst x).Text).fst.Value)).fst → Q [] (atE (ix (uR (unfoldS s)).fst x).At (Err.no (11 : Int)))) ∧ (¬((parseS (ix (uR (unfoldS s)).fst x).Text).fst.Name = [(69 : UInt8), (78 : UInt8), (68 : UInt8)] ∧ x_2 ≠ (namedS (Prp.mk (parseS (ix (uR (unfoldS s)).fst x).Text).fst.Group (parseS (ix (uR (unfoldS s)).fst x).Text).fst.Name (parseS (ix (uR (unfoldS s)).fst x).Text).fst.Params (parseS (ix (uR (unfoldS s)).fst x).Text).fst.Value)).fst) → ((parseS (ix (uR (unfoldS s)).fst x).Text).fst.Name ≠ [(69 : UInt8), (78 : UInt8), (68 : UInt8)] → (x_3.length + [Prp.mk (parseS (ix (uR (unfoldS s)).fst x).Text).fst.Group (parseS (ix (uR (unfoldS s)).fst x).Text).fst.Name (parseS (ix (uR (unfoldS s)).fst x).Text).fst.Params (parseS (ix (uR (unfoldS s)).fst x).Text).fst.Value].length) * (some (72 : Nat)).getD (0 : Nat) ≤ (140737488355328 : Nat) ∧ in64 (x + (1 : Int)) ∧ I_5 (x + (1 : Int)) x_1 x_2 (x_3 ++ [Prp.mk (parseS (ix (uR (unfoldS s)).fst x).Text).fst.Group (parseS (ix (uR (unfoldS s)).fst x).Text).fst.Name (parseS (ix (uR (unfoldS s)).fst x).Text).fst.Params (parseS (ix (uR (unfoldS s)).fst x).Text).fst.Value]) x_4 x_5 x_6 x_7 x_8 x_9 x_10 x_11 x_12 x_13 x_14 x_15 x_16 x_17 x_18 x_19 x_20 x_21 ∧ m_5 (x + (1 : Int)) x_1 x_2 (x_3 ++ [Prp.mk (parseS (ix (uR (unfoldS s)).fst x).Text).fst.Group (parseS (ix (uR (unfoldS s)).fst x).Text).fst.Name (parseS (ix (uR (unfoldS s)).fst x).Text).fst.Params (parseS (ix (uR (unfoldS s)).fst x).Text).fst.Value]) x_4 x_5 x_6 x_7 x_8 x_9 x_10 x_11 x_12 x_13 x_14 x_15 x_16 x_17 x_18 x_19 x_20 x_21 < m_5 x x_1 x_2 x_3 x_4 x_5 x_6 x_7 x_8 x_9 x_10 x_11 x_12 x_13 x_14 x_15 x_16 x_17 x_18 x_19 x_20 x_21) ∧ (¬(parseS (ix (uR (unfoldS s)).fst x).Text).fst.Name ≠ [(69 : UInt8), (78 : UInt8), (68 : UInt8)] → ((x_8.length + [Comp.mk [] [] []].length) * (some (64 : Nat)).getD (0 : Nat) ≤ (140737488355328 : Nat) ∧ (0 : Int) ≤ (↑x_8.length : Int) ∧ (↑x_8.length : Int) < (↑(x_8 ++ [Comp.mk [] [] []]).length : Int) ∧ in64 (x + (1 : Int)) ∧ I_4 (x + (1 : Int)) x_1 x_6 x_7 ((x_8 ++ [Comp.mk [] [] []]).set (↑x_8.length : Int).toNat (Comp.mk x_2 x_3 x_4)) x_9 x_10 x_11 x_12 x_13 x_14 x_15 x_16 x_17 x_18 x_19 x_20 x_21 ∧ m_4 (x + (1 : Int)) x_1 x_6 x_7 ((x_8 ++ [Comp.mk [] [] []]).set (↑x_8.length : Int).toNat (Comp.mk x_2 x_3 x_4)) x_9 x_10 x_11 x_12 x_13 x_14 x_15 x_16 x_17 x_18 x_19 x_20 x_21 < m_5 x x_1 x_2 x_3 x_4 x_5 x_6 x_7 x_8 x_9 x_10 x_11 x_12 x_13 x_14 x_15 x_16 x_17 x_18 x_19 x_20 x_21) ∧ (x_8.length + [Comp.mk x_2 x_3 x_4].length) * (some (64 : Nat)).getD (0 : Nat) ≤ (140737488355328 : Nat) ∧ in64 (x + (1 : Int)) ∧ I_4 (x + (1 : Int)) x_1 x_6 x_7 (x_8 ++ [Comp.mk x_2 x_3 x_4]) x_9 x_10 x_11 x_12 x_13 x_14 x_15 x_16 x_17 x_18 x_19 x_20 x_21 ∧ m_4 (x + (1 : Int)) x_1 x_6 x_7 (x_8 ++ [Comp.mk x_2 x_3 x_4]) x_9 x_10 x_11 x_12 x_13 x_14 x_15 x_16 x_17 x_18 x_19 x_20 x_21 < m_5 x x_1 x_2 x_3 x_4 x_5 x_6 x_7 x_8 x_9 x_10 x_11 x_12 x_13 x_14 x_15 x_16 x_17 x_18 x_19 x_20 x_21))))) ∧ (¬(parseS (ix (uR (unfoldS s)).fst x).Text).fst.Name = [(69 : UInt8), (78 : UInt8), (68 : UInt8)] → ((parseS (ix (uR (unfoldS s)).fst x).Text).fst.Name = [(69 : UInt8), (78 : UInt8), (68 : UInt8)] ∧ x_2 ≠ [] → Q [] (atE (ix (uR (unfoldS s)).fst x).At (Err.no (11 : Int)))) ∧ (¬((parseS (ix (uR (unfoldS s)).fst x).Text).fst.Name = [(69 : UInt8), (78 : UInt8), (68 : UInt8)] ∧ x_2 ≠ []) → ((parseS (ix (uR (unfoldS s)).fst x).Text).fst.Name ≠ [(69 : UInt8), (78 : UInt8), (68 : UInt8)] → (x_3.length + [Prp.mk (parseS (ix (uR (unfoldS s)).fst x).Text).fst.Group (parseS (ix (uR (unfoldS s)).fst x).Text).fst.Name (parseS (ix (uR (unfoldS s)).fst x).Text).fst.Params (parseS (ix (uR (unfoldS s)).fst x).Text).fst.Value].length) * (some (72 : Nat)).getD (0 : Nat) ≤ (140737488355328 : Nat) ∧ in64 (x + (1 : Int)) ∧ I_5 (x + (1 : Int)) x_1 x_2 (x_3 ++ [Prp.mk (parseS (ix (uR (unfoldS s)).fst x).Text).fst.Group (parseS (ix (uR (unfoldS s)).fst x).Text).fst.Name (parseS (ix (uR (unfoldS s)).fst x).Text).fst.Params (parseS (ix (uR (unfoldS s)).fst x).Text).fst.Value]) x_4 x_5 x_6 x_7 x_8 x_9 x_10 x_11 x_12 x_13 x_14 x_15 x_16 x_17 x_18 x_19 x_20 x_21 ∧ m_5 (x + (1 : Int)) x_1 x_2 (x_3 ++ [Prp.mk (parseS (ix (uR (unfoldS s)).fst x).Text).fst.Group (parseS (ix (uR (unfoldS s)).fst x).Text).fst.Name (parseS (ix (uR (unfoldS s)).fst x).Text).fst.Params (parseS (ix (uR (unfoldS s)).fst x).Text).fst.Value]) x_4 x_5 x_6 x_7 x_8 x_9 x_10 x_11 x_12 x_13 x_14 x_15 x_16 x_17 x_18 x_19 x_20 x_21 < m_5 x x_1 x_2 x_3 x_4 x_5 x_6 x_7 x_8 x_9 x_10 x_11 x_12 x_13 x_14 x_15 x_16 x_17 x_18 x_19 x_20 x_21) ∧ (¬(parseS (ix (uR (unfoldS s)).fst x).Text).fst.Name ≠ [(69 : UInt8), (78 : UInt8), (68 : UInt8)] → ((x_8.length + [Comp.mk [] [] []].length) * (some (64 : Nat)).getD (0 : Nat) ≤ (140737488355328 : Nat) ∧ (0 : Int) ≤ (↑x_8.length : Int) ∧ (↑x_8.length : Int) < (↑(x_8 ++ [Comp.mk [] [] []]).length : Int) ∧ in64 (x + (1 : Int)) ∧ I_4 (x + (1 : Int)) x_1 x_6 x_7 ((x_8 ++ [Comp.mk [] [] []]).set (↑x_8.length : Int).toNat (Comp.mk x_2 x_3 x_4)) x_9 x_10 x_11 x_12 x_13 x_14 x_15 x_16 x_17 x_18 x_19 x_20 x_21 ∧ m_4 (x + (1 : Int)) x_1 x_6 x_7 ((x_8 ++ [Comp.mk [] [] []]).set (↑x_8.length : Int).toNat (Comp.mk x_2 x_3 x_4)) x_9 x_10 x_11 x_12 x_13 x_14 x_15 x_16 x_17 x_18 x_19 x_20 x_21 < m_5 x x_1 x_2 x_3 x_4 x_5 x_6 x_7 x_8 x_9 x_10 x_11 x_12 x_13 x_14 x_15 x_16 x_17 x_18 x_19 x_20 x_21) ∧ (x_8.length + [Comp.mk x_2 x_3 x_4].length) * (some (64 : Nat)).getD (0 : Nat) ≤ (140737488355328 : Nat) ∧ in64 (x + (1 : Int)) ∧ I_4 (x + (1 : Int)) x_1 x_6 x_7 (x_8 ++ [Comp.mk x_2 x_3 x_4]) x_9 x_10 x_11 x_12 x_13 x_14 x_15 x_16 x_17 x_18 x_19 x_20 x_21 ∧ m_4 (x + (1 : Int)) x_1 x_6 x_7 (x_8 ++ [Comp.mk x_2 x_3 x_4]) x_9 x_10 x_11 x_12 x_13 x_14 x_15 x_16 x_17 x_18 x_19 x_20 x_21 < m_5 x x_1 x_2 x_3 x_4 x_5 x_6 x_7 x_8 x_9 x_10 x_11 x_12 x_13 x_14 x_15 x_16 x_17 x_18 x_19 x_20 x_21))))))) ∧ (¬x < (↑(uR (unfoldS s)).fst.length : Int) → Q [] (atE x_5 (Err.no (11 : Int))))) ∧ (∀ (x : Int) (x_1 : List Comp) (x_2 : List UInt8) (x_3 : List Prp) (x_4 : List Comp) (x_5 : Int) (x_6 : List UInt8) (x_7 : List Prp) (x_8 : List Comp) (x_9 : Int) (x_10 : List UInt8) (x_11 : List Prp) (x_12 : List Comp) (x_13 : Int) (x_14 : List UInt8) (x_15 : List Prp) (x_16 : List Comp) (x_17 : Int) (x_18 : List UInt8) (x_19 : List Prp) (x_20 : List Comp) (x_21 : Int) (x_22 : List UInt8) (x_23 : List Prp) (x_24 : List Comp) (x_25 : Int), I_6 x x_1 x_2 x_3 x_4 x_5 x_6 x_7 x_8 x_9 x_10 x_11 x_12 x_13 x_14 x_15 x_16 x_17 x_18 x_19 x_20 x_21 x_22 x_23 x_24 x_25 → (x < (↑(uR (unfoldS s)).fst.length : Int) → (0 : Int) ≤ x ∧ x < (↑(uR (unfoldS s)).fst.length : Int) ∧ (in64 (ix (uR (unfoldS s)).fst x).At → List.length (ix (uR (unfoldS s)).fst x).Text ≤ (100000000 : Nat) ∧ ((parseS (ix (uR (unfoldS s)).fst x).Text).snd ≠ Err.nil → Q [] (atE (ix (uR (unfoldS s)).fst x).At (parseS (ix (uR (unfoldS s)).fst x).Text).snd)) ∧ (¬(parseS (ix (uR (unfoldS s)).fst x).Text).snd ≠ Err.nil → ((parseS (ix (uR (unfoldS s)).fst x).Text).fst.Name = [(66 : UInt8), (69 : UInt8), (71 : UInt8), (73 : UInt8), (78 : UInt8)] → ((parseS (ix (uR (unfoldS s)).fst x).Text).fst.Name = [(66 : UInt8), (69 : UInt8), (71 : UInt8), (73 : UInt8), (78 : UInt8)] → List.length (parseS (ix (uR (unfoldS s)).fst x).Text).fst.Value ≤ (10000000 : Nat) ∧ ((namedS (Prp.mk (parseS (ix (uR (unfoldS s)).fst x).Text).fst.Group (parseS (ix (uR (unfoldS s)).fst x).Text).fst.Name (parseS (ix (uR (unfoldS s)).fst x).Text).fst.Params (parseS (ix (uR (unfoldS s)).fst x).Text).fst.Value)).snd ≠ Err.nil → Q [] (atE (ix (uR (unfoldS s)).fst x).At (namedS (Prp.mk (parseS (ix (uR (unfoldS s)).fst x).Text).fst.Group (parseS (ix (uR (unfoldS s)).fst x).Text).fst.Name (parseS (ix (uR (unfoldS s)).fst x).Text).fst.Params (parseS (ix (uR (unfoldS s)).fst x).Text).fst.Value)).snd)) ∧ (¬(namedS (Prp.mk (parseS (ix (uR (unfoldS s)).fst x).Text).fst.Group (parseS (ix (uR (unfoldS s)).fst x).Text).fst.Name (parseS (ix (uR (unfoldS s)).fst x).Text).fst.Params (parseS (ix (uR (unfoldS s)).fst x).Text).fst.Value)).snd ≠ Err.nil → ((parseS (ix (uR (unfoldS s)).fst x).Text).fst.Name = [(66 : UInt8), (69 : UInt8), (71 : UInt8), (73 : UInt8), (78 : UInt8)] → in64 ((0 : Int) + (1 : Int)) ∧ in64 ((0 : Int) + (1 : Int) + (1 : Int)) ∧ in64 ((0 : Int) + (1 : Int) + (1 : Int) + (1 : Int)) ∧ in64 ((0 : Int) + (1 : Int) + (1 : Int) + (1 : Int) + (1 : Int)) ∧ in64 ((0 : Int) + (1 : Int) + (1 : Int) + (1 : Int) + (1 : Int) + (1 : Int)) ∧ in64 ((0 : Int) + (1 : Int) + (1 : Int) + (1 : Int) + (1 : Int) + (1 : Int) + (1 : Int)) ∧ in64 ((0 : Int) + (1 : Int) + (1 : Int) + (1 : Int) + (1 : Int) + (1 : Int) + (1 : Int) + (1 : Int)) ∧ ((6 : Int) < (0 : Int) + (1 : Int) + (1 : Int) + (1 : Int) + (1 : Int) + (1 : Int) + (1 : Int) + (1 : Int) → Q [] (atE (ix (uR (unfoldS s)).fst x).At (Err.no (12 : Int)))) ∧ (¬(6 : Int) < (0 : Int) + (1 : Int) + (1 : Int) + (1 : Int) + (1 : Int) + (1 : Int) + (1 : Int) + (1 : Int) → in64 (x + (1 : Int)) ∧ False)) ∧ (¬(parseS (ix (uR (unfoldS s)).fst x).Text).fst.Name = [(66 : UInt8), (69 : UInt8), (71 : UInt8), (73 : UInt8), (78 : UInt8)] → ((parseS (ix (uR (unfoldS s)).fst x).Text).fst.Name = [(69 : UInt8), (78 : UInt8), (68 : UInt8)] ∧ x_2 ≠ (namedS (Prp.mk (parseS (ix (uR (unfoldS s)).fst x).Text).fst.Group (parseS (ix (uR (unfoldS s)).fst x).Text).fst.Name (parseS (ix (uR (unfoldS s)).fst x).Text).fst.Params (parseS (ix (uR (unfoldS s)).fst x).Text).fst.Value)).fst → Q [] (atE (ix (uR (unfoldS s)).fst x).At (Err.no (11 : Int)))) ∧ (¬((parseS (ix (uR (unfoldS s)).fst x).Text).fst.Name = [(69 : UInt8), (78 : UInt8), (68 : UInt8)] ∧ x_2 ≠ (namedS (Prp.mk (parseS (ix (uR (unfoldS s)).fst x).Text).fst.Group (parseS (ix (uR (unfoldS s)).fst x).Text).fst.Name (parseS (ix (uR (unfoldS s)).fst x).Text).fst.Params (parseS (ix (uR (unfoldS s)).fst x).Text).fst.Value)).fst) → ((parseS (ix (uR (unfoldS s)).fst x).Text).fst.Name ≠ [(69 : UInt8), (78 : UInt8), (68 : UInt8)] → (x_3.length + [Prp.mk (parseS (ix (uR (unfoldS s)).fst x).Text).fst.Group (parseS (ix (uR (unfoldS s)).fst x).Text).fst.Name (parseS (ix (uR (unfoldS s)).fst x).Text).fst.Params (parseS (ix (uR (unfoldS s)).fst x).Text).fst.Value].length) * (some (72 : Nat)).getD (0 : Nat) ≤ (140737488355328 : Nat) ∧ in64 (x + (1 : Int)) ∧ I_6 (x + (1 : Int)) x_1 x_2 (x_3 ++ [Prp.mk (parseS (ix (uR (unfoldS s)).fst x).Text).fst.Group (parseS (ix (uR (unfoldS s)).fst x).Text).fst.Name (parseS (ix (uR (unfoldS s)).fst x).Text).fst.Params (parseS (ix (uR (unfoldS s)).fst x).Text).fst.Value]) x_4 x_5 x_6 x_7 x_8 x_9 x_10 x_11 x_12 x_13 x_14 x_15 x_16 x_17 x_18 x_19 x_20 x_21 x_22 x_23 x_24 x_25 ∧ m_6 (x + (1 : Int)) x_1 x_2 (x_3 ++ [Prp.mk (parseS (ix (uR (unfoldS s)).fst x).Text).fst.Group (parseS (ix (uR (unfoldS s)).fst x).Text).fst.Name (parseS (ix (uR (unfoldS s)).fst x).Text).fst.Params (parseS (ix (uR (unfoldS s)).fst x).Text).fst.Value]) x_4 x_5 x_6 x_7 x_8 x_9 x_10 x_11 x_12 x_13 x_14 x_15 x_16 x_17 x_18 x_19 x_20 x_21 x_22 x_23 x_24 x_25 < m_6 x x_1 x_2 x_3 x_4 x_5 x_6 x_7 x_8 x_9 x_10 x_11 x_12 x_13 x_14 x_15 x_16 x_17 x_18 x_19 x_20 x_21 x_22 x_23 x_24 x_25) ∧ (¬(parseS (ix (uR (unfoldS s)).fst x).Text).fst.Name ≠ [(69 : UInt8), (78 : UInt8), (68 : UInt8)] → ((x_8.length + [Comp.mk [] [] []].length) * (some (64 : Nat)).getD (0 : Nat) ≤ (140737488355328 : Nat) ∧ (0 : Int) ≤ (↑x_8.length : Int) ∧ (↑x_8.length : Int) < (↑(x_8 ++ [Comp.mk [] [] []]).length : Int) ∧ in64 (x + (1 : Int)) ∧ I_5 (x + (1 : Int)) x_1 x_6 x_7 ((x_8 ++ [Comp.mk [] [] []]).set (↑x_8.length : Int).toNat (Comp.mk x_2 x_3 x_4)) x_9 x_10 x_11 x_12 x_13 x_14 x_15 x_16 x_17 x_18 x_19 x_20 x_21 x_22 x_23 x_24 x_25 ∧ m_5 (x + (1 : Int)) x_1 x_6 x_7 ((x_8 ++ [Comp.mk [] [] []]).set (↑x_8.length : Int).toNat (Comp.mk x_2 x_3 x_4)) x_9 x_10 x_11 x_12 x_13 x_14 x_15 x_16 x_17 x_18 x_19 x_20 x_21 x_22 x_23 x_24 x_25 < m_6 x x_1 x_2 x_3 x_4 x_5 x_6 x_7 x_8 x_9 x_10 x_11 x_12 x_13 x_14 x_15 x_16 x_17 x_18 x_19 x_20 x_21 x_22 x_23 x_24 x_25) ∧ (x_8.length + [Comp.mk x_2 x_3 x_4].length) * (some (64 : Nat)).getD (0 : Nat) ≤ (140737488355328 : Nat) ∧ in64 (x + (1 : Int)) ∧ I_5 (x + (1 : Int)) x_1 x_6 x_7 (x_8 ++ [Comp.mk x_2 x_3 x_4]) x_9 x_10 x_11 x_12 x_13 x_14 x_15 x_16 x_17 x_18 x_19 x_20 x_21 x_22 x_23 x_24 x_25 ∧ m_5 (x + (1 : Int)) x_1 x_6 x_7 (x_8 ++ [Comp.mk x_2 x_3 x_4]) x_9 x_10 x_11 x_12 x_13 x_14 x_15 x_16 x_17 x_18 x_19 x_20 x_21 x_22 x_23 x_24 x_25 < m_6 x x_1 x_2 x_3 x_4 x_5 x_6 x_7 x_8 x_9 x_10 x_11 x_12 x_13 x_14 x_15 x_16 x_17 x_18 x_19 x_20 x_21 x_22 x_23 x_24 x_25))))) ∧ (¬(parseS (ix (uR (unfoldS s)).fst x).Text).fst.Name = [(66 : UInt8), (69 : UInt8), (71 : UInt8), (73 : UInt8), (78 : UInt8)] → ((parseS (ix (uR (unfoldS s)).fst x).Text).fst.Name = [(69 : UInt8), (78 : UInt8), (68 : UInt8)] ∧ x_2 ≠ [] → Q [] (atE (ix (uR (unfoldS s)).fst x).At (Err.no (11 : Int)))) ∧ (¬((parseS (ix (uR (unfoldS s)).fst x).Text).fst.Name = [(69 : UInt8), (78 : UInt8), (68 : UInt8)] ∧ x_2 ≠ []) → ((parseS (ix (uR (unfoldS s)).fst x).Text).fst.Name ≠ [(69 : UInt8), (78 : UInt8), (68 : UInt8)] → (x_3.length + [Prp.mk (parseS (ix (uR (unfoldS s)).fst x).Text).fst.Group (parseS (ix (uR (unfoldS s)).fst x).Text).fst.Name (parseS (ix (uR (unfoldS s)).fst x).Text).fst.Params (parseS (ix (uR (unfoldS s)).fst x).Text).fst.Value].length) * (some (72 : Nat)).getD (0 : Nat) ≤ (140737488355328 : Nat) ∧ in64 (x + (1 : Int)) ∧ I_6 (x + (1 : Int)) x_1 x_2 (x_3 ++ [Prp.mk (parseS (ix (uR (unfoldS s)).fst x).Text).fst.Group (parseS (ix (uR (unfoldS s)).fst x).Text).fst.Name (parseS (ix (uR (unfoldS s)).fst x).Text).fst.Params (parseS (ix (uR (unfoldS s)).fst x).Text).fst.Value]) x_4 x_5 x_6 x_7 x_8 x_9 x_10 x_11 x_12 x_13 x_14 x_15 x_16 x_17 x_18 x_19 x_20 x_21 x_22 x_23 x_24 x_25 ∧ m_6 (x + (1 : Int)) x_1 x_2 (x_3 ++ [Prp.mk (parseS (ix (uR (unfoldS s)).fst x).Text).fst.Group (parseS (ix (uR (unfoldS s)).fst x).Text).fst.Name (parseS (ix (uR (unfoldS s)).fst x).Text).fst.Params (parseS (ix (uR (unfoldS s)).fst x).Text).fst.Value]) x_4 x_5 x_6 x_7 x_8 x_9 x_10 x_11 x_12 x_13 x_14 x_15 x_16 x_17 x_18 x_19 x_20 x_21 x_22 x_23 x_24 x_25 < m_6 x x_1 x_2 x_3 x_4 x_5 x_6 x_7 x_8 x_9 x_10 x_11 x_12 x_13 x_14 x_15 x_16 x_17 x_18 x_19 x_20 x_21 x_22 x_23 x_24 x_25) ∧ (¬(parseS (ix (uR (unfoldS s)).fst x).Text).fst.Name ≠ [(69 : UInt8), (78 : UInt8), (68 : UInt8)] → ((x_8.length + [Comp.mk [] [] []].length) * (some (64 : Nat)).getD (0 : Nat) ≤ (140737488355328 : Nat) ∧ (0 : Int) ≤ (↑x_8.length : Int) ∧ (↑x_8.length : Int) < (↑(x_8 ++ [Comp.mk [] [] []]).length : Int) ∧ in64 (x + (1 : Int)) ∧ I_5 (x + (1 : Int)) x_1 x_6 x_7 ((x_8 ++ [Comp.mk [] [] []]).set (↑x_8.length : Int).toNat (Comp.mk x_2 x_3 x_4)) x_9 x_10 x_11 x_12 x_13 x_14 x_15 x_16 x_17 x_18 x_19 x_20 x_21 x_22 x_23 x_24 x_25 ∧ m_5 (x + (1 : Int)) x_1 x_6 x_7 ((x_8 ++ [Comp.mk [] [] []]).set (↑x_8.length : Int).toNat (Comp.mk x_2 x_3 x_4)) x_9 x_10 x_11 x_12 x_13 x_14 x_15 x_16 x_17 x_18 x_19 x_20 x_21 x_22 x_23 x_24 x_25 < m_6 x x_1 x_2 x_3 x_4 x_5 x_6 x_7 x_8 x_9 x_10 x_11 x_12 x_13 x_14 x_15 x_16 x_17 x_18 x_19 x_20 x_21 x_22 x_23 x_24 x_25) ∧ (x_8.length + [Comp.mk x_2 x_3 x_4].length) * (some (64 : Nat)).getD (0 : Nat) ≤ (140737488355328 : Nat) ∧ in64 (x + (1 : Int)) ∧ I_5 (x + (1 : Int)) x_1 x_6 x_7 (x_8 ++ [Comp.mk x_2 x_3 x_4]) x_9 x_10 x_11 x_12 x_13 x_14 x_15 x_16 x_17 x_18 x_19 x_20 x_21 x_22 x_23 x_24 x_25 ∧ m_5 (x + (1 : Int)) x_1 x_6 x_7 (x_8 ++ [Comp.mk x_2 x_3 x_4]) x_9 x_10 x_11 x_12 x_13 x_14 x_15 x_16 x_17 x_18 x_19 x_20 x_21 x_22 x_23 x_24 x_25 < m_6 x x_1 x_2 x_3 x_4 x_5 x_6 x_7 x_8 x_9 x_10 x_11 x_12 x_13 x_14 x_15 x_16 x_17 x_18 x_19 x_20 x_21 x_22 x_23 x_24 x_25)))) ∧ (¬(parseS (ix (uR (unfoldS s)).fst x).Text).fst.Name = [(66 : UInt8), (69 : UInt8), (71 : UInt8), (73 : UInt8), (78 : UInt8)] → ((parseS (ix (uR (unfoldS s)).fst x).Text).fst.Name = [(69 : UInt8), (78 : UInt8), (68 : UInt8)] → List.length (parseS (ix (uR (unfoldS s)).fst x).Text).fst.Value ≤ (10000000 : Nat) ∧ ((namedS (Prp.mk (parseS (ix (uR (unfoldS s)).fst x).Text).fst.Group (parseS (ix (uR (unfoldS s)).fst x).Text).fst.Name (parseS (ix (uR (unfoldS s)).fst x).Text).fst.Params (parseS (ix (uR (unfoldS s)).fst x).Text).fst.Value)).snd ≠ Err.nil → Q [] (atE (ix (uR (unfoldS s)).fst x).At (namedS (Prp.mk (parseS (ix (uR (unfoldS s)).fst x).Text).fst.Group (parseS (ix (uR (unfoldS s)).fst x).Text).fst.Name (parseS (ix (uR (unfoldS s)).fst x).Text).fst.Params (parseS (ix (uR (unfoldS s)).fst x).Text).fst.Value)).snd)) ∧ (¬(namedS (Prp.mk (parseS (ix (uR (unfoldS s)).fst x).Text).fst.Group (parseS (ix (uR (unfoldS s)).fst x).Text).fst.Name (parseS (ix (uR (unfoldS s)).fst x).Text).fst.Params (parseS (ix (uR (unfoldS s)).fst x).Text).fst.Value)).snd ≠ Err.nil → ((parseS (ix (uR (unfoldS s)).fst x).Text).fst.Name = [(66 : UInt8), (69 : UInt8), (71 : UInt8), (73 : UInt8), (78 : UInt8)] → in64 ((0 : Int) + (1 : Int)) ∧ in64 ((0 : Int) + (1 : Int) + (1 : Int)) ∧ in64 ((0 : Int) + (1 : Int) + (1 : Int) + (1 : Int)) ∧ in64 ((0 : Int) + (1 : Int) + (1 : Int) + (1 : Int) + (1 : Int)) ∧ in64 ((0 : Int) + (1 : Int) + (1 : Int) + (1 : Int) + (1 : Int) + (1 : Int)) ∧ in64 ((0 : Int) + (1 : Int) + (1 : Int) + (1 : Int) + (1 : Int) + (1 : Int) + (1 : Int)) ∧ in64 ((0 : Int) + (1 : Int) + (1 : Int) + (1 : Int) + (1 : Int) + (1 : Int) + (1 : Int) + (1 : Int)) ∧ ((6 : Int) < (0 : Int) + (1 : Int) + (1 : Int) + (1 : Int) + (1 : Int) + (1 : Int) + (1 : Int) + (1 : Int) → Q [] (atE (ix (uR (unfoldS s)).fst x).At (Err.no (12 : Int)))) ∧ (¬(6 : Int) < (0 : Int) + (1 : Int) + (1 : Int) + (1 : Int) + (1 : Int) + (1 : Int) + (1 : Int) + (1 : Int) → in64 (x + (1 : Int)) ∧ False)) ∧ (¬(parseS (ix (uR (unfoldS s)).fst x).Text).fst.Name = [(66 : UInt8), (69 : UInt8), (71 : UInt8), (73 : UInt8), (78 : UInt8)] → ((parseS (ix (uR (unfoldS s)).fst x).Text).fst.Name = [(69 : UInt8), (78 : UInt8), (68 : UInt8)] ∧ x_2 ≠ (namedS (Prp.mk (parseS (ix (uR (unfoldS s)).fst x).Text).fst.Group (parseS (ix (uR (unfoldS s)).fst x).Text).fst.Name (parseS (ix (uR (unfoldS s)).fst x).Text).fst.Params (parseS (ix (uR (unfoldS s)).fst x).Text).fst.Value)).fst → Q [] (atE (ix (uR (unfoldS s)).fst x).At (Err.no (11 : Int)))) ∧ (¬((parseS (ix (uR (unfoldS s)).fst x).Text).fst.Name = [(69 : UInt8), (78 : UInt8), (68 : UInt8)] ∧ x_2 ≠ (namedS (Prp.mk (parseS (ix (uR (unfoldS s)).fst x).Text).fst.Group (parseS (ix (uR (unfoldS s)).fst x).Text).fst.Name (parseS (ix (uR (unfoldS s)).fst x).Text).fst.Params (parseS (ix (uR (unfoldS s)).fst x).Text).fst.Value)).fst) → ((parseS (ix (uR (unfoldS s)).fst x).Text).fst.Name ≠ [(69 : UInt8), (78 : UInt8), (68 : UInt8)] → (x_3.length + [Prp.mk (parseS (ix (uR (unfoldS s)).fst x).Text).fst.Group (parseS (ix (uR (unfoldS s)).fst x).Text).fst.Name (parseS (ix (uR (unfoldS s)).fst x).Text).fst.Params (parseS (ix (uR (unfoldS s)).fst x).Text).fst.Value].length) * (some (72 : Nat)).getD (0 : Nat) ≤ (140737488355328 : Nat) ∧ in64 (x + (1 : Int)) ∧ I_6 (x + (1 : Int)) x_1 x_2 (x_3 ++ [Prp.mk (parseS (ix (uR (unfoldS s)).fst x).Text).fst.Group (parseS (ix (uR (unfoldS s)).fst x).Text).fst.Name (parseS (ix (uR (unfoldS s)).fst x).Text).fst.Params (parseS (ix (uR (unfoldS s)).fst x).Text).fst.Value]) x_4 x_5 x_6 x_7 x_8 x_9 x_10 x_11 x_12 x_13 x_14 x_15 x_16 x_17 x_18 x_19 x_20 x_21 x_22 x_23 x_24 x_25 ∧ m_6 (x + (1 : Int)) x_1 x_2 (x_3 ++ [Prp.mk (parseS (ix (uR (unfoldS s)).fst x).Text).fst.Group (parseS (ix (uR (unfoldS s)).fst x).Text).fst.Name (parseS (ix (uR (unfoldS s)).fst x).Text).fst.Params (parseS (ix (uR (unfoldS s)).fst x).Text).fst.Value]) x_4 x_5 x_6 x_7 x_8 x_9 x_10 x_11 x_12 x_13 x_14 x_15 x_16 x_17 x_18 x_19 x_20 x_21 x_22 x_23 x_24 x_25 < m_6 x x_1 x_2 x_3 x_4 x_5 x_6 x_7 x_8 x_9 x_10 x_11 x_12 x_13 x_14 x_15 x_16 x_17 x_18 x_19 x_20 x_21 x_22 x_23 x_24 x_25) ∧ (¬(parseS (ix (uR (unfoldS s)).fst x).Text).fst.Name ≠ [(69 : UInt8), (78 : UInt8), (68 : UInt8)] → ((x_8.length + [Comp.mk [] [] []].length) * (some (64 : Nat)).getD (0 : Nat) ≤ (140737488355328 : Nat) ∧ (0 : Int) ≤ (↑x_8.length : Int) ∧ (↑x_8.length : Int) < (↑(x_8 ++ [Comp.mk [] [] []]).length : Int) ∧ in64 (x + (1 : Int)) ∧ I_5 (x + (1 : Int)) x_1 x_6 x_7 ((x_8 ++ [Comp.mk [] [] []]).set (↑x_8.length : Int).toNat (Comp.mk x_2 x_3 x_4)) x_9 x_10 x_11 x_12 x_13 x_14 x_15 x_16 x_17 x_18 x_19 x_20 x_21 x_22 x_23 x_24 x_25 ∧ m_5 (x + (1 : Int)) x_1 x_6 x_7 ((x_8 ++ [Comp.mk [] [] []]).set (↑x_8.length : Int).toNat (Comp.mk x_2 x_3 x_4)) x_9 x_10 x_11 x_12 x_13 x_14 x_15 x_16 x_17 x_18 x_19 x_20 x_21 x_22 x_23 x_24 x_25 < m_6 x x_1 x_2 x_3 x_4 x_5 x_6 x_7 x_8 x_9 x_10 x_11 x_12 x_13 x_14 x_15 x_16 x_17 x_18 x_19 x_20 x_21 x_22 x_23 x_24 x_25) ∧ (x_8.length + [Comp.mk x_2 x_3 x_4].length) * (some (64 : Nat)).getD (0 : Nat) ≤ (140737488355328 : Nat) ∧ in64 (x + (1 : Int)) ∧ I_5 (x + (1 : Int)) x_1 x_6 x_7 (x_8 ++ [Comp.mk x_2 x_3 x_4]) x_9 x_10 x_11 x_12 x_13 x_14 x_15 x_16 x_17 x_18 x_19 x_20 x_21 x_22 x_23 x_24 x_25 ∧ m_5 (x + (1 : Int)) x_1 x_6 x_7 (x_8 ++ [Comp.mk x_2 x_3 x_4]) x_9 x_10 x_11 x_12 x_13 x_14 x_15 x_16 x_17 x_18 x_19 x_20 x_21 x_22 x_23 x_24 x_25 < m_6 x x_1 x_2 x_3 x_4 x_5 x_6 x_7 x_8 x_9 x_10 x_11 x_12 x_13 x_14 x_15 x_16 x_17 x_18 x_19 x_20 x_21 x_22 x_23 x_24 x_25))))) ∧ (¬(parseS (ix (uR (unfoldS s)).fst x).Text).fst.Name = [(69 : UInt8), (78 : UInt8), (68 : UInt8)] → ((parseS (ix (uR (unfoldS s)).fst x).Text).fst.Name = [(69 : UInt8), (78 : UInt8), (68 : UInt8)] ∧ x_2 ≠ [] → Q [] (atE (ix (uR (unfoldS s)).fst x).At (Err.no (11 : Int)))) ∧ (¬((parseS (ix (uR (unfoldS s)).fst x).Text).fst.Name = [(69 : UInt8), (78 : UInt8), (68 : UInt8)] ∧ x_2 ≠ []) → ((parseS (ix (uR (unfoldS s)).fst x).Text).fst.Name ≠ [(69 : UInt8), (78 : UInt8), (68 : UInt8)] → (x_3.length + [Prp.mk (parseS (ix (uR (unfoldS s)).fst x).Text).fst.Group (parseS (ix (uR (unfoldS s)).fst x).Text).fst.Name (parseS (ix (uR (unfoldS s)).fst x).Text).fst.Params (parseS (ix (uR (unfoldS s)).fst x).Text).fst.Value].length) * (some (72 : Nat)).getD (0 : Nat) ≤ (140737488355328 : Nat) ∧ in64 (x + (1 : Int)) ∧ I_6 (x + (1 : Int)) x_1 x_2 (x_3 ++ [Prp.mk (parseS (ix (uR (unfoldS s)).fst x).Text).fst.Group (parseS (ix (uR (unfoldS s)).fst x).Text).fst.Name (parseS (ix (uR (unfoldS s)).fst x).Text).fst.Params (parseS (ix (uR (unfoldS s)).fst x).Text).fst.Value]) x_4 x_5 x_6 x_7 x_8 x_9 x_10 x_11 x_12 x_13 x_14 x_15 x_16 x_17 x_18 x_19 x_20 x_21 x_22 x_23 x_24 x_25 ∧ m_6 (x + (1 : Int)) x_1 x_2 (x_3 ++ [Prp.mk (parseS (ix (uR (unfoldS s)).fst x).Text).fst.Group (parseS (ix (uR (unfoldS s)).fst x).Text).fst.Name (parseS (ix (uR (unfoldS s)).fst x).Text).fst.Params (parseS (ix (uR (unfoldS s)).fst x).Text).fst.Value]) x_4 x_5 x_6 x_7 x_8 x_9 x_10 x_11 x_12 x_13 x_14 x_15 x_16 x_17 x_18 x_19 x_20 x_21 x_22 x_23 x_24 x_25 < m_6 x x_1 x_2 x_3 x_4 x_5 x_6 x_7 x_8 x_9 x_10 x_11 x_12 x_13 x_14 x_15 x_16 x_17 x_18 x_19 x_20 x_21 x_22 x_23 x_24 x_25) ∧ (¬(parseS (ix (uR (unfoldS s)).fst x).Text).fst.Name ≠ [(69 : UInt8), (78 : UInt8), (68 : UInt8)] → ((x_8.length + [Comp.mk [] [] []].length) * (some (64 : Nat)).getD (0 : Nat) ≤ (140737488355328 : Nat) ∧ (0 : Int) ≤ (↑x_8.length : Int) ∧ (↑x_8.length : Int) < (↑(x_8 ++ [Comp.mk [] [] []]).length : Int) ∧ in64 (x + (1 : Int)) ∧ I_5 (x + (1 : Int)) x_1 x_6 x_7 ((x_8 ++ [Comp.mk [] [] []]).set (↑x_8.length : Int).toNat (Comp.mk x_2 x_3 x_4)) x_9 x_10 x_11 x_12 x_13 x_14 x_15 x_16 x_17 x_18 x_19 x_20 x_21 x_22 x_23 x_24 x_25 ∧ m_5 (x + (1 : Int)) x_1 x_6 x_7 ((x_8 ++ [Comp.mk [] [] []]).set (↑x_8.length : Int).toNat (Comp.mk x_2 x_3 x_4)) x_9 x_10 x_11 x_12 x_13 x_14 x_15 x_16 x_17 x_18 x_19 x_20 x_21 x_22 x_23 x_24 x_25 < m_6 x x_1 x_2 x_3 x_4 x_5 x_6 x_7 x_8 x_9 x_10 x_11 x_12 x_13 x_14 x_15 x_16 x_17 x_18 x_19 x_20 x_21 x_22 x_23 x_24 x_25) ∧ (x_8.length + [Comp.mk x_2 x_3 x_4].length) * (some (64 : Nat)).getD (0 : Nat) ≤ (140737488355328 : Nat) ∧ in64 (x + (1 : Int)) ∧ I_5 (x + (1 : Int)) x_1 x_6 x_7 (x_8 ++ [Comp.mk x_2 x_3 x_4]) x_9 x_10 x_11 x_12 x_13 x_14 x_15 x_16 x_17 x_18 x_19 x_20 x_21 x_22 x_23 x_24 x_25 ∧ m_5 (x + (1 : Int)) x_1 x_6 x_7 (x_8 ++ [Comp.mk x_2 x_3 x_4]) x_9 x_10 x_11 x_12 x_13 x_14 x_15 x_16 x_17 x_18 x_19 x_20 x_21 x_22 x_23 x_24 x_25 < m_6 x x_1 x_2 x_3 x_4 x_5 x_6 x_7 x_8 x_9 x_10 x_11 x_12 x_13 x_14 x_15 x_16 x_17 x_18 x_19 x_20 x_21 x_22 x_23 x_24 x_25))))))) ∧ (¬x < (↑(uR (unfoldS s)).fst.length : Int) → Q [] (atE x_5 (Err.no (11 : Int))))) ∧ True)
set_option maxRecDepth 100000 in
theorem V39_ok {s : Str} {Q : List Comp → Err → Prop} (h : V39 s Q) : vcFun (E := NI86) (inlN an39 3) (an39 39) Tryd.f39 [.str s] [] [] 0 (resP NI86 [.acc 68, .err] Q) := Eq.mp (show V39 s Q = vcFun (E := NI86) (inlN an39 3) (an39 39) Tryd.f39 [.str s] [] [] 0 (resP NI86 [.acc 68, .err] Q) by kernel_rfl) h
theorem p39 (s : Str) (hs : s.length ≤ 100000) : V39 s (fun y0 y1 => y0 = (cR (compS s)).1 ∧ y1 = cE (compS s)) := by
  unfold V39
  refine ⟨hs, fun he => ?_, fun he => ?_⟩
  · unfold compS
    cases hu : unfoldS s with
    | ok rows => rw [hu] at he; exact absurd rfl he
    | error e => exact ⟨rfl, rfl⟩
  cases hu : unfoldS s with
  | error e => rw [hu] at he; exact absurd (fun h => by cases h) he
  | ok rows =>
  have hR : compS s = goC rows [] [] := by unfold compS; rw [hu]
  have hrows : (uR (.ok rows)).1 = rows := rfl
  generalize compS s = R at hR ⊢
  rw [hrows]
  obtain ⟨hr1, hr2⟩ := unfold_short hu
  clear he hu
  have h0 : InvC rows R 0 [] [] := ⟨⟨by omega, by omega, by simp, fun f hf => by cases hf⟩, hR⟩
  have in1 : ∀ {x : Int} {out : List Comp} {st : List Co.Frm}, InvC rows R x out st → x < rows.length → in64 (x + 1) := fun h hx => by have := h.1; exact ⟨by omega, by omega⟩
  have bd : ∀ {x : Int} {α : Type} (l : List α) (z : α) (m : Nat), (l.length : Int) ≤ x → x < rows.length → m ≤ 1000 → (l.length + [z].length) * m ≤ 140737488355328 := fun l z m h1 h2 h3 => by
    have e1 : l.length + [z].length ≤ 1001 := by simp only [List.length_cons, List.length_nil]; omega
    have := Nat.mul_le_mul e1 h3; omega
  refine ⟨fun x out  => InvC rows R x out [], fun x _  => ((rows.length : Int) - x).toNat, fun x out n1 p1 c1 a1 => InvC rows R x out [(.mk n1 p1 c1, a1)], fun x _ _ _ _ _ => ((rows.length : Int) - x).toNat, fun x out n1 p1 c1 a1 n2 p2 c2 a2 => InvC rows R x out [(.mk n1 p1 c1, a1), (.mk n2 p2 c2, a2)], fun x _ _ _ _ _ _ _ _ _ => ((rows.length : Int) - x).toNat, fun x out n1 p1 c1 a1 n2 p2 c2 a2 n3 p3 c3 a3 => InvC rows R x out [(.mk n1 p1 c1, a1), (.mk n2 p2 c2, a2), (.mk n3 p3 c3, a3)], fun x _ _ _ _ _ _ _ _ _ _ _ _ _ => ((rows.length : Int) - x).toNat, fun x out n1 p1 c1 a1 n2 p2 c2 a2 n3 p3 c3 a3 n4 p4 c4 a4 => InvC rows R x out [(.mk n1 p1 c1, a1), (.mk n2 p2 c2, a2), (.mk n3 p3 c3, a3), (.mk n4 p4 c4, a4)], fun x _ _ _ _ _ _ _ _ _ _ _ _ _ _ _ _ _ => ((rows.length : Int) - x).toNat, fun x out n1 p1 c1 a1 n2 p2 c2 a2 n3 p3 c3 a3 n4 p4 c4 a4 n5 p5 c5 a5 => InvC rows R x out [(.mk n1 p1 c1, a1), (.mk n2 p2 c2, a2), (.mk n3 p3 c3, a3), (.mk n4 p4 c4, a4), (.mk n5 p5 c5, a5)], fun x _ _ _ _ _ _ _ _ _ _ _ _ _ _ _ _ _ _ _ _ _ => ((rows.length : Int) - x).toNat, fun x out n1 p1 c1 a1 n2 p2 c2 a2 n3 p3 c3 a3 n4 p4 c4 a4 n5 p5 c5 a5 n6 p6 c6 a6 => InvC rows R x out [(.mk n1 p1 c1, a1), (.mk n2 p2 c2, a2), (.mk n3 p3 c3, a3), (.mk n4 p4 c4, a4), (.mk n5 p5 c5, a5), (.mk n6 p6 c6, a6)], fun x _ _ _ _ _ _ _ _ _ _ _ _ _ _ _ _ _ _ _ _ _ _ _ _ _ => ((rows.length : Int) - x).toNat, h0, ?_, ?_, ?_, ?_, ?_, ?_, ?_, trivial⟩
  · intro x out  h
    have h : InvC rows R x out [] := h
    refine ⟨fun hx => ?_, fun hx => h.fin0 hx⟩
    obtain ⟨tl, vl⟩ := h.pp hx hr2
    have hl := h.less hx
    exact ⟨h.1.1, hx, fun _ => ⟨by omega, fun he => h.bad hx he, fun ho => ⟨fun hB => ⟨fun _ => ⟨by omega, fun hn => h.begE hx ho hB hn, fun hn => ⟨fun _ => ⟨⟨by omega, by omega⟩, fun hh => absurd hh (by decide), fun _ => ⟨in1 h hx, h.beg hx ho hB hn (show (0 : Nat) < 6 by decide), hl⟩⟩, fun hh => absurd hB hh⟩⟩, fun hh => absurd hB hh⟩, fun hB => ⟨fun hE => ⟨by omega, fun hn => h.endE hx ho hB hE hn, fun hn => ⟨fun hh => absurd hh hB, fun _ => h.none hx ho hB⟩⟩, fun hE => h.none hx ho hB⟩⟩⟩⟩
  · intro x out n1 p1 c1 a1 h
    have h : InvC rows R x out [(.mk n1 p1 c1, a1)] := h
    refine ⟨fun hx => ?_, fun hx => h.fin hx⟩
    obtain ⟨tl, vl⟩ := h.pp hx hr2
    have hl := h.less hx
    have h1 := h.1.2.2.2 _ (List.mem_cons_self ..)
    exact ⟨h.1.1, hx, fun _ => ⟨by omega, fun he => h.bad hx he, fun ho => ⟨fun hB => ⟨fun _ => ⟨by omega, fun hn => h.begE hx ho hB hn, fun hn => ⟨fun _ => ⟨⟨by omega, by omega⟩, ⟨by omega, by omega⟩, fun hh => absurd hh (by decide), fun _ => ⟨in1 h hx, h.beg hx ho hB hn (show (1 : Nat) < 6 by decide), hl⟩⟩, fun hh => absurd hB hh⟩⟩, fun hh => absurd hB hh⟩, fun hB => ⟨fun hE => ⟨by omega, fun hn => h.endE hx ho hB hE hn, fun hn => ⟨fun hh => absurd hh hB, fun _ => ⟨fun hh => h.endN hx ho hB hh, fun hh => ⟨fun hp => absurd hE hp, fun _ => ⟨bd out _ 64 h.1.2.2.1 hx (by decide), in1 h hx, h.pop1 hx ho hB hE hn hh, hl⟩⟩⟩⟩⟩, fun hE => ⟨fun hh => absurd hh.1 hE, fun _ => ⟨fun hp => ⟨bd p1 _ 72 h1.1 hx (by decide), in1 h hx, h.prop hx ho hB hp, hl⟩, fun hp => (hp hE).elim⟩⟩⟩⟩⟩⟩
  · intro x out n1 p1 c1 a1 n2 p2 c2 a2 h
    have h : InvC rows R x out [(.mk n1 p1 c1, a1), (.mk n2 p2 c2, a2)] := h
    refine ⟨fun hx => ?_, fun hx => h.fin hx⟩
    obtain ⟨tl, vl⟩ := h.pp hx hr2
    have hl := h.less hx
    have h1 := h.1.2.2.2 _ (List.mem_cons_self ..)
    have h2 := h.1.2.2.2 _ (List.mem_cons_of_mem _ (List.mem_cons_self ..))
    exact ⟨h.1.1, hx, fun _ => ⟨by omega, fun he => h.bad hx he, fun ho => ⟨fun hB => ⟨fun _ => ⟨by omega, fun hn => h.begE hx ho hB hn, fun hn => ⟨fun _ => ⟨⟨by omega, by omega⟩, ⟨by omega, by omega⟩, ⟨by omega, by omega⟩, fun hh => absurd hh (by decide), fun _ => ⟨in1 h hx, h.beg hx ho hB hn (show (2 : Nat) < 6 by decide), hl⟩⟩, fun hh => absurd hB hh⟩⟩, fun hh => absurd hB hh⟩, fun hB => ⟨fun hE => ⟨by omega, fun hn => h.endE hx ho hB hE hn, fun hn => ⟨fun hh => absurd hh hB, fun _ => ⟨fun hh => h.endN hx ho hB hh, fun hh => ⟨fun hp => absurd hE hp, fun _ => ⟨⟨bd c2 _ 64 h2.2 hx (by decide), by omega, by simp only [List.length_append, List.length_cons, List.length_nil]; omega, in1 h hx, h.pop0 hx ho hB hE hn hh, hl⟩, bd c2 _ 64 h2.2 hx (by decide), in1 h hx, h.pop hx ho hB hE hn hh, hl⟩⟩⟩⟩⟩, fun hE => ⟨fun hh => absurd hh.1 hE, fun _ => ⟨fun hp => ⟨bd p1 _ 72 h1.1 hx (by decide), in1 h hx, h.prop hx ho hB hp, hl⟩, fun hp => (hp hE).elim⟩⟩⟩⟩⟩⟩
  · intro x out n1 p1 c1 a1 n2 p2 c2 a2 n3 p3 c3 a3 h
    have h : InvC rows R x out [(.mk n1 p1 c1, a1), (.mk n2 p2 c2, a2), (.mk n3 p3 c3, a3)] := h
    refine ⟨fun hx => ?_, fun hx => h.fin hx⟩
    obtain ⟨tl, vl⟩ := h.pp hx hr2
    have hl := h.less hx
    have h1 := h.1.2.2.2 _ (List.mem_cons_self ..)
    have h2 := h.1.2.2.2 _ (List.mem_cons_of_mem _ (List.mem_cons_self ..))
    exact ⟨h.1.1, hx, fun _ => ⟨by omega, fun he => h.bad hx he, fun ho => ⟨fun hB => ⟨fun _ => ⟨by omega, fun hn => h.begE hx ho hB hn, fun hn => ⟨fun _ => ⟨⟨by omega, by omega⟩, ⟨by omega, by omega⟩, ⟨by omega, by omega⟩, ⟨by omega, by omega⟩, fun hh => absurd hh (by decide), fun _ => ⟨in1 h hx, h.beg hx ho hB hn (show (3 : Nat) < 6 by decide), hl⟩⟩, fun hh => absurd hB hh⟩⟩, fun hh => absurd hB hh⟩, fun hB => ⟨fun hE => ⟨by omega, fun hn => h.endE hx ho hB hE hn, fun hn => ⟨fun hh => absurd hh hB, fun _ => ⟨fun hh => h.endN hx ho hB hh, fun hh => ⟨fun hp => absurd hE hp, fun _ => ⟨⟨bd c2 _ 64 h2.2 hx (by decide), by omega, by simp only [List.length_append, List.length_cons, List.length_nil]; omega, in1 h hx, h.pop0 hx ho hB hE hn hh, hl⟩, bd c2 _ 64 h2.2 hx (by decide), in1 h hx, h.pop hx ho hB hE hn hh, hl⟩⟩⟩⟩⟩, fun hE => ⟨fun hh => absurd hh.1 hE, fun _ => ⟨fun hp => ⟨bd p1 _ 72 h1.1 hx (by decide), in1 h hx, h.prop hx ho hB hp, hl⟩, fun hp => (hp hE).elim⟩⟩⟩⟩⟩⟩
  · intro x out n1 p1 c1 a1 n2 p2 c2 a2 n3 p3 c3 a3 n4 p4 c4 a4 h
    have h : InvC rows R x out [(.mk n1 p1 c1, a1), (.mk n2 p2 c2, a2), (.mk n3 p3 c3, a3), (.mk n4 p4 c4, a4)] := h
    refine ⟨fun hx => ?_, fun hx => h.fin hx⟩
    obtain ⟨tl, vl⟩ := h.pp hx hr2
    have hl := h.less hx
    have h1 := h.1.2.2.2 _ (List.mem_cons_self ..)
    have h2 := h.1.2.2.2 _ (List.mem_cons_of_mem _ (List.mem_cons_self ..))
    exact ⟨h.1.1, hx, fun _ => ⟨by omega, fun he => h.bad hx he, fun ho => ⟨fun hB => ⟨fun _ => ⟨by omega, fun hn => h.begE hx ho hB hn, fun hn => ⟨fun _ => ⟨⟨by omega, by omega⟩, ⟨by omega, by omega⟩, ⟨by omega, by omega⟩, ⟨by omega, by omega⟩, ⟨by omega, by omega⟩, fun hh => absurd hh (by decide), fun _ => ⟨in1 h hx, h.beg hx ho hB hn (show (4 : Nat) < 6 by decide), hl⟩⟩, fun hh => absurd hB hh⟩⟩, fun hh => absurd hB hh⟩, fun hB => ⟨fun hE => ⟨by omega, fun hn => h.endE hx ho hB hE hn, fun hn => ⟨fun hh => absurd hh hB, fun _ => ⟨fun hh => h.endN hx ho hB hh, fun hh => ⟨fun hp => absurd hE hp, fun _ => ⟨⟨bd c2 _ 64 h2.2 hx (by decide), by omega, by simp only [List.length_append, List.length_cons, List.length_nil]; omega, in1 h hx, h.pop0 hx ho hB hE hn hh, hl⟩, bd c2 _ 64 h2.2 hx (by decide), in1 h hx, h.pop hx ho hB hE hn hh, hl⟩⟩⟩⟩⟩, fun hE => ⟨fun hh => absurd hh.1 hE, fun _ => ⟨fun hp => ⟨bd p1 _ 72 h1.1 hx (by decide), in1 h hx, h.prop hx ho hB hp, hl⟩, fun hp => (hp hE).elim⟩⟩⟩⟩⟩⟩
  · intro x out n1 p1 c1 a1 n2 p2 c2 a2 n3 p3 c3 a3 n4 p4 c4 a4 n5 p5 c5 a5 h
    have h : InvC rows R x out [(.mk n1 p1 c1, a1), (.mk n2 p2 c2, a2), (.mk n3 p3 c3, a3), (.mk n4 p4 c4, a4), (.mk n5 p5 c5, a5)] := h
    refine ⟨fun hx => ?_, fun hx => h.fin hx⟩
    obtain ⟨tl, vl⟩ := h.pp hx hr2
    have hl := h.less hx
    have h1 := h.1.2.2.2 _ (List.mem_cons_self ..)
    have h2 := h.1.2.2.2 _ (List.mem_cons_of_mem _ (List.mem_cons_self ..))
    exact ⟨h.1.1, hx, fun _ => ⟨by omega, fun he => h.bad hx he, fun ho => ⟨fun hB => ⟨fun _ => ⟨by omega, fun hn => h.begE hx ho hB hn, fun hn => ⟨fun _ => ⟨⟨by omega, by omega⟩, ⟨by omega, by omega⟩, ⟨by omega, by omega⟩, ⟨by omega, by omega⟩, ⟨by omega, by omega⟩, ⟨by omega, by omega⟩, fun hh => absurd hh (by decide), fun _ => ⟨in1 h hx, h.beg hx ho hB hn (show (5 : Nat) < 6 by decide), hl⟩⟩, fun hh => absurd hB hh⟩⟩, fun hh => absurd hB hh⟩, fun hB => ⟨fun hE => ⟨by omega, fun hn => h.endE hx ho hB hE hn, fun hn => ⟨fun hh => absurd hh hB, fun _ => ⟨fun hh => h.endN hx ho hB hh, fun hh => ⟨fun hp => absurd hE hp, fun _ => ⟨⟨bd c2 _ 64 h2.2 hx (by decide), by omega, by simp only [List.length_append, List.length_cons, List.length_nil]; omega, in1 h hx, h.pop0 hx ho hB hE hn hh, hl⟩, bd c2 _ 64 h2.2 hx (by decide), in1 h hx, h.pop hx ho hB hE hn hh, hl⟩⟩⟩⟩⟩, fun hE => ⟨fun hh => absurd hh.1 hE, fun _ => ⟨fun hp => ⟨bd p1 _ 72 h1.1 hx (by decide), in1 h hx, h.prop hx ho hB hp, hl⟩, fun hp => (hp hE).elim⟩⟩⟩⟩⟩⟩
  · intro x out n1 p1 c1 a1 n2 p2 c2 a2 n3 p3 c3 a3 n4 p4 c4 a4 n5 p5 c5 a5 n6 p6 c6 a6 h
    have h : InvC rows R x out [(.mk n1 p1 c1, a1), (.mk n2 p2 c2, a2), (.mk n3 p3 c3, a3), (.mk n4 p4 c4, a4), (.mk n5 p5 c5, a5), (.mk n6 p6 c6, a6)] := h
    refine ⟨fun hx => ?_, fun hx => h.fin hx⟩
    obtain ⟨tl, vl⟩ := h.pp hx hr2
    have hl := h.less hx
    have h1 := h.1.2.2.2 _ (List.mem_cons_self ..)
    have h2 := h.1.2.2.2 _ (List.mem_cons_of_mem _ (List.mem_cons_self ..))
    exact ⟨h.1.1, hx, fun _ => ⟨by omega, fun he => h.bad hx he, fun ho => ⟨fun hB => ⟨fun _ => ⟨by omega, fun hn => h.begE hx ho hB hn, fun hn => ⟨fun _ => ⟨⟨by omega, by omega⟩, ⟨by omega, by omega⟩, ⟨by omega, by omega⟩, ⟨by omega, by omega⟩, ⟨by omega, by omega⟩, ⟨by omega, by omega⟩, ⟨by omega, by omega⟩, fun _ => h.begD hx ho hB hn (show 6 ≤ 6 by decide), fun hh => absurd (by decide) hh⟩, fun hh => absurd hB hh⟩⟩, fun hh => absurd hB hh⟩, fun hB => ⟨fun hE => ⟨by omega, fun hn => h.endE hx ho hB hE hn, fun hn => ⟨fun hh => absurd hh hB, fun _ => ⟨fun hh => h.endN hx ho hB hh, fun hh => ⟨fun hp => absurd hE hp, fun _ => ⟨⟨bd c2 _ 64 h2.2 hx (by decide), by omega, by simp only [List.length_append, List.length_cons, List.length_nil]; omega, in1 h hx, h.pop0 hx ho hB hE hn hh, hl⟩, bd c2 _ 64 h2.2 hx (by decide), in1 h hx, h.pop hx ho hB hE hn hh, hl⟩⟩⟩⟩⟩, fun hE => ⟨fun hh => absurd hh.1 hE, fun _ => ⟨fun hp => ⟨bd p1 _ 72 h1.1 hx (by decide), in1 h hx, h.prop hx ho hB hp, hl⟩, fun hp => (hp hE).elim⟩⟩⟩⟩⟩⟩
def c39 (a : List (SV U)) (nx : Nat) : Option (CR U) := match a with | [.str s] => some ⟨[List.length (α := UInt8) s ≤ 100000], [], .tup [.acc nx, .err (cE (compS s))], [.ac 68 ((cR (compS s)).1)]⟩ | _ => none
set_option maxRecDepth 100000 in
theorem c39_ok (args : List (SV U)) (nx : Nat) (c : CR U) (h : c39 args nx = some c) (hp : args.all pureS = true) (ho : allP c.ob) : ConOK NI86.P NI86.N NI86.T NI86.G 39 args nx c := by
  unfold c39 at h
  split at h
  · rename_i s
    cases h
    exact con2 NI86_ok (inlN_ok NI86_ok an39 3) Tryd.func39 (k1 := .acc 68) (k2 := .err) (x1 := (cR (compS s)).1) (x2 := cE (compS s)) rfl hp (V39_ok (p39 s ho.1))
  · cases h
noncomputable def N39 : Env := NI86.addC 39 c39
theorem N39_ok : EnvOK N39 := NI86_ok.addC Tryd.call39 c39_ok
end Go.Proofs.YtadgfmmmdhlljaaDoor
end
section
namespace Go.Co
open Go Go.Wk Go.Wl Go.Rx Go.Fo Go.Li
def finR (e a : Int) (r : Except (Int × Int) (List Comp)) : Except (Int × Int) (List Comp) := if e ≠ 0 then .error (e, a) else r
def goR (e a : Int) : List CRow → List Frm → List Comp → Except (Int × Int) (List Comp)
  | [], [], out => finR e a (.ok out)
  | [], (_, b) :: _, _ => finR e a (.error (11, b))
  | r :: rs, st, out => match stepC st out r.At r.P with
    | .error e => .error e
    | .ok q => goR e a rs q.1 q.2
def sameP (a b : List Prp) : Bool := decide (a = b)
noncomputable def sameC (a b : List Comp) : Bool := @decide (a = b) (Classical.propDecidable _)
theorem sameC_iff {a b : List Comp} : sameC a b = true ↔ a = b := by
  unfold sameC
  exact @decide_eq_true_iff _ (Classical.propDecidable _)
noncomputable def csz (l : List Comp) : Nat := SizeOf.sizeOf l
theorem csz_in {l : List Comp} {i : Int} (h0 : 0 ≤ i) (h1 : i < l.length) : csz (ix l i).Comps < csz l := by
  have h2 := List.sizeOf_lt_of_mem (ix_mem h0 h1)
  unfold csz
  generalize ix l i = c at h2 ⊢
  obtain ⟨n, p, cs⟩ := c
  rw [Comp.mk.sizeOf_spec] at h2
  show SizeOf.sizeOf cs < SizeOf.sizeOf l
  omega
theorem Comp.ext' {a b : Comp} (h1 : a.Name = b.Name) (h2 : a.Props = b.Props) (h3 : a.Comps = b.Comps) : a = b := by
  obtain ⟨n, p, c⟩ := a
  obtain ⟨n', p', c'⟩ := b
  have h1 : n = n' := h1
  have h2 : p = p' := h2
  have h3 : c = c' := h3
  rw [h1, h2, h3]
def okP (p : Prp) : Prop := p.Params.length ≤ 9223372036854775807 ∧ ∀ x ∈ p.Params, x.Values.length ≤ 9223372036854775807
inductive OkC : Comp → Prop
  | mk {n : Str} {p : List Prp} {c : List Comp} : p.length ≤ 100000000 → (∀ x ∈ p, okP x) → c.length ≤ 100000000 → (∀ x ∈ c, OkC x) → OkC (.mk n p c)
theorem OkC.out {c : Comp} (h : OkC c) : c.Props.length ≤ 100000000 ∧ (∀ x ∈ c.Props, okP x) ∧ c.Comps.length ≤ 100000000 ∧ ∀ x ∈ c.Comps, OkC x := by
  cases h with | mk h1 h2 h3 h4 => exact ⟨h1, h2, h3, h4⟩
end Go.Co
end
section
namespace Go.Proofs.YtadgfmmmdhlljaaDoor
open Go Go.Wk Go.Wl Go.Rx Go.Fo Go.Li Go.Co 
def an45 : Nat → Ann := fun | 45 => ⟨27, fun | 4 => some ⟨[0, 1], [.slot 5 (.int .i64)]⟩ | _ => none, fun  | _ => none⟩ | _ => ⟨0, fun _ => none, fun _ => none⟩
def V45 (a : List Prp) (b : List Prp) (Q : Bool → Prop) : Prop :=
((↑a.length : Int) ≠ (↑b.length : Int) → Q false) ∧
  (¬(↑a.length : Int) ≠ (↑b.length : Int) →
    ∃ (I : Int → Prop),
      ∃ (m : Int → Nat),
        I (0 : Int) ∧
          ∀ (x : Int),
            I x →
              (x < (↑a.length : Int) →
                  ((0 : Int) ≤ x ∧ x < (↑a.length : Int)) ∧
                    ((0 : Int) ≤ x ∧ x < (↑b.length : Int)) ∧
                      ((ix a x).Params.length ≤ (9223372036854775807 : Nat) ∧ ∀ (x_1 : Param), x_1 ∈ (ix a x).Params → x_1.Values.length ≤ (9223372036854775807 : Nat)) ∧
                        (¬decide (Prp.mk (ix a x).Group (ix a x).Name (ix a x).Params (ix a x).Value = Prp.mk (ix b x).Group (ix b x).Name (ix b x).Params (ix b x).Value) = true → Q false) ∧
                          (¬¬decide (Prp.mk (ix a x).Group (ix a x).Name (ix a x).Params (ix a x).Value = Prp.mk (ix b x).Group (ix b x).Name (ix b x).Params (ix b x).Value) = true →
                            in64 (x + (1 : Int)) ∧ I (x + (1 : Int)) ∧ m (x + (1 : Int)) < m x)) ∧
                (¬x < (↑a.length : Int) → Q true))
set_option maxRecDepth 100000 in
theorem V45_ok {a : List Prp} {b : List Prp} {Q : Bool → Prop} (h : V45 a b Q) : vcFun (E := N39) (inlN an45 2) (an45 45) Tryd.f45 [.sl (N := U) 45 a, .sl (N := U) 45 b] [] [] 0 (resP N39 [.bool] Q) := Eq.mp (show V45 a b Q = vcFun (E := N39) (inlN an45 2) (an45 45) Tryd.f45 [.sl (N := U) 45 a, .sl (N := U) 45 b] [] [] 0 (resP N39 [.bool] Q) by kernel_rfl) h
theorem p45 (a : List Prp) (b : List Prp) (hs : a.length ≤ 100000000) (hk : ∀ x ∈ a, okP x) : V45 a b (fun y0 => y0 = sameP a b) := by
  unfold V45 sameP
  refine ⟨fun h => (decide_eq_false fun e => by subst e; exact h rfl).symm, fun h => ?_⟩
  have hl : (a.length : Int) = b.length := Classical.not_not.1 h
  refine ⟨fun x => 0 ≤ x ∧ x ≤ a.length ∧ ∀ j : Int, 0 ≤ j → j < x → ix a j = ix b j, fun x => ((a.length : Int) - x).toNat, ⟨by omega, by omega, fun j _ _ => by omega⟩, ?_⟩
  rintro x ⟨x0, x1, hx⟩
  refine ⟨fun hi => ⟨⟨x0, hi⟩, ⟨x0, by omega⟩, hk _ (ix_mem x0 hi), fun hb => ?_, fun hb => ⟨⟨by omega, by omega⟩, ⟨by omega, by omega, fun j j0 j1 => ?_⟩, by dsimp only; omega⟩⟩, fun hi => ?_⟩
  · refine (decide_eq_false fun e => hb ?_).symm
    subst e; exact decide_eq_true rfl
  · by_cases e : j = x
    · subst e; exact of_decide_eq_true (Classical.not_not.1 hb)
    · exact hx j j0 (by omega)
  · exact (decide_eq_true (list_ix (by omega) fun j j0 j1 => hx j j0 (by omega))).symm
def c45 (a : List (SV U)) : Option (Q1 U) := match a with | [.sl 45 a, .sl 45 b] => some ⟨[List.length (α := Prp) a ≤ 100000000, ∀ x ∈ (a : List Prp), okP x], [], blB (sameP a b)⟩ | _ => none
set_option maxRecDepth 100000 in
theorem c45_ok (args : List (SV U)) (q : Q1 U) (h : c45 args = some q) (ho : allP q.ob) : LendOK N39 45 args ⟨q.ob, q.hy, q.v, []⟩ := by
  unfold c45 at h
  split at h
  · rename_i a b
    cases h
    exact lend1 N39_ok (inlN_ok N39_ok an45 2) Tryd.func45 (k := .bool) (x := sameP a b) trivial (V45_ok (p45 a b ho.1 ho.2.1)) 0
  · cases h
noncomputable def N45 : Env := N39.addL 45 c45
theorem N45_ok : EnvOK N45 := N39_ok.addL Tryd.call45 c45_ok
end Go.Proofs.YtadgfmmmdhlljaaDoor
end
section
namespace Go.Proofs.YtadgfmmmdhlljaaDoor
open Go Go.Wk Go.Wl Go.Rx Go.Fo Go.Li Go.Co 
noncomputable def c41b (o : List Prop) (a : List Comp) (b : List Comp) : Q1 U := ⟨o, [], blB (sameC a b)⟩
noncomputable def c41n (n : Nat) (a : List (SV U)) : Option (Q1 U) := match a with | [.sl 68 a, .sl 68 b] => some (c41b [List.length (α := Comp) a ≤ 100000000, ∀ x ∈ (a : List Comp), OkC x, csz a < n] a b) | _ => none
noncomputable def E41 (n : Nat) : Env := N45.addL 41 (c41n n)
theorem E41_ok {n : Nat} (h : ∀ args q, c41n n args = some q → allP q.ob → LendOK N45 41 args ⟨q.ob, q.hy, q.v, []⟩) : EnvOK (E41 n) := N45_ok.addL Tryd.call41 h
end Go.Proofs.YtadgfmmmdhlljaaDoor
end
section
namespace Go.Proofs.YtadgfmmmdhlljaaDoor
open Go Go.Wk Go.Wl Go.Rx Go.Fo Go.Li Go.Co 
def an41 : Nat → Ann := fun | 41 => ⟨56, fun | 4 => some ⟨[0, 1], [.slot 5 (.int .i64)]⟩ | _ => none, fun  | _ => none⟩ | _ => ⟨0, fun _ => none, fun _ => none⟩
def V41 (n : Nat) (a : List Comp) (b : List Comp) (Q : Bool → Prop) : Prop :=
((↑a.length : Int) ≠ (↑b.length : Int) → Q false) ∧
  (¬(↑a.length : Int) ≠ (↑b.length : Int) →
    ∃ (I : Int → Prop),
      ∃ (m : Int → Nat),
        I (0 : Int) ∧
          ∀ (x : Int),
            I x →
              (x < (↑a.length : Int) →
                  ((0 : Int) ≤ x ∧ x < (↑a.length : Int)) ∧
                    ((0 : Int) ≤ x ∧ x < (↑b.length : Int)) ∧
                      ((¬(ix a x).Name ≠ (ix b x).Name → (0 : Int) ≤ x) ∧ (¬(ix a x).Name ≠ (ix b x).Name → x < (↑a.length : Int))) ∧
                        ((¬(ix a x).Name ≠ (ix b x).Name → (0 : Int) ≤ x) ∧ (¬(ix a x).Name ≠ (ix b x).Name → x < (↑b.length : Int))) ∧
                          ((¬(ix a x).Name ≠ (ix b x).Name → (ix a x).Props.length ≤ (100000000 : Nat)) ∧ (¬(ix a x).Name ≠ (ix b x).Name → ∀ (x_1 : Prp), x_1 ∈ (ix a x).Props → okP x_1)) ∧
                            ((¬((ix a x).Name ≠ (ix b x).Name ∨ ¬sameP (ix a x).Props (ix b x).Props = true) → (0 : Int) ≤ x) ∧
                                (¬((ix a x).Name ≠ (ix b x).Name ∨ ¬sameP (ix a x).Props (ix b x).Props = true) → x < (↑a.length : Int))) ∧
                              ((¬((ix a x).Name ≠ (ix b x).Name ∨ ¬sameP (ix a x).Props (ix b x).Props = true) → (0 : Int) ≤ x) ∧
                                  (¬((ix a x).Name ≠ (ix b x).Name ∨ ¬sameP (ix a x).Props (ix b x).Props = true) → x < (↑b.length : Int))) ∧
                                ((¬((ix a x).Name ≠ (ix b x).Name ∨ ¬sameP (ix a x).Props (ix b x).Props = true) → (ix a x).Comps.length ≤ (100000000 : Nat)) ∧
                                    (¬((ix a x).Name ≠ (ix b x).Name ∨ ¬sameP (ix a x).Props (ix b x).Props = true) → ∀ (x_1 : Comp), x_1 ∈ (ix a x).Comps → OkC x_1) ∧
                                      (¬((ix a x).Name ≠ (ix b x).Name ∨ ¬sameP (ix a x).Props (ix b x).Props = true) → csz (ix a x).Comps < n)) ∧
                                  (((ix a x).Name ≠ (ix b x).Name ∨ ¬sameP (ix a x).Props (ix b x).Props = true) ∨ ¬sameC (ix a x).Comps (ix b x).Comps = true → Q false) ∧
                                    (¬(((ix a x).Name ≠ (ix b x).Name ∨ ¬sameP (ix a x).Props (ix b x).Props = true) ∨ ¬sameC (ix a x).Comps (ix b x).Comps = true) →
                                      in64 (x + (1 : Int)) ∧ I (x + (1 : Int)) ∧ m (x + (1 : Int)) < m x)) ∧
                (¬x < (↑a.length : Int) → Q true))
set_option maxRecDepth 100000 in
theorem V41_ok {n : Nat} {a : List Comp} {b : List Comp} {Q : Bool → Prop} (h : V41 n a b Q) : vcFun (E := E41 n) (inlN an41 2) (an41 41) Tryd.f41 [.sl (N := U) 68 a, .sl (N := U) 68 b] [] [] 0 (resP (E41 n) [.bool] Q) := Eq.mp (show V41 n a b Q = vcFun (E := E41 n) (inlN an41 2) (an41 41) Tryd.f41 [.sl (N := U) 68 a, .sl (N := U) 68 b] [] [] 0 (resP (E41 n) [.bool] Q) by kernel_rfl) h
theorem p41 (n : Nat) (a : List Comp) (b : List Comp) (hs : a.length ≤ 100000000) (hk : ∀ x ∈ a, OkC x) (hr : csz a < n + 1) : V41 n a b (fun y => y = sameC a b) := by
  unfold V41
  have ne : ¬ a = b → false = sameC a b := fun h => by
    cases e : sameC a b with
    | false => rfl
    | true => exact absurd (sameC_iff.1 e) h
  refine ⟨fun h => ne fun e => by subst e; exact h rfl, fun h => ?_⟩
  have hl : (a.length : Int) = b.length := Classical.not_not.1 h
  refine ⟨fun x => 0 ≤ x ∧ x ≤ a.length ∧ ∀ j : Int, 0 ≤ j → j < x → ix a j = ix b j, fun x => ((a.length : Int) - x).toNat, ⟨by omega, by omega, fun j _ _ => by omega⟩, ?_⟩
  rintro x ⟨x0, x1, hx⟩
  refine ⟨fun hi => ?_, fun hi => ?_⟩
  · have hb : x < (b.length : Int) := by omega
    obtain ⟨k1, k2, k3, k4⟩ := (hk _ (ix_mem x0 hi)).out
    refine ⟨⟨x0, hi⟩, ⟨x0, hb⟩, ⟨fun _ => x0, fun _ => hi⟩, ⟨fun _ => x0, fun _ => hb⟩, ⟨fun _ => k1, fun _ => k2⟩, ⟨fun _ => x0, fun _ => hi⟩, ⟨fun _ => x0, fun _ => hb⟩, ⟨fun _ => k3, fun _ => k4, fun _ => by have := csz_in x0 hi; omega⟩, fun hd => ?_, fun hd => ⟨⟨by omega, by omega⟩, ⟨by omega, by omega, fun j j0 j1 => ?_⟩, by dsimp only; omega⟩⟩
    · refine ne fun e => ?_
      subst e
      rcases hd with (hd | hd) | hd
      · exact hd rfl
      · exact hd (by unfold sameP; exact decide_eq_true rfl)
      · exact hd (sameC_iff.2 rfl)
    · by_cases e : j = x
      · subst e
        have h2 : sameP (ix a j).Props (ix b j).Props = true := Classical.byContradiction fun n => hd (.inl (.inr n))
        unfold sameP at h2
        exact Comp.ext' (Classical.byContradiction fun n => hd (.inl (.inl n))) (of_decide_eq_true h2) (sameC_iff.1 (Classical.byContradiction fun n => hd (.inr n)))
      · exact hx j j0 (by omega)
  · exact (sameC_iff.2 (list_ix (by omega) fun j j0 j1 => hx j j0 (by omega))).symm
set_option maxRecDepth 100000 in
theorem c41n_ok : ∀ (n : Nat) (args : List (SV U)) (q : Q1 U), c41n n args = some q → allP q.ob → LendOK N45 41 args ⟨q.ob, q.hy, q.v, []⟩
  | 0, args, q, h, ho => by
    unfold c41n at h
    split at h
    · rename_i a b
      cases h
      exact absurd ho.2.2.1 (Nat.not_lt_zero _)
    · cases h
  | n + 1, args, q, h, ho => by
    have hE := E41_ok (c41n_ok n)
    unfold c41n at h
    split at h
    · rename_i a b
      cases h
      exact fun D w vs h1 h2 h3 => lend1 hE (inlN_ok hE an41 2) Tryd.func41 (k := .bool) trivial (V41_ok (p41 n a b ho.1 ho.2.1 ho.2.2.1)) 0 D w vs h1 h2 h3
    · cases h
noncomputable def c41 (a : List (SV U)) : Option (Q1 U) := match a with | [.sl 68 a, .sl 68 b] => some (c41b [List.length (α := Comp) a ≤ 100000000, ∀ x ∈ (a : List Comp), OkC x] a b) | _ => none
theorem c41_ok (args : List (SV U)) (q : Q1 U) (h : c41 args = some q) (ho : allP q.ob) : LendOK N45 41 args ⟨q.ob, q.hy, q.v, []⟩ := by
  unfold c41 at h
  split at h
  · rename_i a b
    cases h
    exact fun D w vs h1 h2 h3 => c41n_ok (csz a + 1) [.sl 68 a, .sl 68 b] (c41b [List.length (α := Comp) a ≤ 100000000, ∀ x ∈ (a : List Comp), OkC x, csz a < csz a + 1] a b) rfl ⟨ho.1, ho.2.1, Nat.lt_succ_self _, trivial⟩ D w vs h1 h2 h3
  · cases h
noncomputable def N41 : Env := N45.addL 41 c41
theorem N41_ok : EnvOK N41 := N45_ok.addL Tryd.call41 c41_ok
end Go.Proofs.YtadgfmmmdhlljaaDoor
end
section
namespace Go.Proofs.YtadgfmmmdhlljaaDoor
open Go Go.Wk Go.Wl Go.Rx Go.Fo Go.Li Go.Co 
def an43 : Nat → Ann := fun | 43 => ⟨25, fun | 3 => some ⟨[1, 9, 10], [.slot 5 (.acc 45), .slot 11 (.int .i64)]⟩ | _ => none, fun  | _ => none⟩ | _ => ⟨0, fun _ => none, fun _ => none⟩
def V43 (c : Comp) (n : Str) (Q : List Prp → Prop) : Prop :=
∃ (I : List Prp → Int → Prop),
  ∃ (m : List Prp → Int → Nat),
    I [] (0 : Int) ∧
      ∀ (x : List Prp) (x_1 : Int),
        I x x_1 →
          (x_1 < (↑c.Props.length : Int) →
              (0 : Int) ≤ x_1 ∧
                x_1 < (↑c.Props.length : Int) ∧
                  ((ix c.Props x_1).Name = n →
                      (x.length + [Prp.mk (ix c.Props x_1).Group (ix c.Props x_1).Name (ix c.Props x_1).Params (ix c.Props x_1).Value].length) * (some (72 : Nat)).getD (0 : Nat) ≤
                          (140737488355328 : Nat) ∧
                        in64 (x_1 + (1 : Int)) ∧
                          I (x ++ [Prp.mk (ix c.Props x_1).Group (ix c.Props x_1).Name (ix c.Props x_1).Params (ix c.Props x_1).Value]) (x_1 + (1 : Int)) ∧
                            m (x ++ [Prp.mk (ix c.Props x_1).Group (ix c.Props x_1).Name (ix c.Props x_1).Params (ix c.Props x_1).Value]) (x_1 + (1 : Int)) < m x x_1) ∧
                    (¬(ix c.Props x_1).Name = n → in64 (x_1 + (1 : Int)) ∧ I x (x_1 + (1 : Int)) ∧ m x (x_1 + (1 : Int)) < m x x_1)) ∧
            (¬x_1 < (↑c.Props.length : Int) → Q x)
set_option maxRecDepth 100000 in
theorem V43_ok {c : Comp} {n : Str} {Q : List Prp → Prop} (h : V43 c n Q) : vcFun (E := N41) (inlN an43 2) (an43 43) Tryd.f43 [.agg [.str c.Name, .sl (N := U) 45 c.Props, .sl (N := U) 68 c.Comps], .str n] [] [] 0 (resP N41 [.acc 45] Q) := Eq.mp (show V43 c n Q = vcFun (E := N41) (inlN an43 2) (an43 43) Tryd.f43 [.agg [.str c.Name, .sl (N := U) 45 c.Props, .sl (N := U) 68 c.Comps], .str n] [] [] 0 (resP N41 [.acc 45] Q) by kernel_rfl) h
theorem filt_next {α : Type} [Inhabited α] {l : List α} {p : α → Bool} {i : Int} (h0 : 0 ≤ i) (h1 : i < l.length) : (l.take (i + 1).toNat).filter p = (l.take i.toNat).filter p ++ if p (ix l i) = true then [ix l i] else [] := by
  rw [take_next h0 h1, List.filter_append]
  congr 1
  rw [List.filter_cons, List.filter_nil]
theorem filt_len {α : Type} {l : List α} {p : α → Bool} {i : Int} (h0 : 0 ≤ i) : (((l.take i.toNat).filter p).length : Int) ≤ i := by
  have h1 := List.length_filter_le p (l.take i.toNat)
  have h2 : (l.take i.toNat).length ≤ i.toNat := by rw [List.length_take]; exact Nat.min_le_left _ _
  omega
def allP_ (c : Comp) (n : Str) : List Prp := c.Props.filter fun p => decide (p.Name = n)
theorem p43 (c : Comp) (n : Str) (hs : c.Props.length ≤ 100000000) : V43 c n (fun y0 => y0 = allP_ c n) := by
  unfold V43 allP_
  refine ⟨fun x i => 0 ≤ i ∧ i ≤ c.Props.length ∧ x = (c.Props.take i.toNat).filter (fun p => decide (p.Name = n)), fun _ i => ((c.Props.length : Int) - i).toNat, ⟨by omega, by omega, by simp⟩, ?_⟩
  rintro x i ⟨i0, i1, rfl⟩
  have hl := filt_len (l := c.Props) (p := fun p => decide (p.Name = n)) i0
  refine ⟨fun hi => ⟨i0, hi, fun hn => ⟨by simp only [List.length_cons, List.length_nil, Option.getD_some]; omega, ⟨by omega, by omega⟩, ⟨by omega, by omega, ?_⟩, by dsimp only; omega⟩, fun hn => ⟨⟨by omega, by omega⟩, ⟨by omega, by omega, ?_⟩, by dsimp only; omega⟩⟩, fun hi => ?_⟩
  · rw [filt_next i0 hi, if_pos (by simpa using hn)]
  · rw [filt_next i0 hi, if_neg (by simpa using hn), List.append_nil]
  · rw [List.take_of_length_le (by omega)]
def c43s (c : Comp) (n : Str) (nx : Nat) : CR U := ⟨[List.length (α := Prp) c.Props ≤ 100000000], [], .acc nx, [.ac 45 (allP_ c n)]⟩
def c43 (a : List (SV U)) (nx : Nat) : Option (CR U) := match a with | [.agg [.str c0, .sl 45 c1, .sl 68 c2], .str n] => some (c43s (⟨c0, c1, c2⟩) n nx) | _ => none
set_option maxRecDepth 100000 in
theorem c43_ok (args : List (SV U)) (nx : Nat) (c : CR U) (h : c43 args nx = some c) (hp : args.all pureS = true) (ho : allP c.ob) : ConOK N41.P N41.N N41.T N41.G 43 args nx c := by
  unfold c43 at h
  split at h
  · rename_i c0 c1 c2 n
    cases h
    exact con1 N41_ok (inlN_ok N41_ok an43 2) Tryd.func43 (k := .acc 45) hp (V43_ok (p43 (⟨c0, c1, c2⟩) n ho.1))
  · cases h
noncomputable def N43 : Env := N41.addC 43 c43
theorem N43_ok : EnvOK N43 := N41_ok.addC Tryd.call43 c43_ok
end Go.Proofs.YtadgfmmmdhlljaaDoor
end
section
namespace Go.Proofs.YtadgfmmmdhlljaaDoor
open Go Go.Wk Go.Wl Go.Rx Go.Fo Go.Li Go.Co 
def an47 : Nat → Ann := fun | 47 => ⟨25, fun | 3 => some ⟨[1, 9, 10], [.slot 5 (.acc 68), .slot 11 (.int .i64)]⟩ | _ => none, fun  | _ => none⟩ | _ => ⟨0, fun _ => none, fun _ => none⟩
def V47 (c : Comp) (n : Str) (Q : List Comp → Prop) : Prop :=
∃ (I : List Comp → Int → Prop),
  ∃ (m : List Comp → Int → Nat),
    I [] (0 : Int) ∧
      ∀ (x : List Comp) (x_1 : Int),
        I x x_1 →
          (x_1 < (↑c.Comps.length : Int) →
              (0 : Int) ≤ x_1 ∧
                x_1 < (↑c.Comps.length : Int) ∧
                  ((ix c.Comps x_1).Name = n →
                      (x.length + [Comp.mk (ix c.Comps x_1).Name (ix c.Comps x_1).Props (ix c.Comps x_1).Comps].length) * (some (64 : Nat)).getD (0 : Nat) ≤ (140737488355328 : Nat) ∧
                        in64 (x_1 + (1 : Int)) ∧
                          I (x ++ [Comp.mk (ix c.Comps x_1).Name (ix c.Comps x_1).Props (ix c.Comps x_1).Comps]) (x_1 + (1 : Int)) ∧
                            m (x ++ [Comp.mk (ix c.Comps x_1).Name (ix c.Comps x_1).Props (ix c.Comps x_1).Comps]) (x_1 + (1 : Int)) < m x x_1) ∧
                    (¬(ix c.Comps x_1).Name = n → in64 (x_1 + (1 : Int)) ∧ I x (x_1 + (1 : Int)) ∧ m x (x_1 + (1 : Int)) < m x x_1)) ∧
            (¬x_1 < (↑c.Comps.length : Int) → Q x)
set_option maxRecDepth 100000 in
theorem V47_ok {c : Comp} {n : Str} {Q : List Comp → Prop} (h : V47 c n Q) : vcFun (E := N43) (inlN an47 2) (an47 47) Tryd.f47 [.agg [.str c.Name, .sl (N := U) 45 c.Props, .sl (N := U) 68 c.Comps], .str n] [] [] 0 (resP N43 [.acc 68] Q) := Eq.mp (show V47 c n Q = vcFun (E := N43) (inlN an47 2) (an47 47) Tryd.f47 [.agg [.str c.Name, .sl (N := U) 45 c.Props, .sl (N := U) 68 c.Comps], .str n] [] [] 0 (resP N43 [.acc 68] Q) by kernel_rfl) h
def allC_ (c : Comp) (n : Str) : List Comp := c.Comps.filter fun p => decide (p.Name = n)
theorem p47 (c : Comp) (n : Str) (hs : c.Comps.length ≤ 100000000) : V47 c n (fun y0 => y0 = allC_ c n) := by
  unfold V47 allC_
  refine ⟨fun x i => 0 ≤ i ∧ i ≤ c.Comps.length ∧ x = (c.Comps.take i.toNat).filter (fun p => decide (p.Name = n)), fun _ i => ((c.Comps.length : Int) - i).toNat, ⟨by omega, by omega, by simp⟩, ?_⟩
  rintro x i ⟨i0, i1, rfl⟩
  have hl := filt_len (l := c.Comps) (p := fun p => decide (p.Name = n)) i0
  refine ⟨fun hi => ⟨i0, hi, fun hn => ⟨by simp only [List.length_cons, List.length_nil, Option.getD_some]; omega, ⟨by omega, by omega⟩, ⟨by omega, by omega, ?_⟩, by dsimp only; omega⟩, fun hn => ⟨⟨by omega, by omega⟩, ⟨by omega, by omega, ?_⟩, by dsimp only; omega⟩⟩, fun hi => ?_⟩
  · rw [filt_next i0 hi, if_pos (by simpa using hn), Comp.eta]
  · rw [filt_next i0 hi, if_neg (by simpa using hn), List.append_nil]
  · rw [List.take_of_length_le (by omega)]
def c47s (c : Comp) (n : Str) (nx : Nat) : CR U := ⟨[List.length (α := Comp) c.Comps ≤ 100000000], [], .acc nx, [.ac 68 (allC_ c n)]⟩
def c47 (a : List (SV U)) (nx : Nat) : Option (CR U) := match a with | [.agg [.str c0, .sl 45 c1, .sl 68 c2], .str n] => some (c47s (⟨c0, c1, c2⟩) n nx) | _ => none
set_option maxRecDepth 100000 in
theorem c47_ok (args : List (SV U)) (nx : Nat) (c : CR U) (h : c47 args nx = some c) (hp : args.all pureS = true) (ho : allP c.ob) : ConOK N43.P N43.N N43.T N43.G 47 args nx c := by
  unfold c47 at h
  split at h
  · rename_i c0 c1 c2 n
    cases h
    exact con1 N43_ok (inlN_ok N43_ok an47 2) Tryd.func47 (k := .acc 68) hp (V47_ok (p47 (⟨c0, c1, c2⟩) n ho.1))
  · cases h
noncomputable def N47 : Env := N43.addC 47 c47
theorem N47_ok : EnvOK N47 := N43_ok.addC Tryd.call47 c47_ok
end Go.Proofs.YtadgfmmmdhlljaaDoor
end
section
namespace Go.Proofs.YtadgfmmmdhlljaaDoor
open Go Go.Wk Go.Wl Go.Rx Go.Fo Go.Li Go.Co 
def an46 : Nat → Ann := fun | 46 => ⟨31, fun | 3 => some ⟨[1, 2], [.slot 5 (.acc 45), .slot 6 (.int .i64)]⟩ | _ => none, fun  | _ => none⟩ | _ => ⟨0, fun _ => none, fun _ => none⟩
def V46 (c : Comp) (n : Str) (Q : List Prp → Prop) : Prop :=
∃ (I : List Prp → Int → Prop),
  ∃ (m : List Prp → Int → Nat),
    I [] (0 : Int) ∧
      ∀ (x : List Prp) (x_1 : Int),
        I x x_1 →
          (x_1 < (↑c.Props.length : Int) →
              (0 : Int) ≤ x_1 ∧
                x_1 < (↑c.Props.length : Int) ∧
                  ((ix c.Props x_1).Name = n →
                      (0 : Int) ≤ x_1 ∧
                        x_1 < (↑c.Props.length : Int) ∧
                          (x.length + [Prp.mk (ix c.Props x_1).Group (ix c.Props x_1).Name (ix c.Props x_1).Params (ix c.Props x_1).Value].length) * (some (72 : Nat)).getD (0 : Nat) ≤
                              (140737488355328 : Nat) ∧
                            in64 (x_1 + (1 : Int)) ∧
                              I (x ++ [Prp.mk (ix c.Props x_1).Group (ix c.Props x_1).Name (ix c.Props x_1).Params (ix c.Props x_1).Value]) (x_1 + (1 : Int)) ∧
                                m (x ++ [Prp.mk (ix c.Props x_1).Group (ix c.Props x_1).Name (ix c.Props x_1).Params (ix c.Props x_1).Value]) (x_1 + (1 : Int)) < m x x_1) ∧
                    (¬(ix c.Props x_1).Name = n → in64 (x_1 + (1 : Int)) ∧ I x (x_1 + (1 : Int)) ∧ m x (x_1 + (1 : Int)) < m x x_1)) ∧
            (¬x_1 < (↑c.Props.length : Int) → Q x)
set_option maxRecDepth 100000 in
theorem V46_ok {c : Comp} {n : Str} {Q : List Prp → Prop} (h : V46 c n Q) : vcFun (E := N47) (inlN an46 2) (an46 46) Tryd.f46 [.agg [.str c.Name, .sl (N := U) 45 c.Props, .sl (N := U) 68 c.Comps], .str n] [] [] 0 (resP N47 [.acc 45] Q) := Eq.mp (show V46 c n Q = vcFun (E := N47) (inlN an46 2) (an46 46) Tryd.f46 [.agg [.str c.Name, .sl (N := U) 45 c.Props, .sl (N := U) 68 c.Comps], .str n] [] [] 0 (resP N47 [.acc 45] Q) by kernel_rfl) h
theorem p46 (c : Comp) (n : Str) (hs : c.Props.length ≤ 100000000) : V46 c n (fun y0 => y0 = allP_ c n) := by
  unfold V46 allP_
  refine ⟨fun x i => 0 ≤ i ∧ i ≤ c.Props.length ∧ x = (c.Props.take i.toNat).filter (fun p => decide (p.Name = n)), fun _ i => ((c.Props.length : Int) - i).toNat, ⟨by omega, by omega, by simp⟩, ?_⟩
  rintro x i ⟨i0, i1, rfl⟩
  have hl := filt_len (l := c.Props) (p := fun p => decide (p.Name = n)) i0
  refine ⟨fun hi => ⟨i0, hi, fun hn => ⟨i0, hi, by simp only [List.length_cons, List.length_nil, Option.getD_some]; omega, ⟨by omega, by omega⟩, ⟨by omega, by omega, ?_⟩, by dsimp only; omega⟩, fun hn => ⟨⟨by omega, by omega⟩, ⟨by omega, by omega, ?_⟩, by dsimp only; omega⟩⟩, fun hi => ?_⟩
  · rw [filt_next i0 hi, if_pos (by simpa using hn)]
  · rw [filt_next i0 hi, if_neg (by simpa using hn), List.append_nil]
  · rw [List.take_of_length_le (by omega)]
def c46s (c : Comp) (n : Str) (nx : Nat) : CR U := ⟨[List.length (α := Prp) c.Props ≤ 100000000], [], .acc nx, [.ac 45 (allP_ c n)]⟩
def c46 (a : List (SV U)) (nx : Nat) : Option (CR U) := match a with | [.agg [.str c0, .sl 45 c1, .sl 68 c2], .str n] => some (c46s (⟨c0, c1, c2⟩) n nx) | _ => none
set_option maxRecDepth 100000 in
theorem c46_ok (args : List (SV U)) (nx : Nat) (c : CR U) (h : c46 args nx = some c) (hp : args.all pureS = true) (ho : allP c.ob) : ConOK N47.P N47.N N47.T N47.G 46 args nx c := by
  unfold c46 at h
  split at h
  · rename_i c0 c1 c2 n
    cases h
    exact con1 N47_ok (inlN_ok N47_ok an46 2) Tryd.func46 (k := .acc 45) hp (V46_ok (p46 (⟨c0, c1, c2⟩) n ho.1))
  · cases h
noncomputable def N46 : Env := N47.addC 46 c46
theorem N46_ok : EnvOK N46 := N47_ok.addC Tryd.call46 c46_ok
end Go.Proofs.YtadgfmmmdhlljaaDoor
end
section
namespace Go.Proofs.YtadgfmmmdhlljaaDoor
open Go Go.Wk Go.Wl Go.Rx Go.Fo Go.Li Go.Co 
def an48 : Nat → Ann := fun | 48 => ⟨31, fun | 3 => some ⟨[1, 2], [.slot 5 (.acc 68), .slot 6 (.int .i64)]⟩ | _ => none, fun  | _ => none⟩ | _ => ⟨0, fun _ => none, fun _ => none⟩
def V48 (c : Comp) (n : Str) (Q : List Comp → Prop) : Prop :=
∃ (I : List Comp → Int → Prop),
  ∃ (m : List Comp → Int → Nat),
    I [] (0 : Int) ∧
      ∀ (x : List Comp) (x_1 : Int),
        I x x_1 →
          (x_1 < (↑c.Comps.length : Int) →
              (0 : Int) ≤ x_1 ∧
                x_1 < (↑c.Comps.length : Int) ∧
                  ((ix c.Comps x_1).Name = n →
                      (0 : Int) ≤ x_1 ∧
                        x_1 < (↑c.Comps.length : Int) ∧
                          (x.length + [Comp.mk (ix c.Comps x_1).Name (ix c.Comps x_1).Props (ix c.Comps x_1).Comps].length) * (some (64 : Nat)).getD (0 : Nat) ≤ (140737488355328 : Nat) ∧
                            in64 (x_1 + (1 : Int)) ∧
                              I (x ++ [Comp.mk (ix c.Comps x_1).Name (ix c.Comps x_1).Props (ix c.Comps x_1).Comps]) (x_1 + (1 : Int)) ∧
                                m (x ++ [Comp.mk (ix c.Comps x_1).Name (ix c.Comps x_1).Props (ix c.Comps x_1).Comps]) (x_1 + (1 : Int)) < m x x_1) ∧
                    (¬(ix c.Comps x_1).Name = n → in64 (x_1 + (1 : Int)) ∧ I x (x_1 + (1 : Int)) ∧ m x (x_1 + (1 : Int)) < m x x_1)) ∧
            (¬x_1 < (↑c.Comps.length : Int) → Q x)
set_option maxRecDepth 100000 in
theorem V48_ok {c : Comp} {n : Str} {Q : List Comp → Prop} (h : V48 c n Q) : vcFun (E := N46) (inlN an48 2) (an48 48) Tryd.f48 [.agg [.str c.Name, .sl (N := U) 45 c.Props, .sl (N := U) 68 c.Comps], .str n] [] [] 0 (resP N46 [.acc 68] Q) := Eq.mp (show V48 c n Q = vcFun (E := N46) (inlN an48 2) (an48 48) Tryd.f48 [.agg [.str c.Name, .sl (N := U) 45 c.Props, .sl (N := U) 68 c.Comps], .str n] [] [] 0 (resP N46 [.acc 68] Q) by kernel_rfl) h
theorem p48 (c : Comp) (n : Str) (hs : c.Comps.length ≤ 100000000) : V48 c n (fun y0 => y0 = allC_ c n) := by
  unfold V48 allC_
  refine ⟨fun x i => 0 ≤ i ∧ i ≤ c.Comps.length ∧ x = (c.Comps.take i.toNat).filter (fun p => decide (p.Name = n)), fun _ i => ((c.Comps.length : Int) - i).toNat, ⟨by omega, by omega, by simp⟩, ?_⟩
  rintro x i ⟨i0, i1, rfl⟩
  have hl := filt_len (l := c.Comps) (p := fun p => decide (p.Name = n)) i0
  refine ⟨fun hi => ⟨i0, hi, fun hn => ⟨i0, hi, by simp only [List.length_cons, List.length_nil, Option.getD_some]; omega, ⟨by omega, by omega⟩, ⟨by omega, by omega, ?_⟩, by dsimp only; omega⟩, fun hn => ⟨⟨by omega, by omega⟩, ⟨by omega, by omega, ?_⟩, by dsimp only; omega⟩⟩, fun hi => ?_⟩
  · rw [filt_next i0 hi, if_pos (by simpa using hn), Comp.eta]
  · rw [filt_next i0 hi, if_neg (by simpa using hn), List.append_nil]
  · rw [List.take_of_length_le (by omega)]
def c48s (c : Comp) (n : Str) (nx : Nat) : CR U := ⟨[List.length (α := Comp) c.Comps ≤ 100000000], [], .acc nx, [.ac 68 (allC_ c n)]⟩
def c48 (a : List (SV U)) (nx : Nat) : Option (CR U) := match a with | [.agg [.str c0, .sl 45 c1, .sl 68 c2], .str n] => some (c48s (⟨c0, c1, c2⟩) n nx) | _ => none
set_option maxRecDepth 100000 in
theorem c48_ok (args : List (SV U)) (nx : Nat) (c : CR U) (h : c48 args nx = some c) (hp : args.all pureS = true) (ho : allP c.ob) : ConOK N46.P N46.N N46.T N46.G 48 args nx c := by
  unfold c48 at h
  split at h
  · rename_i c0 c1 c2 n
    cases h
    exact con1 N46_ok (inlN_ok N46_ok an48 2) Tryd.func48 (k := .acc 68) hp (V48_ok (p48 (⟨c0, c1, c2⟩) n ho.1))
  · cases h
noncomputable def N48 : Env := N46.addC 48 c48
theorem N48_ok : EnvOK N48 := N46_ok.addC Tryd.call48 c48_ok
end Go.Proofs.YtadgfmmmdhlljaaDoor
end
section
namespace Go.Proofs.YtadgfmmmdhlljaaDoor
open Go Go.Wk Go.Wl Go.Rx Go.Fo Go.Li Go.Co 
def an44 : Nat → Ann := fun | 44 => ⟨17, fun _ => none, fun  | _ => none⟩ | _ => ⟨0, fun _ => none, fun _ => none⟩
def V44 (c : Comp) (n : Str) (Q : Prp → Bool → Prop) : Prop :=
(Comp.mk c.Name c.Props c.Comps).Props.length ≤ (100000000 : Nat) ∧
  ((↑(allP_ (Comp.mk c.Name c.Props c.Comps) n).length : Int) = (0 : Int) → Q (Prp.mk [] [] [] []) false) ∧
    (¬(↑(allP_ (Comp.mk c.Name c.Props c.Comps) n).length : Int) = (0 : Int) →
      (0 : Int) ≤ (0 : Int) ∧
        (0 : Int) < (↑(allP_ (Comp.mk c.Name c.Props c.Comps) n).length : Int) ∧
          Q
            (Prp.mk (ix (allP_ (Comp.mk c.Name c.Props c.Comps) n) (0 : Int)).Group (ix (allP_ (Comp.mk c.Name c.Props c.Comps) n) (0 : Int)).Name
              (ix (allP_ (Comp.mk c.Name c.Props c.Comps) n) (0 : Int)).Params (ix (allP_ (Comp.mk c.Name c.Props c.Comps) n) (0 : Int)).Value)
            true)
def W44 (c : Comp) (n : Str) (Q : Prp → Bool → Prop) : Prop := vcFun (E := N48) (inlN an44 2) (an44 44) Tryd.f44 [.agg [.str c.Name, .sl (N := U) 45 c.Props, .sl (N := U) 68 c.Comps], .str n] [] [] 0 (resZ N48 2 [.val 45, .bool] Q)
attribute [local irreducible] W44 HZ
set_option maxRecDepth 100000 in
theorem V44_eq {c : Comp} {n : Str} {Q : Prp → Bool → Prop} : V44 c n Q = W44 c n Q := by kernel_rfl
set_option maxRecDepth 100000 in
theorem V44_ok {c : Comp} {n : Str} {Q : Prp → Bool → Prop} (h : V44 c n Q) : W44 c n Q := by rw [← V44_eq]; exact h
def oneP (c : Comp) (n : Str) : Prp × Bool := match allP_ c n with | [] => (prp0, false) | p :: _ => (p, true)
theorem p44 (c : Comp) (n : Str) (hs : c.Props.length ≤ 100000000) : V44 c n (fun y0 y1 => y0 = (oneP c n).1 ∧ y1 = (oneP c n).2) := by
  unfold V44
  rw [Comp.eta]
  unfold oneP
  refine ⟨hs, fun h => ?_, fun h => ?_⟩
  · have e : allP_ c n = [] := List.eq_nil_of_length_eq_zero (by omega)
    rw [e]; exact ⟨rfl, rfl⟩
  · cases hl : allP_ c n with
    | nil => rw [hl] at h; exact absurd rfl h
    | cons p l => exact ⟨by omega, by simp only [List.length_cons]; omega, rfl, rfl⟩
set_option maxRecDepth 100000 in
theorem Y44_eq {c : Comp} {n : Str} : W44 c n (fun y0 y1 => y0 = (oneP c n).1 ∧ y1 = (oneP c n).2) = HZ N48 (inlN an44 2) (an44 44) Tryd.f44 [.agg [.str c.Name, .sl (N := U) 45 c.Props, .sl (N := U) 68 c.Comps], .str n] 2 [.val 45, .bool] ((oneP c n).1, (oneP c n).2, ()) := by kernel_rfl
theorem Y44_ok (c : Comp) (n : Str) (hs : c.Props.length ≤ 100000000) : HZ N48 (inlN an44 2) (an44 44) Tryd.f44 [.agg [.str c.Name, .sl (N := U) 45 c.Props, .sl (N := U) 68 c.Comps], .str n] 2 [.val 45, .bool] ((oneP c n).1, (oneP c n).2, ()) := by
  rw [← Y44_eq]
  exact V44_ok (p44 c n hs)
def c44r (c : Comp) (n : Str) : CR U := ⟨[List.length (α := Prp) c.Props ≤ 100000000], [], .tup [.agg [.str ((oneP c n).1).Group, .str ((oneP c n).1).Name, .sl 59 ((oneP c n).1).Params, .str ((oneP c n).1).Value], blB ((oneP c n).2)], []⟩
set_option maxRecDepth 100000 in
theorem c44r_eq (c : Comp) (n : Str) : (⟨[List.length (α := Prp) c.Props ≤ 100000000], [], tellA 2 (tell N48 [.val 45, .bool] ((oneP c n).1, (oneP c n).2, ())), []⟩ : CR N48.N) = c44r c n := by kernel_rfl
set_option maxRecDepth 100000 in
theorem c44r_ok (c : Comp) (n : Str) (hs : c.Props.length ≤ 100000000) (nx : Nat) (hp : ([.agg [.str c.Name, .sl (N := U) 45 c.Props, .sl (N := U) 68 c.Comps], .str n] : List (SV U)).all pureS = true) : ConOK N48.P N48.N N48.T N48.G 44 [.agg [.str c.Name, .sl (N := U) 45 c.Props, .sl (N := U) 68 c.Comps], .str n] nx (c44r c n) := by
  rw [← c44r_eq]
  exact conH N48_ok (inlN_ok N48_ok an44 2) Tryd.func44 rfl hp (Y44_ok c n hs)
def c44 (a : List (SV U)) (nx : Nat) : Option (CR U) := match a with | [.agg [.str c0, .sl 45 c1, .sl 68 c2], .str n] => some (c44r (⟨c0, c1, c2⟩) n) | _ => none
theorem c44_ok (args : List (SV U)) (nx : Nat) (c : CR U) (h : c44 args nx = some c) (hp : args.all pureS = true) (ho : allP c.ob) : ConOK N48.P N48.N N48.T N48.G 44 args nx c := by
  unfold c44 at h
  split at h
  · rename_i c0 c1 c2 n
    cases h
    exact c44r_ok (⟨c0, c1, c2⟩) n ho.1 nx hp
  · cases h
noncomputable def N44 : Env := N48.addC 44 c44
theorem N44_ok : EnvOK N44 := N48_ok.addC Tryd.call44 c44_ok
end Go.Proofs.YtadgfmmmdhlljaaDoor
end
section
namespace Go.Co
open Go Go.Wk Go.Wl Go.Rx Go.Fo Go.Li
section
variable (rows : List CRow) (e a : Int) (R : Except (Int × Int) (List Comp))
def InvR (x : Int) (out : List Comp) (st : List Frm) : Prop :=
  (0 ≤ x ∧ x ≤ rows.length ∧ (out.length : Int) ≤ x ∧ ∀ f ∈ st, (f.1.Props.length : Int) ≤ x ∧ (f.1.Comps.length : Int) ≤ x) ∧ R = goR e a (rows.drop x.toNat) st out
end
section
variable {rows : List CRow} {e a : Int} {R : Except (Int × Int) (List Comp)} {x : Int} {out : List Comp} {st : List Frm} {c d : Comp} {b b' : Int}
theorem InvR.next (h : InvR rows e a R x out st) (hx : x < rows.length) : R = goR e a (ix rows x :: rows.drop (x + 1).toNat) st out := by rw [← drop_ix h.1.1 hx]; exact h.2
theorem InvR.err (h : InvR rows e a R x out st) (hx : x < rows.length) {n : Int} (hs : stepC st out (ix rows x).At (ix rows x).P = .error (n, (ix rows x).At)) : [] = (cR R).1 ∧ n = (cR R).2.1 ∧ (ix rows x).At = (cR R).2.2 := by
  rw [h.next hx, goR, hs]
  exact ⟨rfl, rfl, rfl⟩
theorem InvR.ok (h : InvR rows e a R x out st) (hx : x < rows.length) {st' : List Frm} {out' : List Comp} (hs : stepC st out (ix rows x).At (ix rows x).P = .ok (st', out')) (h1 : (out'.length : Int) ≤ x + 1) (h2 : ∀ f ∈ st', (f.1.Props.length : Int) ≤ x + 1 ∧ (f.1.Comps.length : Int) ≤ x + 1) : InvR rows e a R (x + 1) out' st' := by
  have h0 := h.1.1
  refine ⟨⟨by omega, by omega, h1, h2⟩, ?_⟩
  rw [h.next hx, goR, hs]
theorem InvR.fr (h : InvR rows e a R x out st) : ∀ f ∈ st, (f.1.Props.length : Int) ≤ x + 1 ∧ (f.1.Comps.length : Int) ≤ x + 1 := fun f hf => by
  have := h.1.2.2.2 f hf; omega
theorem InvR.begE (h : InvR rows e a R x out st) (hx : x < rows.length) (hB : (ix rows x).P.Name = sBEGIN) (hn : nameP (ix rows x).P = []) : [] = (cR R).1 ∧ 11 = (cR R).2.1 ∧ (ix rows x).At = (cR R).2.2 :=
  h.err hx (by unfold stepC; rw [if_pos hB, if_pos hn])
theorem InvR.begD (h : InvR rows e a R x out st) (hx : x < rows.length) (hB : (ix rows x).P.Name = sBEGIN) (hn : ¬ nameP (ix rows x).P = []) (hl : 6 ≤ st.length) : [] = (cR R).1 ∧ 12 = (cR R).2.1 ∧ (ix rows x).At = (cR R).2.2 :=
  h.err hx (by unfold stepC; rw [if_pos hB, if_neg hn, if_pos (by omega)])
theorem InvR.beg (h : InvR rows e a R x out st) (hx : x < rows.length) (hB : (ix rows x).P.Name = sBEGIN) (hn : ¬ nameP (ix rows x).P = []) (hl : st.length < 6) : InvR rows e a R (x + 1) out ((.mk (nameP (ix rows x).P) [] [], (ix rows x).At) :: st) := by
  have h0 := h.1.1; have h1 := h.1.2.2.1
  refine h.ok hx (by unfold stepC; rw [if_pos hB, if_neg hn, if_neg (by omega)]) (by omega) fun f hf => ?_
  rcases List.mem_cons.1 hf with rfl | hf
  · show ((([] : List Prp).length : Int) ≤ x + 1) ∧ ((([] : List Comp).length : Int) ≤ x + 1)
    simp only [List.length_nil]; omega
  · exact h.fr f hf
theorem InvR.none (h : InvR rows e a R x out []) (hx : x < rows.length) (hB : ¬ (ix rows x).P.Name = sBEGIN) : [] = (cR R).1 ∧ 11 = (cR R).2.1 ∧ (ix rows x).At = (cR R).2.2 :=
  h.err hx (by unfold stepC; rw [if_neg hB])
theorem InvR.endE (h : InvR rows e a R x out ((c, b) :: st)) (hx : x < rows.length) (hB : ¬ (ix rows x).P.Name = sBEGIN) (hE : (ix rows x).P.Name = sEND ∧ (nameP (ix rows x).P = [] ∨ nameP (ix rows x).P ≠ c.Name)) : [] = (cR R).1 ∧ 11 = (cR R).2.1 ∧ (ix rows x).At = (cR R).2.2 :=
  h.err hx (by unfold stepC; rw [if_neg hB]; simp only; rw [if_pos hE.1, if_pos hE.2])
theorem InvR.prop (h : InvR rows e a R x out ((c, b) :: st)) (hx : x < rows.length) (hB : ¬ (ix rows x).P.Name = sBEGIN) (hE : ¬ (ix rows x).P.Name = sEND) : InvR rows e a R (x + 1) out ((.mk c.Name (c.Props ++ [(ix rows x).P]) c.Comps, b) :: st) := by
  have h0 := h.1.1; have h1 := h.1.2.2.1; have h2 := h.1.2.2.2 _ (List.mem_cons_self ..)
  refine h.ok hx (by unfold stepC; rw [if_neg hB]; simp only; rw [if_neg hE]; rfl) (by omega) fun f hf => ?_
  rcases List.mem_cons.1 hf with rfl | hf
  · show (((c.Props ++ [_]).length : Int) ≤ x + 1) ∧ ((c.Comps.length : Int) ≤ x + 1)
    simp only [List.length_append, List.length_cons, List.length_nil] at h2 ⊢; omega
  · exact h.fr f (List.mem_cons_of_mem _ hf)
theorem InvR.pap1 (h : InvR rows e a R x out [(c, b)]) (hx : x < rows.length) (hB : ¬ (ix rows x).P.Name = sBEGIN) (hE : (ix rows x).P.Name = sEND) (hn : ¬ (nameP (ix rows x).P = [] ∨ nameP (ix rows x).P ≠ c.Name)) : InvR rows e a R (x + 1) (out ++ [c]) [] := by
  have h0 := h.1.1; have h1 := h.1.2.2.1
  exact h.ok hx (by unfold stepC; rw [if_neg hB]; simp only; rw [if_pos hE, if_neg hn]) (by simp only [List.length_append, List.length_cons, List.length_nil]; omega) fun f hf => (by cases hf)
theorem InvR.pap (h : InvR rows e a R x out ((c, b) :: (d, b') :: st)) (hx : x < rows.length) (hB : ¬ (ix rows x).P.Name = sBEGIN) (hE : (ix rows x).P.Name = sEND) (hn : ¬ (nameP (ix rows x).P = [] ∨ nameP (ix rows x).P ≠ c.Name)) : InvR rows e a R (x + 1) out ((.mk d.Name d.Props (d.Comps ++ [c]), b') :: st) := by
  have h0 := h.1.1; have h1 := h.1.2.2.1; have h2 := h.1.2.2.2 _ (List.mem_cons_of_mem _ (List.mem_cons_self ..))
  refine h.ok hx (by unfold stepC; rw [if_neg hB]; simp only; rw [if_pos hE, if_neg hn]; rfl) (by omega) fun f hf => ?_
  rcases List.mem_cons.1 hf with rfl | hf
  · show ((d.Props.length : Int) ≤ x + 1) ∧ (((d.Comps ++ [c]).length : Int) ≤ x + 1)
    simp only [List.length_append, List.length_cons, List.length_nil] at h2 ⊢; omega
  · exact h.fr f (List.mem_cons_of_mem _ (List.mem_cons_of_mem _ hf))
theorem InvR.pop1 (h : InvR rows e a R x out [(c, b)]) (hx : x < rows.length) (hB : ¬ (ix rows x).P.Name = sBEGIN) (hE : (ix rows x).P.Name = sEND) (hn : ¬ (nameP (ix rows x).P = [] ∨ nameP (ix rows x).P ≠ c.Name)) : InvR rows e a R (x + 1) ((out ++ [Comp.mk [] [] []]).set (out.length : Int).toNat c) [] := by
  rw [set_last]; exact h.pap1 hx hB hE hn
theorem InvR.pop (h : InvR rows e a R x out ((c, b) :: (d, b') :: st)) (hx : x < rows.length) (hB : ¬ (ix rows x).P.Name = sBEGIN) (hE : (ix rows x).P.Name = sEND) (hn : ¬ (nameP (ix rows x).P = [] ∨ nameP (ix rows x).P ≠ c.Name)) : InvR rows e a R (x + 1) out ((.mk d.Name d.Props ((d.Comps ++ [Comp.mk [] [] []]).set (d.Comps.length : Int).toNat c), b') :: st) := by
  rw [set_last]; exact h.pap hx hB hE hn
theorem InvR.fin0 (h : InvR rows e a R x out []) (hx : ¬ x < rows.length) (he : ¬ e ≠ 0) : out = (cR R).1 ∧ 0 = (cR R).2.1 ∧ 0 = (cR R).2.2 := by
  have h0 := h.1
  have k := h.2
  rw [List.drop_eq_nil_of_le (by omega), goR] at k
  unfold finR at k
  rw [if_neg he] at k
  rw [k]; exact ⟨rfl, rfl, rfl⟩
theorem InvR.fin (h : InvR rows e a R x out ((c, b) :: st)) (hx : ¬ x < rows.length) (he : ¬ e ≠ 0) : [] = (cR R).1 ∧ 11 = (cR R).2.1 ∧ b = (cR R).2.2 := by
  have h0 := h.1
  have k := h.2
  rw [List.drop_eq_nil_of_le (by omega), goR] at k
  unfold finR at k
  rw [if_neg he] at k
  rw [k]; exact ⟨rfl, rfl, rfl⟩
theorem InvR.less (h : InvR rows e a R x out st) (hx : x < rows.length) : ((rows.length : Int) - (x + 1)).toNat < ((rows.length : Int) - x).toNat := by
  have := h.1.1; omega
end
def capN (n : Nat) : Int := min (n : Int) 100000
def wProps (few : Prp → Bool) : List Prp → Int → Option Int
  | [], n => some n
  | p :: l, n => if few p = true then wProps few l (n + 1 + p.Value.length + p.Name.length + 10 * p.Params.length) else none
def wLoop (few : Prp → Bool) (f : List Comp → Int) : List Comp → Int → Int
  | [], n => min n 100000
  | c :: l, n => if 60 < (c.Props.length : Int) then 100000 else match wProps few c.Props (n + capN c.Name.length) with
    | none => 100000
    | some m => wLoop few f l (if m < 100000 then m + f c.Comps else m)
def wgt (few : Prp → Bool) : Nat → List Comp → Int
  | 0, _ => 100000
  | r + 1, l => if 60 < (l.length : Int) then 100000 else wLoop few (wgt few r) l l.length
theorem wProps_ge {few : Prp → Bool} : ∀ (l : List Prp) (n m : Int), wProps few l n = some m → n ≤ m ∧ ∀ p ∈ l, few p = true
  | [], n, m, h => by cases h; exact ⟨Int.le_refl _, fun p hp => by cases hp⟩
  | p :: l, n, m, h => by
    unfold wProps at h
    split at h
    · rename_i hf
      obtain ⟨h1, h2⟩ := wProps_ge l _ m h
      refine ⟨by omega, fun q hq => ?_⟩
      rcases List.mem_cons.1 hq with rfl | hq
      · exact hf
      · exact h2 q hq
    · cases h
theorem wLoop_ge {few : Prp → Bool} {f : List Comp → Int} (hf : ∀ l, 0 ≤ f l ∧ f l ≤ 100000) : ∀ (l : List Comp) (n : Int), 0 ≤ n → 0 ≤ wLoop few f l n ∧ wLoop few f l n ≤ 100000 ∧ (wLoop few f l n < 100000 → n ≤ wLoop few f l n ∧ ∀ c ∈ l, c.Props.length ≤ 60 ∧ (∀ p ∈ c.Props, few p = true) ∧ capN c.Name.length ≤ wLoop few f l n ∧ f c.Comps ≤ wLoop few f l n)
  | [], n, h => by
    unfold wLoop
    exact ⟨by omega, by omega, fun hl => ⟨by omega, fun c hc => by cases hc⟩⟩
  | c :: l, n, h => by
    unfold wLoop
    split
    · exact ⟨by omega, by omega, fun hl => absurd hl (by omega)⟩
    · rename_i h60
      split
      · exact ⟨by omega, by omega, fun hl => absurd hl (by omega)⟩
      · rename_i m hm
        obtain ⟨h1, h2⟩ := wProps_ge _ _ _ hm
        have hc0 : 0 ≤ capN c.Name.length := by unfold capN; omega
        have hfc := hf c.Comps
        have ih := wLoop_ge (few := few) hf l (if m < 100000 then m + f c.Comps else m) (by split <;> omega)
        refine ⟨ih.1, ih.2.1, fun hl => ?_⟩
        obtain ⟨h3, h4⟩ := ih.2.2 hl
        have hm1 : m < 100000 := by
          rcases Int.lt_or_le m 100000 with h | h
          · exact h
          · rw [if_neg (by omega)] at h3 hl; omega
        rw [if_pos hm1] at h3 h4 hl ⊢
        refine ⟨by omega, fun d hd => ?_⟩
        rcases List.mem_cons.1 hd with rfl | hd
        · exact ⟨by omega, h2, by omega, by omega⟩
        · exact h4 d hd
theorem wgt_ge (few : Prp → Bool) : ∀ (r : Nat) (l : List Comp), 0 ≤ wgt few r l ∧ wgt few r l ≤ 100000
  | 0, l => by unfold wgt; omega
  | r + 1, l => by
    unfold wgt
    split
    · omega
    · have := wLoop_ge (few := few) (f := wgt few r) (wgt_ge few r) l l.length (by omega)
      exact ⟨this.1, this.2.1⟩
inductive FewC (few : Prp → Bool) : Comp → Prop
  | mk {n : Str} {p : List Prp} {c : List Comp} : n.length ≤ 8000 → p.length ≤ 60 → (∀ x ∈ p, few x = true) → c.length ≤ 60 → (∀ x ∈ c, FewC few x) → FewC few (.mk n p c)
theorem FewC.out {few : Prp → Bool} {c : Comp} (h : FewC few c) : c.Name.length ≤ 8000 ∧ c.Props.length ≤ 60 ∧ (∀ x ∈ c.Props, few x = true) ∧ c.Comps.length ≤ 60 ∧ ∀ x ∈ c.Comps, FewC few x := by
  cases h with | mk h1 h2 h3 h4 h5 => exact ⟨h1, h2, h3, h4, h5⟩
theorem wgt_few {few : Prp → Bool} : ∀ (r : Nat) (l : List Comp), wgt few r l ≤ 8000 → l.length ≤ 60 ∧ ∀ c ∈ l, FewC few c
  | 0, l, h => by unfold wgt at h; omega
  | r + 1, l, h => by
    unfold wgt at h
    split at h
    · omega
    · have hl := wLoop_ge (few := few) (f := wgt few r) (wgt_ge few r) l l.length (by omega)
      obtain ⟨h1, h2⟩ := hl.2.2 (by omega)
      refine ⟨by omega, fun c hc => ?_⟩
      obtain ⟨a1, a2, a3, a4⟩ := h2 c hc
      obtain ⟨b1, b2⟩ := wgt_few (few := few) r c.Comps (by omega)
      obtain ⟨n, p, cs⟩ := c
      exact .mk (by unfold capN at a3; have a3 : min ((n.length : Int)) 100000 ≤ _ := a3; omega) a1 a2 b1 b2
theorem FewC.okC {few : Prp → Bool} (hf : ∀ p, few p = true → okP p) : ∀ {c : Comp}, FewC few c → OkC c := fun {c} h => by
  induction h with
  | mk h1 h2 h3 h4 _ ih => exact .mk (by omega) (fun x hx => hf x (h3 x hx)) (by omega) ih
end Go.Co
end
section

end
section
namespace Go.Proofs.YtadgfmmmdhlljaaDoor
open Go Go.Wk Go.Wl Go.Rx Go.Fo Go.Li Go.Co Go.Proofs
theorem few_small {p : Prp} (h : fewP p = true) : smallP p := by
  unfold fewP at h
  obtain ⟨h1, h2⟩ := of_decide_eq_true h
  unfold fewN at h2
  have a1 := capI_le p.Value.length
  have a2 := capI_le p.Name.length
  have a3 := capI_le p.Group.length
  have a4 := psum_le (p.Params.take 31)
  have e : p.Params.take 31 = p.Params := List.take_of_length_le (by omega)
  rw [e] at h2 a4
  have b1 := capI_small (n := p.Value.length) (k := 5000) (by omega) (by decide)
  have b2 := capI_small (n := p.Name.length) (k := 5000) (by omega) (by decide)
  have b3 := capI_small (n := p.Group.length) (k := 5000) (by omega) (by decide)
  refine ⟨by omega, by omega, by omega, by omega, fun x hx => ?_⟩
  have c := psum_mem hx
  unfold xsum at c
  have c1 := capI_le x.Name.length
  have c2 := capI_le x.Values.length
  have c3 := vsum_le (x.Values.take 31)
  have d1 := capI_small (n := x.Name.length) (k := 5000) (by omega) (by decide)
  have d2 := capI_small (n := x.Values.length) (k := 5000) (by omega) (by decide)
  refine ⟨by omega, by omega, fun v hv => ?_⟩
  have c4 := vsum_mem hv
  have d3 := capI_small (n := v.length) (k := 5000) (by omega) (by decide)
  omega
end Go.Proofs.YtadgfmmmdhlljaaDoor
end
section
namespace Go.Proofs.YtadgfmmmdhlljaaDoor
open Go Go.Wk Go.Wl Go.Rx Go.Fo Go.Li Go.Co 
noncomputable def c89b (o : List Prop) (l : List Comp) (d : Int) : Q1 U := ⟨o, [], .int .i64 (wgt fewP (11 - d).toNat l)⟩
noncomputable def c89n (n : Nat) (a : List (SV U)) : Option (Q1 U) := match a with | [.sl 68 l, .int .i64 d] => some (c89b [0 ≤ d, d ≤ 11, (11 - d).toNat < n] l d) | _ => none
noncomputable def E89 (n : Nat) : Env := N44.addL 89 (c89n n)
theorem E89_ok {n : Nat} (h : ∀ args q, c89n n args = some q → allP q.ob → LendOK N44 89 args ⟨q.ob, q.hy, q.v, []⟩) : EnvOK (E89 n) := N44_ok.addL Tryd.call89 h
end Go.Proofs.YtadgfmmmdhlljaaDoor
end
section
namespace Go.Proofs.YtadgfmmmdhlljaaDoor
open Go Go.Wk Go.Wl Go.Rx Go.Fo Go.Li Go.Co 
def an89 : Nat → Ann := fun | 89 => ⟨97, fun | 5 => some ⟨[0, 1, 19], [.slot 5 (.int .i64), .slot 20 (.int .i64)]⟩ | 11 => some ⟨[0, 1, 6, 19, 20, 44], [.slot 5 (.int .i64), .slot 45 (.int .i64)]⟩ | _ => none, fun  | _ => none⟩ | _ => ⟨0, fun _ => none, fun _ => none⟩
def V89 (n : Nat) (l : List Comp) (d : Int) (Q : Int → Prop) : Prop :=
((10 : Int) < d ∨ (60 : Int) < (↑l.length : Int) → Q (100000 : Int)) ∧
  (¬((10 : Int) < d ∨ (60 : Int) < (↑l.length : Int)) →
    ∃ (I : Int → Int → Prop),
      ∃ (m : Int → Int → Nat),
        I (↑l.length : Int) (0 : Int) ∧
          ∀ (x x_1 : Int),
            I x x_1 →
              (x_1 < (↑l.length : Int) →
                  (0 : Int) ≤ x_1 ∧
                    x_1 < (↑l.length : Int) ∧
                      ((60 : Int) < (↑(ix l x_1).Props.length : Int) → Q (100000 : Int)) ∧
                        (¬(60 : Int) < (↑(ix l x_1).Props.length : Int) →
                          (0 : Int) ≤ x_1 ∧
                            x_1 < (↑l.length : Int) ∧
                              in64 (x + bif false then max (↑(List.length (ix l x_1).Name) : Int) (100000 : Int) else min (↑(List.length (ix l x_1).Name) : Int) (100000 : Int)) ∧
                                (0 : Int) ≤ x_1 ∧
                                  x_1 < (↑l.length : Int) ∧
                                    ∃ (I_1 : Int → Int → Prop),
                                      ∃ (m_1 : Int → Int → Nat),
                                        I_1 (x + bif false then max (↑(List.length (ix l x_1).Name) : Int) (100000 : Int) else min (↑(List.length (ix l x_1).Name) : Int) (100000 : Int)) (0 : Int) ∧
                                          ∀ (x_2 x_3 : Int),
                                            I_1 x_2 x_3 →
                                              (x_3 < (↑(ix l x_1).Props.length : Int) →
                                                  (0 : Int) ≤ x_1 ∧
                                                    x_1 < (↑l.length : Int) ∧
                                                      (0 : Int) ≤ x_3 ∧
                                                        x_3 < (↑(ix l x_1).Props.length : Int) ∧
                                                          (¬fewP
                                                                    (Prp.mk (ix (ix l x_1).Props x_3).Group (ix (ix l x_1).Props x_3).Name (ix (ix l x_1).Props x_3).Params
                                                                      (ix (ix l x_1).Props x_3).Value) =
                                                                  true →
                                                              Q (100000 : Int)) ∧
                                                            (¬¬fewP
                                                                      (Prp.mk (ix (ix l x_1).Props x_3).Group (ix (ix l x_1).Props x_3).Name (ix (ix l x_1).Props x_3).Params
                                                                        (ix (ix l x_1).Props x_3).Value) =
                                                                    true →
                                                              (0 : Int) ≤ x_1 ∧
                                                                x_1 < (↑l.length : Int) ∧
                                                                  (0 : Int) ≤ x_3 ∧
                                                                    x_3 < (↑(ix l x_1).Props.length : Int) ∧
                                                                      in64 (x_2 + (1 : Int)) ∧
                                                                        in64 (x_2 + (1 : Int) + (↑(List.length (ix (ix l x_1).Props x_3).Value) : Int)) ∧
                                                                          in64
                                                                              (x_2 + (1 : Int) + (↑(List.length (ix (ix l x_1).Props x_3).Value) : Int) +
                                                                                (↑(List.length (ix (ix l x_1).Props x_3).Name) : Int)) ∧
                                                                            in64 ((10 : Int) * (↑(ix (ix l x_1).Props x_3).Params.length : Int)) ∧
                                                                              in64
                                                                                  (x_2 + (1 : Int) + (↑(List.length (ix (ix l x_1).Props x_3).Value) : Int) +
                                                                                      (↑(List.length (ix (ix l x_1).Props x_3).Name) : Int) +
                                                                                    (10 : Int) * (↑(ix (ix l x_1).Props x_3).Params.length : Int)) ∧
                                                                                in64 (x_3 + (1 : Int)) ∧
                                                                                  I_1
                                                                                      (x_2 + (1 : Int) + (↑(List.length (ix (ix l x_1).Props x_3).Value) : Int) +
                                                                                          (↑(List.length (ix (ix l x_1).Props x_3).Name) : Int) +
                                                                                        (10 : Int) * (↑(ix (ix l x_1).Props x_3).Params.length : Int))
                                                                                      (x_3 + (1 : Int)) ∧
                                                                                    m_1
                                                                                        (x_2 + (1 : Int) + (↑(List.length (ix (ix l x_1).Props x_3).Value) : Int) +
                                                                                            (↑(List.length (ix (ix l x_1).Props x_3).Name) : Int) +
                                                                                          (10 : Int) * (↑(ix (ix l x_1).Props x_3).Params.length : Int))
                                                                                        (x_3 + (1 : Int)) <
                                                                                      m_1 x_2 x_3)) ∧
                                                (¬x_3 < (↑(ix l x_1).Props.length : Int) →
                                                  (x_2 < (100000 : Int) →
                                                      (0 : Int) ≤ x_1 ∧
                                                        x_1 < (↑l.length : Int) ∧
                                                          in64 (d + (1 : Int)) ∧
                                                            (0 : Int) ≤ d + (1 : Int) ∧
                                                              d + (1 : Int) ≤ (11 : Int) ∧
                                                                ((11 : Int) - (d + (1 : Int))).toNat < n ∧
                                                                  in64 (x_2 + wgt fewP ((11 : Int) - (d + (1 : Int))).toNat (ix l x_1).Comps) ∧
                                                                    in64 (x_1 + (1 : Int)) ∧
                                                                      I (x_2 + wgt fewP ((11 : Int) - (d + (1 : Int))).toNat (ix l x_1).Comps) (x_1 + (1 : Int)) ∧
                                                                        m (x_2 + wgt fewP ((11 : Int) - (d + (1 : Int))).toNat (ix l x_1).Comps) (x_1 + (1 : Int)) < m x x_1) ∧
                                                    (¬x_2 < (100000 : Int) → in64 (x_1 + (1 : Int)) ∧ I x_2 (x_1 + (1 : Int)) ∧ m x_2 (x_1 + (1 : Int)) < m x x_1)))) ∧
                (¬x_1 < (↑l.length : Int) → Q (bif false then max x (100000 : Int) else min x (100000 : Int))))
set_option maxRecDepth 100000 in
theorem V89_ok {n : Nat} {l : List Comp} {d : Int} {Q : Int → Prop} (h : V89 n l d Q) : vcFun (E := E89 n) (inlN an89 2) (an89 89) Tryd.f89 [.sl (N := U) 68 l, .int .i64 d] [] [] 0 (resP (E89 n) [.int .i64] Q) := Eq.mp (show V89 n l d Q = vcFun (E := E89 n) (inlN an89 2) (an89 89) Tryd.f89 [.sl (N := U) 68 l, .int .i64 d] [] [] 0 (resP (E89 n) [.int .i64] Q) by kernel_rfl) h
theorem p89 (n : Nat) (l : List Comp) (d : Int) (h0 : 0 ≤ d) (h1 : d ≤ 11) (hr : (11 - d).toNat < n + 1) : V89 n l d (fun y => y = wgt fewP (11 - d).toNat l) := by
  unfold V89
  simp only [cond_false]
  refine ⟨fun h => ?_, fun h => ?_⟩
  · by_cases hd : 10 < d
    · have e : (11 - d).toNat = 0 := by omega
      rw [e, wgt]
    · have e : (11 - d).toNat = (11 - (d + 1)).toNat + 1 := by omega
      rw [e, wgt, if_pos (by omega)]
  have e : (11 - d).toNat = (11 - (d + 1)).toNat + 1 := by omega
  have hW : wgt fewP (11 - d).toNat l = wLoop fewP (wgt fewP (11 - (d + 1)).toNat) l l.length := by rw [e, wgt, if_neg (by omega)]
  generalize wgt fewP (11 - d).toNat l = S at hW ⊢
  have hrn : (11 - (d + 1)).toNat < n := by omega
  refine ⟨fun x i => 0 ≤ i ∧ i ≤ l.length ∧ 0 ≤ x ∧ x ≤ 60 + 4000000 * i ∧ S = wLoop fewP (wgt fewP (11 - (d + 1)).toNat) (l.drop i.toNat) x, fun _ i => ((l.length : Int) - i).toNat, ⟨by omega, by omega, by omega, by omega, by simpa using hW⟩, ?_⟩
  rintro x i ⟨i0, i1, x0, x1, hx⟩
  refine ⟨fun hi => ?_, fun hi => ?_⟩
  · rw [drop_ix i0 hi, wLoop] at hx
    generalize ix l i = c at hx ⊢
    have hcap : min (c.Name.length : Int) 100000 = capN c.Name.length := rfl
    have hc0 : 0 ≤ capN c.Name.length ∧ capN c.Name.length ≤ 100000 := by unfold capN; omega
    rw [hcap]
    refine ⟨i0, hi, fun h60 => ?_, fun h60 => ⟨i0, hi, ⟨by omega, by omega⟩, i0, hi, fun y k => 0 ≤ k ∧ k ≤ c.Props.length ∧ x ≤ y ∧ y ≤ x + 100000 + 60010 * k ∧ wProps fewP (c.Props.drop k.toNat) y = wProps fewP c.Props (x + capN c.Name.length), fun _ k => ((c.Props.length : Int) - k).toNat, ⟨by omega, by omega, by omega, by omega, by simp⟩, ?_⟩⟩
    · rw [if_pos h60] at hx; exact hx.symm
    rw [if_neg h60] at hx
    rintro y k ⟨k0, k1, y0, y1, hy⟩
    refine ⟨fun hk => ?_, fun hk => ?_⟩
    · rw [drop_ix k0 hk, wProps] at hy
      generalize ix c.Props k = p at hy ⊢
      refine ⟨i0, hi, k0, hk, fun hf => ?_, fun hf => ?_⟩
      · rw [if_neg hf] at hy
        rw [← hy] at hx
        exact hx.symm
      · have hf' : fewP p = true := Classical.not_not.1 hf
        rw [if_pos hf'] at hy
        have sm := few_small hf'
        have s1 := sm.value
        have s2 := sm.name
        have s3 := sm.params
        exact ⟨i0, hi, k0, hk, ⟨by omega, by omega⟩, ⟨by omega, by omega⟩, ⟨by omega, by omega⟩, ⟨by omega, by omega⟩, ⟨by omega, by omega⟩, ⟨by omega, by omega⟩, ⟨by omega, by omega, by omega, by omega, hy⟩, by dsimp only; omega⟩
    · rw [List.drop_eq_nil_of_le (by omega), wProps] at hy
      rw [← hy] at hx
      simp only at hx
      have hw := wgt_ge fewP (11 - (d + 1)).toNat c.Comps
      refine ⟨fun hl => ⟨i0, hi, ⟨by omega, by omega⟩, by omega, by omega, hrn, ⟨by omega, by omega⟩, ⟨by omega, by omega⟩, ⟨by omega, by omega, by omega, by omega, ?_⟩, by dsimp only; omega⟩, fun hl => ⟨⟨by omega, by omega⟩, ⟨by omega, by omega, by omega, by omega, ?_⟩, by dsimp only; omega⟩⟩
      · rw [if_pos hl] at hx; exact hx
      · rw [if_neg hl] at hx; exact hx
  · rw [List.drop_eq_nil_of_le (by omega), wLoop] at hx
    exact hx.symm
set_option maxRecDepth 100000 in
theorem c89n_ok : ∀ (n : Nat) (args : List (SV U)) (q : Q1 U), c89n n args = some q → allP q.ob → LendOK N44 89 args ⟨q.ob, q.hy, q.v, []⟩
  | 0, args, q, h, ho => by
    unfold c89n at h
    split at h
    · rename_i l d
      cases h
      exact absurd ho.2.2.1 (Nat.not_lt_zero _)
    · cases h
  | n + 1, args, q, h, ho => by
    have hE := E89_ok (c89n_ok n)
    unfold c89n at h
    split at h
    · rename_i l d
      cases h
      exact fun D w vs h1 h2 h3 => lend1 hE (inlN_ok hE an89 2) Tryd.func89 (k := .int .i64) trivial (V89_ok (p89 n l d ho.1 ho.2.1 ho.2.2.1)) 0 D w vs h1 h2 h3
    · cases h
noncomputable def c89 (a : List (SV U)) : Option (Q1 U) := match a with | [.sl 68 l, .int .i64 d] => some (c89b [0 ≤ d, d ≤ 11] l d) | _ => none
theorem c89_ok (args : List (SV U)) (q : Q1 U) (h : c89 args = some q) (ho : allP q.ob) : LendOK N44 89 args ⟨q.ob, q.hy, q.v, []⟩ := by
  unfold c89 at h
  split at h
  · rename_i l d
    cases h
    exact fun D w vs h1 h2 h3 => c89n_ok ((11 - d).toNat + 1) [.sl 68 l, .int .i64 d] (c89b [0 ≤ d, d ≤ 11, (11 - d).toNat < (11 - d).toNat + 1] l d) rfl ⟨ho.1, ho.2.1, Nat.lt_succ_self _, trivial⟩ D w vs h1 h2 h3
  · cases h
noncomputable def N89 : Env := N44.addL 89 c89
theorem N89_ok : EnvOK N89 := N44_ok.addL Tryd.call89 c89_ok
end Go.Proofs.YtadgfmmmdhlljaaDoor
end
section
namespace Go.Proofs.YtadgfmmmdhlljaaDoor
open Go Go.Wk Go.Wl Go.Rx Go.Fo Go.Li Go.Co 
def an42 : Nat → Ann := fun | 42 => ⟨6, fun _ => none, fun  | _ => none⟩ | _ => ⟨0, fun _ => none, fun _ => none⟩
def V42 (l : List Comp) (Q : Bool → Prop) : Prop :=
(0 : Int) ≤ (0 : Int) ∧ (0 : Int) ≤ (11 : Int) ∧ Q (decide (wgt fewP ((11 : Int) - (0 : Int)).toNat l ≤ (8000 : Int)))
set_option maxRecDepth 100000 in
theorem V42_ok {l : List Comp} {Q : Bool → Prop} (h : V42 l Q) : vcFun (E := N89) (inlN an42 2) (an42 42) Tryd.f42 [.sl (N := U) 68 l] [] [] 0 (resP N89 [.bool] Q) := Eq.mp (show V42 l Q = vcFun (E := N89) (inlN an42 2) (an42 42) Tryd.f42 [.sl (N := U) 68 l] [] [] 0 (resP N89 [.bool] Q) by kernel_rfl) h
theorem p42 (l : List Comp)  : V42 l (fun y0 => y0 = decide (wgt fewP 11 l ≤ 8000)) := by
  unfold V42
  exact ⟨by omega, by omega, rfl⟩
def c42 (a : List (SV U)) : Option (Q1 U) := match a with | [.sl 68 l] => some ⟨[], [], blB (decide (wgt fewP 11 l ≤ 8000))⟩ | _ => none
set_option maxRecDepth 100000 in
theorem c42_ok (args : List (SV U)) (q : Q1 U) (h : c42 args = some q) (ho : allP q.ob) : LendOK N89 42 args ⟨q.ob, q.hy, q.v, []⟩ := by
  unfold c42 at h
  split at h
  · rename_i l
    cases h
    exact lend1 N89_ok (inlN_ok N89_ok an42 2) Tryd.func42 (k := .bool) (x := decide (wgt fewP 11 l ≤ 8000)) trivial (V42_ok (p42 l )) 0
  · cases h
noncomputable def N42 : Env := N89.addL 42 c42
theorem N42_ok : EnvOK N42 := N89_ok.addL Tryd.call42 c42_ok
end Go.Proofs.YtadgfmmmdhlljaaDoor
end
section
namespace Go.Proofs.YtadgfmmmdhlljaaDoor
open Go Go.Wk Go.Wl Go.Rx Go.Fo Go.Li Go.Co 
def exM : Str := [66, 69, 71, 73, 78, 58, 97, 10, 88, 58, 49, 10, 66, 69, 71, 73, 78, 58, 98, 10, 69, 78, 68, 58, 66, 10, 89, 58, 50, 10, 69, 78, 68, 58, 65, 10]
def exN : Str := [66, 69, 71, 73, 78, 58, 97, 10, 88, 58, 49, 10]
def an38 : Nat → Ann := fun | 38 => ⟨54, fun _ => none, fun  | _ => none⟩ | _ => ⟨0, fun _ => none, fun _ => none⟩
def V38  (Q : Bool → Prop) : Prop :=
exM.length ≤ (100000 : Nat) ∧ exN.length ≤ (100000 : Nat) ∧ ((cE (compS exM)).nr = (0 : Int) ∧ (↑(cR (compS exM)).fst.length : Int) = (1 : Int) → (0 : Int) ≤ (0 : Int)) ∧ ((cE (compS exM)).nr = (0 : Int) ∧ (↑(cR (compS exM)).fst.length : Int) = (1 : Int) → (0 : Int) < (↑(cR (compS exM)).fst.length : Int)) ∧ (((cE (compS exM)).nr = (0 : Int) ∧ (↑(cR (compS exM)).fst.length : Int) = (1 : Int)) ∧ (ix (cR (compS exM)).fst (0 : Int)).Name = [(65 : UInt8)] → (0 : Int) ≤ (0 : Int)) ∧ (((cE (compS exM)).nr = (0 : Int) ∧ (↑(cR (compS exM)).fst.length : Int) = (1 : Int)) ∧ (ix (cR (compS exM)).fst (0 : Int)).Name = [(65 : UInt8)] → (0 : Int) < (↑(cR (compS exM)).fst.length : Int)) ∧ ((((cE (compS exM)).nr = (0 : Int) ∧ (↑(cR (compS exM)).fst.length : Int) = (1 : Int)) ∧ (ix (cR (compS exM)).fst (0 : Int)).Name = [(65 : UInt8)]) ∧ (↑(ix (cR (compS exM)).fst (0 : Int)).Props.length : Int) = (2 : Int) → (0 : Int) ≤ (0 : Int) ∧ (0 : Int) < (↑(cR (compS exM)).fst.length : Int) ∧ (Comp.mk (ix (cR (compS exM)).fst (0 : Int)).Name (ix (cR (compS exM)).fst (0 : Int)).Props (ix (cR (compS exM)).fst (0 : Int)).Comps).Comps.length ≤ (100000000 : Nat) ∧ Q (decide (((↑(allC_ (Comp.mk (ix (cR (compS exM)).fst (0 : Int)).Name (ix (cR (compS exM)).fst (0 : Int)).Props (ix (cR (compS exM)).fst (0 : Int)).Comps) [(66 : UInt8)]).length : Int) = (1 : Int) ∧ (cE (compS exN)).nr = (11 : Int)) ∧ (cE (compS exN)).at_ = (1 : Int)))) ∧ (¬((((cE (compS exM)).nr = (0 : Int) ∧ (↑(cR (compS exM)).fst.length : Int) = (1 : Int)) ∧ (ix (cR (compS exM)).fst (0 : Int)).Name = [(65 : UInt8)]) ∧ (↑(ix (cR (compS exM)).fst (0 : Int)).Props.length : Int) = (2 : Int)) → Q false)
set_option maxRecDepth 100000 in
theorem V38_ok  {Q : Bool → Prop} (h : V38  Q) : vcFun (E := N42) (inlN an38 2) (an38 38) Tryd.f38 [] [] [] 0 (resP N42 [.bool] Q) := Eq.mp (show V38  Q = vcFun (E := N42) (inlN an38 2) (an38 38) Tryd.f38 [] [] [] 0 (resP N42 [.bool] Q) by kernel_rfl) h
theorem exM_ok : compS exM = .ok [.mk [65] [⟨[], [88], [], [49]⟩, ⟨[], [89], [], [50]⟩] [.mk [66] [] []]] := by kernel_rfl
theorem exN_ok : compS exN = .error (11, 1) := by kernel_rfl
theorem p38   : V38  (fun y0 => y0 = true) := by
  unfold V38
  rw [exM_ok, exN_ok]
  refine ⟨by decide, by decide, fun _ => by decide, fun _ => by decide, fun _ => by decide, fun _ => by decide, fun _ => ⟨by decide, by decide, by decide, ?_⟩, fun h => absurd ⟨⟨⟨rfl, rfl⟩, rfl⟩, rfl⟩ h⟩
  exact decide_eq_true ⟨⟨by decide +kernel, rfl⟩, rfl⟩
def c38 (a : List (SV U)) : Option (Q1 U) := match a with | [] => some ⟨[], [], blB true⟩ | _ => none
set_option maxRecDepth 100000 in
theorem c38_ok (args : List (SV U)) (q : Q1 U) (h : c38 args = some q) (ho : allP q.ob) : LendOK N42 38 args ⟨q.ob, q.hy, q.v, []⟩ := by
  unfold c38 at h
  split at h
  · cases h
    exact lend1 N42_ok (inlN_ok N42_ok an38 2) Tryd.func38 (k := .bool) (x := true) trivial (V38_ok (p38  )) 0
  · cases h
noncomputable def N38 : Env := N42.addL 38 c38
theorem N38_ok : EnvOK N38 := N42_ok.addL Tryd.call38 c38_ok
end Go.Proofs.YtadgfmmmdhlljaaDoor
end
section
namespace Go.Co
open Go Go.Wk Go.Wl Go.Rx Go.Fo Go.Li
mutual
def linC : Comp → List Str
  | .mk n p c => (sBEGIN ++ 58 :: n) :: (p.map tell ++ (linL c ++ [sEND ++ 58 :: n]))
def linL : List Comp → List Str
  | [] => []
  | c :: l => linC c ++ linL l
end
mutual
def rowC : Comp → Int
  | .mk _ p c => 2 + p.length + rowL c
def rowL : List Comp → Int
  | [] => 0
  | c :: l => rowC c + rowL l
end
theorem rowL_cons (c : Comp) (l : List Comp) : rowL (c :: l) = rowC c + rowL l := by rw [rowL]
mutual
theorem lin_lenC : ∀ c : Comp, ((linC c).length : Int) = rowC c
  | .mk _ p c => by
    unfold linC rowC
    have := lin_lenL c
    simp only [List.length_cons, List.length_append, List.length_map, List.length_nil]
    omega
theorem lin_lenL : ∀ l : List Comp, ((linL l).length : Int) = rowL l
  | [] => by unfold linL rowL; rfl
  | c :: l => by
    unfold linL rowL
    have := lin_lenC c
    have := lin_lenL l
    rw [List.length_append]; omega
end
end Go.Co
end
section
namespace Go.Co
open Go Go.Wk Go.Wl Go.Rx Go.Fo Go.Li
inductive RdC (m : Nat) : Comp → Prop
  | mk {n : Str} {p : List Prp} {c : List Comp} : isName n → n.length ≤ m → (∀ x ∈ p, rightB x = true ∧ (tell x).length ≤ 2 * m ∧ x.Name ≠ sBEGIN ∧ x.Name ≠ sEND) → (∀ x ∈ c, RdC m x) → RdC m (.mk n p c)
theorem RdC.out {m : Nat} {c : Comp} (h : RdC m c) : isName c.Name ∧ c.Name.length ≤ m ∧ (∀ x ∈ c.Props, rightB x = true ∧ (tell x).length ≤ 2 * m ∧ x.Name ≠ sBEGIN ∧ x.Name ≠ sEND) ∧ ∀ x ∈ c.Comps, RdC m x := by
  cases h with | mk h1 h2 h3 h4 => exact ⟨h1, h2, h3, h4⟩
theorem rowC_eq (c : Comp) : rowC c = 2 + c.Props.length + rowL c.Comps := by obtain ⟨n, p, cs⟩ := c; unfold rowC; rfl
end Go.Co
end
section
namespace Go.Co
open Go Go.Wk Go.Wl Go.Rx Go.Fo Go.Li
theorem right_okP {p : Prp} (h : rightB p = true) : okP p := by
  obtain ⟨_, hm⟩ := rightB_iff.1 h
  unfold manyB at hm
  simp only [Bool.or_eq_false_iff, List.any_eq_false, decide_eq_false_iff_not, decide_eq_true_eq] at hm
  refine ⟨by have := hm.1.1; omega, fun x hx => by have := hm.1.2 x hx; omega⟩
theorem rowL_ge : ∀ l : List Comp, (l.length : Int) ≤ rowL l ∧ ∀ c ∈ l, rowC c ≤ rowL l
  | [] => ⟨by unfold rowL; simp, fun c hc => by cases hc⟩
  | c :: l => by
    obtain ⟨h1, h2⟩ := rowL_ge l
    have h3 := lin_lenC c
    have h4 := rowC_eq c
    have h5 := lin_lenL c.Comps
    rw [rowL_cons]
    refine ⟨by rw [List.length_cons]; omega, fun d hd => ?_⟩
    rcases List.mem_cons.1 hd with rfl | hd
    · omega
    · have := h2 d hd; omega
theorem RdC.okC {m : Nat} : ∀ {c : Comp}, RdC m c → rowC c ≤ 100000000 → OkC c := fun {c} h => by
  induction h with
  | @mk n p cs h1 h2 h3 _ ih =>
    intro hr
    have e : rowC (Comp.mk n p cs) = 2 + p.length + rowL cs := rowC_eq _
    obtain ⟨g1, g2⟩ := rowL_ge cs
    exact .mk (by omega) (fun x hx => right_okP (h3 x hx).1) (by omega) fun x hx => ih x hx (by have := g2 x hx; omega)
end Go.Co
end
section
namespace Go.Co
open Go Go.Wk Go.Wl Go.Li Go.ChangeShapes Go.WideShapes Go.RowKit
def OpensF {α : Type} (P : Program) (t : TypeId) (r : Rd α) (N : Nat) : Prop :=
  ∀ {H : Type} {enc : TypeId × Value → H} {fuel : Nat} {w : World} {sp : Nat → Bool} {cs : List Value} {x : DataW H × List MemPlace}, fuel ≤ N → DataW.trod enc P w 0 sp true fuel t cs = some x → ∃ y, r.rd (fun _ => True) w cs y
section
variable {P : Program} {t e : TypeId}
theorem opensF_slice {α : Type} {r : Rd α} {N : Nat} (ht : P.underlying t = some (.slice e)) (hsz : P.cellsOf e = r.sz) (hp : 0 < r.sz) (ho : OpensF P e r N) : OpensF P t (dSlice r) (N + 1) := fun {H enc fuel w sp cs x} hf h => by
  rcases DataW.trod_slice ht h with ⟨rfl, _⟩ | ⟨a, len, cap, elems, rest, n, hn, rfl, _, _, hlc, hcm, hel, hget, _⟩
  · exact ⟨[], dSlice_nil⟩
  · have each : ∀ i, i < len → ∃ c y, Cells w a.block (a.off + i * r.sz) c ∧ r.rd (fun _ => True) w c y ∧ a.spot = none := by
      intro i hi
      have h1 := hget i hi
      rw [List.getElem?_eq_getElem (by omega)] at h1
      simp only [Option.bind_eq_some_iff] at h1
      obtain ⟨c, hc, hx⟩ := h1
      obtain ⟨y, hy⟩ := ho (by omega) hx
      rw [hsz] at hc
      have hc' := cells_of hp hc
      have hs0 : a.spot = none := by
        have h0 := hget 0 (by omega)
        rw [List.getElem?_eq_getElem (by omega)] at h0
        simp only [Option.bind_eq_some_iff] at h0
        obtain ⟨c0, hc0, _⟩ := h0
        rw [hsz] at hc0
        have := (cells_of hp hc0).1
        simpa [Addr.add] using this
      refine ⟨c, y, ?_, hy, hs0⟩
      have := hc'.2.2
      unfold Addr.add at this
      split at this
      · rename_i e0
        rw [e0]; exact this
      · exact this
    have each' : ∀ i : Fin len, ∃ y : α, ∃ c, Cells w a.block (a.off + i * r.sz) c ∧ r.rd (fun _ => True) w c y := fun i => by
      obtain ⟨c, y, h1, h2, _⟩ := each i i.2; exact ⟨y, c, h1, h2⟩
    have ⟨f, hf⟩ := Classical.axiomOfChoice each'
    refine ⟨List.ofFn f, ?_, some a, cap, by simp, ⟨fun h => (by cases h), by simpa using hlc⟩, fun i hi => ?_⟩
    · simp [maxLen] at hcm ⊢; omega
    · have hi' : i < len := by simpa using hi
      obtain ⟨c, h1, h2⟩ := hf ⟨i, hi'⟩
      obtain ⟨_, _, _, _, hs0⟩ := each i hi'
      refine ⟨a.block, a.off, c, ?_, trivial, h1, ?_⟩
      · obtain ⟨b, o, s⟩ := a; simp only at hs0; subst hs0; rfl
      · simpa using h2
theorem opensF_comp {dP : Rd Prp} {fs : Array Field} {tn tp tc : TypeId} (ht : P.underlying t = some (.struct fs)) (hf : fs.toList.map (fun f => (f.type, f.offset)) = [(tn, 0), (tp, 1), (tc, 2)]) (hz : P.cellsOf t = 3) (zn : P.cellsOf tn = 1) (zp : P.cellsOf tp = 1) (zc : P.cellsOf tc = 1)
    (hn : P.underlying tn = some .string) (op : OpensD P tp (dSlice dP)) (hc : P.underlying tc = some (.slice t)) : ∀ N : Nat, OpensF P t (dComp dP) N := by
  intro N
  induction N using Nat.strongRecOn with
  | ind N ih =>
    intro H enc fuel w sp cs x hfu h
    obtain ⟨xs, n, hn1, _, hlen, hxl, hget⟩ := DataW.trod_struct ht h
    have hsz : fs.size = 3 := by have := congrArg List.length hf; simpa using this
    have fld : ∀ (i : Nat) (hi : i < 3), fs[i]? = some (fs[i]'(by omega)) := fun i hi => by simp
    have ty : ∀ (i : Nat) (hi : i < 3), ((fs[i]'(by omega)).type, (fs[i]'(by omega)).offset) = ([(tn, 0), (tp, 1), (tc, 2)] : List (TypeId × Nat))[i]'(by simpa using hi) := fun i hi => by
      have h1 : (fs.toList.map (fun f => (f.type, f.offset)))[i]? = some ((fs[i]'(by omega)).type, (fs[i]'(by omega)).offset) := by
        rw [List.getElem?_map, Array.getElem?_toList, fld i hi]; rfl
      rw [hf, List.getElem?_eq_getElem (by simpa using hi)] at h1
      exact (Option.some.inj h1).symm
    rw [hz] at hlen
    have hcs : ∃ a b c, cs = [a, b, c] := by
      match cs, hlen with
      | [a, b, c], _ => exact ⟨a, b, c, rfl⟩
    obtain ⟨a, b, c, rfl⟩ := hcs
    · have g0 := hget 0 _ (fld 0 (by omega))
      have g1 := hget 1 _ (fld 1 (by omega))
      have g2 := hget 2 _ (fld 2 (by omega))
      have t0 := ty 0 (by omega)
      have t1 := ty 1 (by omega)
      have t2 := ty 2 (by omega)
      simp only [List.getElem_cons_zero, List.getElem_cons_succ, Prod.mk.injEq] at t0 t1 t2
      rw [t0.1, t0.2, zn, List.getElem?_eq_getElem (by omega)] at g0
      rw [t1.1, t1.2, zp, List.getElem?_eq_getElem (by omega)] at g1
      rw [t2.1, t2.2, zc, List.getElem?_eq_getElem (by omega)] at g2
      obtain ⟨y0, k0⟩ := opensD_str hn g0
      obtain ⟨y1, k1⟩ := op g1
      have sl : OpensF P tc (dSlice (dComp dP)) n := by
        cases n with
        | zero =>
            intro H enc fuel w sp cs x hf h
            obtain rfl := Nat.le_zero.1 hf
            rcases DataW.trod_slice hc h with ⟨rfl, _⟩ | ⟨_, _, _, _, _, _, hn, _⟩
            · exact ⟨[], dSlice_nil⟩
            · cases hn
        | succ m => exact opensF_slice hc (by rw [hz]; rfl) (by show 0 < 3; omega) (ih m (by omega))
      obtain ⟨y2, k2⟩ := sl (Nat.le_refl _) g2
      exact ⟨.mk y0 y1 y2, (dComp_iff dP).2 ⟨[a], [b], [c], rfl, k0, k1, k2⟩⟩
theorem opensD_comp {dP : Rd Prp} {fs : Array Field} {tn tp tc : TypeId} (ht : P.underlying t = some (.struct fs)) (hf : fs.toList.map (fun f => (f.type, f.offset)) = [(tn, 0), (tp, 1), (tc, 2)]) (hz : P.cellsOf t = 3) (zn : P.cellsOf tn = 1) (zp : P.cellsOf tp = 1) (zc : P.cellsOf tc = 1)
    (hn : P.underlying tn = some .string) (op : OpensD P tp (dSlice dP)) (hc : P.underlying tc = some (.slice t)) : OpensD P t (dComp dP) := fun {H enc fuel w sp cs x} h => opensF_comp ht hf hz zn zp zc hn op hc fuel (Nat.le_refl _) h
end
end Go.Co
end
