/- A statement and its own function. -/
import Derived.Test.YtadgfmmmdhlljaaDoorK9
set_option linter.unusedVariables false
set_option linter.unusedSimpArgs false
namespace Go.Proofs.YtadgfmmmdhlljaaDoor
open Go Go.Wk Go.Wl Go.Rx Go.Fo Go.Li 
def an4 : Nat → Ann := fun | 4 => ⟨41, fun _ => none, fun  | _ => none⟩ | _ => ⟨0, fun _ => none, fun _ => none⟩
def V4 (s : Str) (Q : Bool → Prop) : Prop :=
((12000 : Int) < (↑(List.length s) : Int) → Q (decide (true = true))) ∧
  (¬(12000 : Int) < (↑(List.length s) : Int) →
    List.length s ≤ (100000 : Nat) ∧
      List.length s ≤ (100000 : Nat) ∧
        (uR (unfoldS s)).fst.length ≤ (100000000 : Nat) ∧
          Q (decide (((sameRows (uR (unfoldS s)).fst (uR (unfoldS s)).fst = true ∧ (uE (unfoldS s)).nr = (uR (unfoldS s)).snd.fst) ∧ (uE (unfoldS s)).at_ = (uR (unfoldS s)).snd.snd) ∧ true = true)))
set_option maxRecDepth 100000 in
theorem V4_ok {s : Str} {Q : Bool → Prop} (h : V4 s Q) : vcFun (E := N17) (inlN an4 2) (an4 4) Tryd.f4 [.str s] [] [] 0 (resP N17 [.bool] Q) := Eq.mp (show V4 s Q = vcFun (E := N17) (inlN an4 2) (an4 4) Tryd.f4 [.str s] [] [] 0 (resP N17 [.bool] Q) by kernel_rfl) h
theorem uTop_num {a : Int} {out : List Row} {e : Int × Int} (h : uTop a out = .error e) : e.1 = 4 ∨ e.1 = 5 ∨ e.1 = 11 := by
  unfold uTop at h
  split at h
  · cases h; exact .inl rfl
  · split at h
    · cases h; exact .inr (.inl rfl)
    · cases h
theorem uStep_num {a : Int} {l : Str} {out : List Row} {o : Bool} {e : Int × Int} (h : uStep a l out o = .error e) : e.1 = 4 ∨ e.1 = 5 ∨ e.1 = 11 := by
  unfold uStep at h
  split at h
  · cases h
  · split at h
    · split at h
      · exact uTop_num h
      · cases h; exact .inr (.inr rfl)
    · exact uTop_num h
theorem uStep_len {a : Int} {l : Str} {out : List Row} {o : Bool} {q : List Row × Bool} (h : uStep a l out o = .ok q) (ho : out.length ≤ 1000) : q.1.length ≤ 1000 := by
  have top : ∀ {x : List Row}, uTop a x = .ok q → q.1.length ≤ 1000 := fun {x} h => by
    obtain ⟨q1, q2⟩ := q
    obtain ⟨rfl, _, _, h4⟩ := uTop_in h
    exact h4
  unfold uStep at h
  split at h
  · cases h; exact ho
  · split at h
    · split at h
      · exact top h
      · cases h
    · exact top h
theorem uGo_num : ∀ (ls : List Str) (a : Int) (out : List Row) (o : Bool), out.length ≤ 1000 → match uGo ls a out o with | .ok r => r.length ≤ 1000 | .error e => e.1 = 4 ∨ e.1 = 5 ∨ e.1 = 11
  | [], _, out, _, h => h
  | l :: ls, a, out, o, h => by
    cases hs : uStep a l out o with
    | error e => rw [uGo_err hs]; exact uStep_num hs
    | ok q => obtain ⟨q1, q2⟩ := q; rw [uGo_ok hs]; exact uGo_num ls (a + 1) q1 q2 (uStep_len hs h)
theorem unfold_num (s : Str) : (uR (unfoldS s)).1.length ≤ 1000 ∧ (uE (unfoldS s)).nr = (uR (unfoldS s)).2.1 ∧ (uE (unfoldS s)).at_ = (uR (unfoldS s)).2.2 := by
  have h := uGo_num (linesOf s) 1 [] false (by simp)
  change (match unfoldS s with | .ok r => r.length ≤ 1000 | .error e => e.1 = 4 ∨ e.1 = 5 ∨ e.1 = 11) at h
  generalize unfoldS s = R at h
  cases R with
  | ok r => exact ⟨h, rfl, rfl⟩
  | error e =>
    obtain ⟨n, a⟩ := e
    refine ⟨by simp [uR], ?_, rfl⟩
    rcases h with h | h | h <;> (simp only at h; subst h; rfl)
theorem p4 (s : Str)  : V4 s (fun y0 => y0 = true) := by
  unfold V4
  refine ⟨fun _ => rfl, fun h => ?_⟩
  obtain ⟨h1, h2, h3⟩ := unfold_num s
  exact ⟨by omega, by omega, by omega, decide_eq_true ⟨⟨⟨decide_eq_true rfl, h2⟩, h3⟩, rfl⟩⟩
def c4 (a : List (SV U)) : Option (Q1 U) := match a with | [.str s] => some ⟨[], [], blB true⟩ | _ => none
set_option maxRecDepth 100000 in
theorem c4_ok (args : List (SV U)) (q : Q1 U) (h : c4 args = some q) (ho : allP q.ob) : LendOK N17 4 args ⟨q.ob, q.hy, q.v, []⟩ := by
  unfold c4 at h
  split at h
  · rename_i s
    cases h
    exact lend1 N17_ok Tryd.func4 (k := .bool) (x := true) trivial (V4_ok (p4 s )) 0
  · cases h
noncomputable def N4 : Env := N17.addL 4 c4
theorem N4_ok : EnvOK N4 := N17_ok.addL Tryd.call4 c4_ok
end Go.Proofs.YtadgfmmmdhlljaaDoor
