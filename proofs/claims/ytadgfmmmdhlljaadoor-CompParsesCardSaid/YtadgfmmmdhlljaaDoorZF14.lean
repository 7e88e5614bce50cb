/- A statement and its own function. -/
import Derived.Test.YtadgfmmmdhlljaaDoorM11
set_option linter.unusedVariables false
set_option linter.unusedSimpArgs false
namespace Go.Proofs.YtadgfmmmdhlljaaDoor
open Go Go.Wk Go.Wl Go.Rx Go.Fo Go.Li Go.Co 
def an14 : Nat → Ann := fun | 14 => ⟨41, fun _ => none, fun  | _ => none⟩ | _ => ⟨0, fun _ => none, fun _ => none⟩
def V14 (s : Str) (Q : Bool → Prop) : Prop :=
((8000 : Int) < (↑(List.length s) : Int) → Q (decide (true = true))) ∧
  (¬(8000 : Int) < (↑(List.length s) : Int) →
    List.length s ≤ (100000 : Nat) ∧
      List.length s ≤ (100000 : Nat) ∧
        (cR (compS s)).fst.length ≤ (100000000 : Nat) ∧
          (∀ (x : Comp), x ∈ (cR (compS s)).fst → OkC x) ∧
            Q (decide (((sameC (cR (compS s)).fst (cR (compS s)).fst = true ∧ (cE (compS s)).nr = (cR (compS s)).snd.fst) ∧ (cE (compS s)).at_ = (cR (compS s)).snd.snd) ∧ true = true)))
set_option maxRecDepth 100000 in
theorem V14_ok {s : Str} {Q : Bool → Prop} (h : V14 s Q) : vcFun (E := N38) (inlN an14 2) (an14 14) Tryd.f14 [.str s] [] [] 0 (resP N38 [.bool] Q) := Eq.mp (show V14 s Q = vcFun (E := N38) (inlN an14 2) (an14 14) Tryd.f14 [.str s] [] [] 0 (resP N38 [.bool] Q) by kernel_rfl) h
theorem p14 (s : Str)  : V14 s (fun y0 => y0 = true) := by
  unfold V14
  obtain ⟨h1, h2⟩ := comp_okC s
  obtain ⟨h3, h4⟩ := comp_nr s
  refine ⟨fun _ => decide_eq_true rfl, fun h => ⟨by omega, by omega, by omega, h2, ?_⟩⟩
  exact decide_eq_true ⟨⟨⟨sameC_iff.2 rfl, h3⟩, h4⟩, rfl⟩
def c14 (a : List (SV U)) : Option (Q1 U) := match a with | [.str s] => some ⟨[], [], blB true⟩ | _ => none
set_option maxRecDepth 100000 in
theorem c14_ok (args : List (SV U)) (q : Q1 U) (h : c14 args = some q) (ho : allP q.ob) : LendOK N38 14 args ⟨q.ob, q.hy, q.v, []⟩ := by
  unfold c14 at h
  split at h
  · rename_i s
    cases h
    exact lend1 N38_ok (inlN_ok N38_ok an14 2) Tryd.func14 (k := .bool) (x := true) trivial (V14_ok (p14 s )) 0
  · cases h
end Go.Proofs.YtadgfmmmdhlljaaDoor
