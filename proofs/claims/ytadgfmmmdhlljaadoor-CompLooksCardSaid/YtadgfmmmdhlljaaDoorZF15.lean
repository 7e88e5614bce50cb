/- A statement and its own function. -/
import Derived.Test.YtadgfmmmdhlljaaDoorP10
set_option linter.unusedVariables false
set_option linter.unusedSimpArgs false
namespace Go.Proofs.YtadgfmmmdhlljaaDoor
open Go Go.Wk Go.Wl Go.Rx Go.Fo Go.Li Go.Co 
def an15 : Nat → Ann := fun | 15 => ⟨70, fun _ => none, fun | 5 => some ⟨[], [.unr 7]⟩ | _ => none⟩ | _ => ⟨0, fun _ => none, fun _ => none⟩
def V15 (c : Comp) (n : Str) (Q : Bool → Prop) : Prop :=
(¬decide (wgt fewP (11 : Nat) [Comp.mk c.Name c.Props c.Comps] ≤ (8000 : Int)) = true ∨ (1000 : Int) < (↑(List.length n) : Int) → Q (decide (true = true))) ∧ (¬(¬decide (wgt fewP (11 : Nat) [Comp.mk c.Name c.Props c.Comps] ≤ (8000 : Int)) = true ∨ (1000 : Int) < (↑(List.length n) : Int)) → (Comp.mk c.Name c.Props c.Comps).Props.length ≤ (100000000 : Nat) ∧ (Comp.mk c.Name c.Props c.Comps).Props.length ≤ (100000000 : Nat) ∧ ((oneP (Comp.mk c.Name c.Props c.Comps) n).snd = true → (Comp.mk c.Name c.Props c.Comps).Props.length ≤ (100000000 : Nat) ∧ ((allP_ (Comp.mk c.Name c.Props c.Comps) n).length ≤ (100000000 : Nat) ∧ ∀ (x : Prp), x ∈ allP_ (Comp.mk c.Name c.Props c.Comps) n → okP x) ∧ (sameP (allP_ (Comp.mk c.Name c.Props c.Comps) n) (allP_ (Comp.mk c.Name c.Props c.Comps) n) = true ∧ (Comp.mk c.Name c.Props c.Comps).Comps.length ≤ (100000000 : Nat)) ∧ (sameP (allP_ (Comp.mk c.Name c.Props c.Comps) n) (allP_ (Comp.mk c.Name c.Props c.Comps) n) = true ∧ (Comp.mk c.Name c.Props c.Comps).Comps.length ≤ (100000000 : Nat)) ∧ ((sameP (allP_ (Comp.mk c.Name c.Props c.Comps) n) (allP_ (Comp.mk c.Name c.Props c.Comps) n) = true → (allC_ (Comp.mk c.Name c.Props c.Comps) n).length ≤ (100000000 : Nat)) ∧ (sameP (allP_ (Comp.mk c.Name c.Props c.Comps) n) (allP_ (Comp.mk c.Name c.Props c.Comps) n) = true → ∀ (x : Comp), x ∈ allC_ (Comp.mk c.Name c.Props c.Comps) n → OkC x)) ∧ ((((sameP (allP_ (Comp.mk c.Name c.Props c.Comps) n) (allP_ (Comp.mk c.Name c.Props c.Comps) n) = true ∧ sameC (allC_ (Comp.mk c.Name c.Props c.Comps) n) (allC_ (Comp.mk c.Name c.Props c.Comps) n) = true) ∧ (True ↔ (0 : Int) < (↑(allP_ (Comp.mk c.Name c.Props c.Comps) n).length : Int))) ∧ ¬False) ∧ True) ∧ (((((sameP (allP_ (Comp.mk c.Name c.Props c.Comps) n) (allP_ (Comp.mk c.Name c.Props c.Comps) n) = true ∧ sameC (allC_ (Comp.mk c.Name c.Props c.Comps) n) (allC_ (Comp.mk c.Name c.Props c.Comps) n) = true) ∧ (True ↔ (0 : Int) < (↑(allP_ (Comp.mk c.Name c.Props c.Comps) n).length : Int))) ∧ ¬False) ∧ True → (0 : Int) ≤ (1 : Int)) ∧ ((((sameP (allP_ (Comp.mk c.Name c.Props c.Comps) n) (allP_ (Comp.mk c.Name c.Props c.Comps) n) = true ∧ sameC (allC_ (Comp.mk c.Name c.Props c.Comps) n) (allC_ (Comp.mk c.Name c.Props c.Comps) n) = true) ∧ (True ↔ (0 : Int) < (↑(allP_ (Comp.mk c.Name c.Props c.Comps) n).length : Int))) ∧ ¬False) ∧ True → (1 : Int) ≤ (↑(allP_ (Comp.mk c.Name c.Props c.Comps) n).length : Int))) ∧ (((((sameP (allP_ (Comp.mk c.Name c.Props c.Comps) n) (allP_ (Comp.mk c.Name c.Props c.Comps) n) = true ∧ sameC (allC_ (Comp.mk c.Name c.Props c.Comps) n) (allC_ (Comp.mk c.Name c.Props c.Comps) n) = true) ∧ (True ↔ (0 : Int) < (↑(allP_ (Comp.mk c.Name c.Props c.Comps) n).length : Int))) ∧ ¬False) ∧ True → [Prp.mk (oneP (Comp.mk c.Name c.Props c.Comps) n).fst.Group (oneP (Comp.mk c.Name c.Props c.Comps) n).fst.Name (oneP (Comp.mk c.Name c.Props c.Comps) n).fst.Params (oneP (Comp.mk c.Name c.Props c.Comps) n).fst.Value].length ≤ (100000000 : Nat)) ∧ ((((sameP (allP_ (Comp.mk c.Name c.Props c.Comps) n) (allP_ (Comp.mk c.Name c.Props c.Comps) n) = true ∧ sameC (allC_ (Comp.mk c.Name c.Props c.Comps) n) (allC_ (Comp.mk c.Name c.Props c.Comps) n) = true) ∧ (True ↔ (0 : Int) < (↑(allP_ (Comp.mk c.Name c.Props c.Comps) n).length : Int))) ∧ ¬False) ∧ True → ∀ (x : Prp), x ∈ [Prp.mk (oneP (Comp.mk c.Name c.Props c.Comps) n).fst.Group (oneP (Comp.mk c.Name c.Props c.Comps) n).fst.Name (oneP (Comp.mk c.Name c.Props c.Comps) n).fst.Params (oneP (Comp.mk c.Name c.Props c.Comps) n).fst.Value] → okP x)) ∧ Q (decide ((((sameP (allP_ (Comp.mk c.Name c.Props c.Comps) n) (allP_ (Comp.mk c.Name c.Props c.Comps) n) = true ∧ sameC (allC_ (Comp.mk c.Name c.Props c.Comps) n) (allC_ (Comp.mk c.Name c.Props c.Comps) n) = true) ∧ (True ↔ (0 : Int) < (↑(allP_ (Comp.mk c.Name c.Props c.Comps) n).length : Int))) ∧ (False ∨ True ∧ sameP [Prp.mk (oneP (Comp.mk c.Name c.Props c.Comps) n).fst.Group (oneP (Comp.mk c.Name c.Props c.Comps) n).fst.Name (oneP (Comp.mk c.Name c.Props c.Comps) n).fst.Params (oneP (Comp.mk c.Name c.Props c.Comps) n).fst.Value] (List.drop (none.getD (0 : Int)).toNat (List.take ((none.getD (0 : Int)).toNat + ((some (1 : Int)).getD (↑(allP_ (Comp.mk c.Name c.Props c.Comps) n).length : Int) - none.getD (0 : Int)).toNat) (allP_ (Comp.mk c.Name c.Props c.Comps) n))) = true)) ∧ true = true))) ∧ (¬(oneP (Comp.mk c.Name c.Props c.Comps) n).snd = true → (Comp.mk c.Name c.Props c.Comps).Props.length ≤ (100000000 : Nat) ∧ ((allP_ (Comp.mk c.Name c.Props c.Comps) n).length ≤ (100000000 : Nat) ∧ ∀ (x : Prp), x ∈ allP_ (Comp.mk c.Name c.Props c.Comps) n → okP x) ∧ (sameP (allP_ (Comp.mk c.Name c.Props c.Comps) n) (allP_ (Comp.mk c.Name c.Props c.Comps) n) = true ∧ (Comp.mk c.Name c.Props c.Comps).Comps.length ≤ (100000000 : Nat)) ∧ (sameP (allP_ (Comp.mk c.Name c.Props c.Comps) n) (allP_ (Comp.mk c.Name c.Props c.Comps) n) = true ∧ (Comp.mk c.Name c.Props c.Comps).Comps.length ≤ (100000000 : Nat)) ∧ ((sameP (allP_ (Comp.mk c.Name c.Props c.Comps) n) (allP_ (Comp.mk c.Name c.Props c.Comps) n) = true → (allC_ (Comp.mk c.Name c.Props c.Comps) n).length ≤ (100000000 : Nat)) ∧ (sameP (allP_ (Comp.mk c.Name c.Props c.Comps) n) (allP_ (Comp.mk c.Name c.Props c.Comps) n) = true → ∀ (x : Comp), x ∈ allC_ (Comp.mk c.Name c.Props c.Comps) n → OkC x)) ∧ Q (decide ((((sameP (allP_ (Comp.mk c.Name c.Props c.Comps) n) (allP_ (Comp.mk c.Name c.Props c.Comps) n) = true ∧ sameC (allC_ (Comp.mk c.Name c.Props c.Comps) n) (allC_ (Comp.mk c.Name c.Props c.Comps) n) = true) ∧ (False ↔ (0 : Int) < (↑(allP_ (Comp.mk c.Name c.Props c.Comps) n).length : Int))) ∧ (True ∧ (oneP (Comp.mk c.Name c.Props c.Comps) n).fst.Name = [] ∨ False)) ∧ true = true))))
set_option maxRecDepth 100000 in
theorem V15_ok {c : Comp} {n : Str} {Q : Bool → Prop} (h : V15 c n Q) : vcFun (E := N38) (inlN an15 2) (an15 15) Tryd.f15 [.agg [.str c.Name, .sl (N := U) 45 c.Props, .sl (N := U) 68 c.Comps], .str n] [] [] 0 (resP N38 [.bool] Q) := Eq.mp (show V15 c n Q = vcFun (E := N38) (inlN an15 2) (an15 15) Tryd.f15 [.agg [.str c.Name, .sl (N := U) 45 c.Props, .sl (N := U) 68 c.Comps], .str n] [] [] 0 (resP N38 [.bool] Q) by kernel_rfl) h
theorem few_okP {p : Prp} (h : fewP p = true) : okP p := by
  have s := few_small h
  refine ⟨by have := s.params; omega, fun x hx => by have := (s.param x hx).vals; omega⟩
theorem p15 (c : Comp) (n : Str)  : V15 c n (fun y0 => y0 = true) := by
  unfold V15
  rw [Comp.eta]
  refine ⟨fun _ => decide_eq_true rfl, fun h => ?_⟩
  have hw : wgt fewP 11 [c] ≤ 8000 := of_decide_eq_true (Classical.byContradiction fun n => h (.inl n))
  obtain ⟨_, hf⟩ := wgt_few 11 [c] hw
  obtain ⟨f1, f2, f3, f4, f5⟩ := (hf c (by simp)).out
  have l1 : (allP_ c n).length ≤ c.Props.length := List.length_filter_le _ _
  have l2 : (allC_ c n).length ≤ c.Comps.length := List.length_filter_le _ _
  have o1 : ∀ x ∈ allP_ c n, okP x := fun x hx => few_okP (f3 x (List.mem_filter.1 hx).1)
  have o2 : ∀ x ∈ allC_ c n, OkC x := fun x hx => (f5 x (List.mem_filter.1 hx).1).okC fun p => few_okP
  have s2 : sameC (allC_ c n) (allC_ c n) = true := sameC_iff.2 rfl
  have s1 : ∀ l : List Prp, sameP l l = true := fun l => decide_eq_true rfl
  refine ⟨by omega, by omega, fun hi => ?_, fun hi => ?_⟩
  · cases hl : allP_ c n with
    | nil => unfold oneP at hi; rw [hl] at hi; cases hi
    | cons p l =>
      have e : oneP c n = (p, true) := by unfold oneP; rw [hl]
      rw [hl] at l1 o1
      rw [e]
      have pos : 0 < ((p :: l).length : Int) := by simp only [List.length_cons]; omega
      refine ⟨by omega, ⟨by omega, o1⟩, ⟨s1 _, by omega⟩, ⟨s1 _, by omega⟩, ⟨fun _ => by omega, fun _ => o2⟩, ⟨⟨⟨⟨s1 _, s2⟩, ⟨fun _ => pos, fun _ => trivial⟩⟩, id⟩, trivial⟩, ⟨fun _ => by omega, fun _ => by omega⟩, ⟨fun _ => by simp only [List.length_cons, List.length_nil]; omega, fun _ x hx => ?_⟩, ?_⟩
      · exact o1 x (by rw [List.mem_singleton.1 hx]; exact List.mem_cons_self ..)
      · exact decide_eq_true ⟨⟨⟨⟨s1 _, s2⟩, ⟨fun _ => pos, fun _ => trivial⟩⟩, .inr ⟨trivial, s1 [p]⟩⟩, rfl⟩
  · cases hl : allP_ c n with
    | cons p l => exact absurd (by unfold oneP; rw [hl]) hi
    | nil =>
      have e : oneP c n = (prp0, false) := by unfold oneP; rw [hl]
      rw [e]
      refine ⟨by omega, ⟨by decide, fun x hx => (by cases hx)⟩, ⟨s1 _, by omega⟩, ⟨s1 _, by omega⟩, ⟨fun _ => by omega, fun _ => o2⟩, ?_⟩
      exact decide_eq_true ⟨⟨⟨⟨s1 _, s2⟩, ⟨False.elim, fun h => absurd h (by decide)⟩⟩, .inl ⟨trivial, rfl⟩⟩, rfl⟩
def c15s (c : Comp) (n : Str) : Q1 U := ⟨[], [], blB true⟩
def c15 (a : List (SV U)) : Option (Q1 U) := match a with | [.agg [.str c0, .sl 45 c1, .sl 68 c2], .str n] => some (c15s (⟨c0, c1, c2⟩) n) | _ => none
set_option maxRecDepth 100000 in
theorem c15_ok (args : List (SV U)) (q : Q1 U) (h : c15 args = some q) (ho : allP q.ob) : LendOK N38 15 args ⟨q.ob, q.hy, q.v, []⟩ := by
  unfold c15 at h
  split at h
  · rename_i c0 c1 c2 n
    cases h
    exact lend1 N38_ok (inlN_ok N38_ok an15 2) Tryd.func15 (k := .bool) trivial (V15_ok (p15 (⟨c0, c1, c2⟩) n )) 0
  · cases h
end Go.Proofs.YtadgfmmmdhlljaaDoor
