/- append to an empty literal: nothing that was there turns. -/
import Derived.Test.YtpgegnmaophapaaWkT
namespace Go.Wk
open Go

section
variable {P : Program} {α : Type} {r : Rep α} {M : List Nat} {w : World} {T E : TypeId} {info : TypeInfo} {zv : Value}
theorem append_run0 {xs : List α} {xv : Value} {b : Nat} (hT : ∀ w, (underlying T).run P w = .ok (.slice E) w) (hI : ∀ w, (typeInfo E).run P w = .ok info w) (hE : ∀ w, (sizeOf E).run P w = .ok r.sz w) (hz : ∀ w, (zeroValue E).run P w = .ok zv w) (hzs : zv.cells.size = r.sz)
    {T' : TypeId} (ho : Own w b T' []) (hbM : b ∉ M) (hx : (rSlice r).rd M w [xv] xs) (hb : xs.length * info.bytes ≤ 140737488355328) (hb1 : 1 ≤ info.bytes) (hM : ∀ b ∈ M, b < w.heap.size) :
    ∀ w1, Sim w w1 → ∃ v' w2 w', (Builtin.append_ #[T, T] T #[.slice (some ⟨b, 0, none⟩) 0 0, xv]).run P w1 = .ok v' w2 ∧ Sim w' w2 ∧ ∃ bs', Acc r M w' v' xs bs' ∧ Ext [] w w' ∧ (∀ x ∈ bs', x = b ∨ w.heap.size ≤ x) := by
  intro w1 hs
  obtain ⟨B, xcap, rfl⟩ := rSlice_val hx
  by_cases h0 : xs = []
  · subst h0
    obtain ⟨kk, rfl⟩ := hs
    refine ⟨.slice (some ⟨b, 0, none⟩) 0 0, { w with drawn := kk }, w, ?_, ⟨kk, rfl⟩, [b], .inr ⟨b, 0, [], T', rfl, rfl, ho, by simp, by simp, hbM, fun i hi => by simp at hi⟩, Ext.refl _ _, by simp⟩
    have hnew : (Builtin.firstCells r.sz ([] : List α).length (.slice B ([] : List α).length xcap)).run P { w with drawn := kk } = .ok ([] : List (List Value)).flatten.toArray { w with drawn := kk } := firstCells_run rfl (by simp) (.inl (by simp))
    simp only [Builtin.append_, hT, hE, Builtin.lenOf, Sem.run_bind, Result.andThen_ok, Sem.run_pure, List.getElem?_toArray, List.getElem?_cons_zero, List.getElem?_cons_succ, Bool.false_eq_true, if_false, Bool.not_false, if_true]
    rw [if_pos (by simp)]
    simp only [Sem.run_bind, hnew, Result.andThen_ok, Sem.run_pure]
    rfl
  · have hpos : 0 < xs.length := List.length_pos_iff.2 h0
    have hrun := append_run (P := P) (r := r) (M := M) (l := []) (bs := []) (v := .slice none 0 0) hT hI hE hz hzs Acc.nil (by simpa using hx) (by simpa using hb) hb1 hM w1 hs
    obtain ⟨v', w2, w', hr, hs', bs', h1, h2, h3⟩ := hrun
    refine ⟨v', w2, w', ?_, hs', bs', by simpa using h1, h2, fun x hx => .inr ((h3 x hx).elim (fun h => by cases h) id)⟩
    rw [← hr]
    have hfit : ¬ (0 + xs.length ≤ 0) := by omega
    have f1 : ∀ w, (Builtin.firstCells r.sz 0 (.slice (some ⟨b, 0, none⟩) 0 0)).run P w = .ok #[] w := fun w => by
      have := firstCells_run (P := P) (w := w) (r := r) (cs := ([] : List (List Value))) (k := 0) (A := some ⟨b, 0, none⟩) (cap := 0) rfl (by simp) (.inl (by simp))
      simpa using this
    have f2 : ∀ w, (Builtin.firstCells r.sz 0 (.slice none 0 0)).run P w = .ok #[] w := fun w => by
      have := firstCells_run (P := P) (w := w) (r := r) (cs := ([] : List (List Value))) (k := 0) (A := none) (cap := 0) rfl (by simp) (.inl (by simp))
      simpa using this
    simp only [Builtin.append_, hT, hE, Builtin.lenOf, Sem.run_bind, Result.andThen_ok, Sem.run_pure, List.getElem?_toArray, List.getElem?_cons_zero, List.getElem?_cons_succ, Bool.false_eq_true, if_false, Bool.not_false, if_true, if_neg hfit]
    have hns := nextslicecap_le (need := 0 + xs.length) (cap := 0) (by omega)
    have c2 : ¬ (Builtin.nextslicecap (0 + xs.length) 0 * info.bytes > 2 ^ 48) := by
      have := Nat.mul_le_mul_right info.bytes hns
      have e : (2 : Nat) ^ 48 = 281474976710656 := by decide
      rw [Nat.mul_assoc] at this; simp only [Nat.zero_add] at this ⊢; omega
    have c1 : ¬ (((0 + xs.length : Nat) : Int) > IntKind.i64.max ∧ (False ∨ info.bytes = 0)) := by
      rintro ⟨_, h | h⟩
      · exact h
      · omega
    simp only [hI, Result.andThen_ok, if_neg c1, if_neg c2, Sem.run_bind, f1, f2]
variable {n : Nat} {ops : List Oper} {Q : Exit → Fr → World → Prop} {rest : List Oper} {f : Fr} {d : Nat} {ty : TypeId} {pos : String} {after : Array Edge} {x y : Operand}
theorem S_append0 {xs : List α} {b : Nat} (hT : ∀ w, (underlying T).run P w = .ok (.slice E) w) (hI : ∀ w, (typeInfo E).run P w = .ok info w) (hE : ∀ w, (sizeOf E).run P w = .ok r.sz w) (hz : ∀ w, (zeroValue E).run P w = .ok zv w) (hzs : zv.cells.size = r.sz)
    (hv : ev f x = .slice (some ⟨b, 0, none⟩) 0 0) {T' : TypeId} (ho : Own w b T' []) (hbM : b ∉ M) (hx : (rSlice r).rd M w [ev f y] xs) (hb : xs.length * info.bytes ≤ 140737488355328) (hb1 : 1 ≤ info.bytes) (hM : ∀ b ∈ M, b < w.heap.size) (hn : Nat.blt d n = true)
    (K : ∀ v w' bs', Acc r M w' v xs bs' → Ext [] w w' → (∀ x ∈ bs', x = b ∨ w.heap.size ≤ x) → WL P false n ops Q rest (upd f d v) w') :
    WL P false n ops Q (⟨some d, .call ⟨.builtin .append, #[x, y], #[T, T]⟩, T, pos, after, none⟩ :: rest) f w :=
  WL_valW rfl rfl hn fun w1 hs => by
    obtain ⟨v', w2, w', hr, hs', bs', h1, h2, h3⟩ := append_run0 hT hI hE hz hzs ho hbM hx hb hb1 hM w1 hs
    refine ⟨v', w2, w', ?_, hs', K v' w' bs' h1 h2 h3⟩
    simp only [execOp, resolve, invoke, builtin, Sem.run_bind, Sem.run_pure, Result.andThen_ok]
    have : (#[x, y] : Array Operand).map (ev f) = #[ev f x, ev f y] := by simp
    rw [this, hv, hr]; rfl
end
end Go.Wk
