/-
  A small program logic of my own over the kit's 'Code.wp': frames as functions, one rule for each operation, no simp in the walk.
-/
import Derived.Tactics
import Derived.Orders
namespace Go.Wk
open Go

/-! ### Frames -/
abbrev Fr := Nat → Value
def upd (f : Fr) (d : Nat) (v : Value) : Fr := fun t => bif Nat.beq t d then v else f t
theorem upd_eq (f : Fr) (d : Nat) (v : Value) (t : Nat) : upd f d v t = if t = d then v else f t := by
  unfold upd
  by_cases h : t = d
  · subst h; simp
  · have hb : Nat.beq t d = false := by cases hc : Nat.beq t d with | false => rfl | true => exact absurd (Nat.eq_of_beq_eq_true hc) h
    rw [hb, if_neg h]; rfl
theorem beq_ne {t d : Nat} (h : t ≠ d) : Nat.beq t d = false := by cases hc : Nat.beq t d with | false => rfl | true => exact absurd (Nat.eq_of_beq_eq_true hc) h
def ev (f : Fr) : Operand → Value
  | .tmp t => f t
  | .const v => v
  | .global g => .pointer (some ⟨g, 0, none⟩)
  | .func k => .func (.func k) #[] #[]

structure Is (a : Act) (f : Fr) (n : Nat) : Prop where
  size : a.tmps.size = n
  get : ∀ t, a.tmps.getD t undef = f t
  defers : a.defers = []

theorem Is.eval {a : Act} {f : Fr} {n : Nat} (h : Is a f n) : a.eval = ev f := by
  funext x
  cases x with
  | tmp t => exact h.get t
  | _ => rfl

theorem Is.put {a : Act} {f : Fr} {n : Nat} (h : Is a f n) {d : Nat} (hd : d < n) (v : Value) : Is (a.put (some d) v) (upd f d v) n := by
  refine ⟨by simp [Act.put, h.size], fun t => ?_, h.defers⟩
  rw [upd_eq]
  have hs := h.size
  by_cases ht : t = d
  · subst ht; simp [Act.put, hs, hd]
  · rw [if_neg ht, ← h.get t]
    simp [Act.put, Ne.symm ht]

theorem Is.put_none {a : Act} {f : Fr} {n : Nat} (h : Is a f n) (v : Value) : Is (a.put none v) f n := h

/-! ### Worlds but for the count of draws -/
def Sim (w w1 : World) : Prop := ∃ k, w1 = { w with drawn := k }
theorem Sim.refl (w : World) : Sim w w := ⟨w.drawn, rfl⟩
theorem Sim.symm {a b : World} (h : Sim a b) : Sim b a := by obtain ⟨k, rfl⟩ := h; exact ⟨a.drawn, rfl⟩
theorem Sim.trans {a b c : World} (h : Sim a b) (k : Sim b c) : Sim a c := by obtain ⟨_, rfl⟩ := h; obtain ⟨m, rfl⟩ := k; exact ⟨m, rfl⟩
theorem Sim.heap {a b : World} (h : Sim a b) : b.heap = a.heap := by obtain ⟨_, rfl⟩ := h; rfl
theorem Sim.drawn (a : World) (k : Nat) : Sim a { a with drawn := k } := ⟨k, rfl⟩

/-! ### Code -/
def lift (n : Nat) (Q : Exit → Fr → World → Prop) : Exit → Act → World → Prop := fun e a w1 => ∃ f w, Is a f n ∧ Sim w w1 ∧ Q e f w
def W (P : Program) (n : Nat) (c : Code) (Q : Exit → Fr → World → Prop) (f : Fr) (w : World) : Prop := ∀ a w1, Is a f n → Sim w w1 → c.wp P (lift n Q) a w1

section
variable {P : Program} {n : Nat} {Q : Exit → Fr → World → Prop} {f : Fr} {w : World}

theorem W_mono {c : Code} {Q' : Exit → Fr → World → Prop} (h : W P n c Q f w) (hq : ∀ e f w, Q e f w → Q' e f w) : W P n c Q' f w :=
  fun a w1 ha hs => Go.wp_mono (h a w1 ha hs) fun _ _ _ ⟨g, v, hg, hv, q⟩ => ⟨g, v, hg, hv, hq _ _ _ q⟩
theorem W_skip (h : Q .normal f w) : W P n .skip Q f w := fun _ _ ha hs => wp_skip ⟨f, w, ha, hs, h⟩
theorem W_ret (h : Q .ret f w) : W P n .ret Q f w := fun _ _ ha hs => wp_ret ⟨f, w, ha, hs, h⟩
theorem W_exit {i : Nat} (h : Q (.exit i) f w) : W P n (.exit i) Q f w := fun _ _ ha hs => wp_exit ⟨f, w, ha, hs, h⟩
def thenQ (next : Fr → World → Prop) (Q : Exit → Fr → World → Prop) : Exit → Fr → World → Prop
  | .normal, f, w => next f w
  | e, f, w => Q e f w
theorem W_seq {x y : Code} (h : W P n x (thenQ (W P n y Q) Q) f w) : W P n (.seq x y) Q f w := fun a w1 ha hs =>
  wp_seq (Go.wp_mono (h a w1 ha hs) fun e a' w' ⟨g, v, hg, hv, q⟩ => by
    cases e <;> first | exact q a' w' hg hv | exact ⟨g, v, hg, hv, q⟩)
/-- A cut: what holds between two pieces of code. -/
theorem W_cut {x y : Code} (I : Fr → World → Prop) (h : W P n x (thenQ I Q) f w) (k : ∀ f w, I f w → W P n y Q f w) : W P n (.seq x y) Q f w :=
  W_seq (W_mono h fun e f w q => by cases e <;> first | exact k _ _ q | exact q)
theorem W_cond {c : Operand} {x y : Code} {b : Bool} (hc : ev f c = .bool b) (ht : b = true → W P n x Q f w) (hf : b = false → W P n y Q f w) : W P n (.cond c x y) Q f w := fun a w1 ha hs =>
  wp_cond_split (t := b) (by rw [ha.eval]; exact hc) (fun h => ht h a w1 ha hs) (fun h => hf h a w1 ha hs)
theorem W_cond_true {c : Operand} {x y : Code} (hc : ev f c = .bool true) (h : W P n x Q f w) : W P n (.cond c x y) Q f w := W_cond hc (fun _ => h) (fun h => by cases h)
theorem W_cond_false {c : Operand} {x y : Code} (hc : ev f c = .bool false) (h : W P n y Q f w) : W P n (.cond c x y) Q f w := W_cond hc (fun h => by cases h) (fun _ => h)
def blockQ (id : Nat) (Q : Exit → Fr → World → Prop) : Exit → Fr → World → Prop
  | .exit j, f, w => bif Nat.beq j id then Q .normal f w else Q (.exit j) f w
  | e, f, w => Q e f w
theorem W_block {id : Nat} {c : Code} (h : W P n c (blockQ id Q) f w) : W P n (.block id c) Q f w := fun a w1 ha hs =>
  wp_block (Go.wp_mono (h a w1 ha hs) fun e a' w' ⟨g, v, hg, hv, q⟩ => by
    cases e with
    | exit j =>
      simp only [Exit.inBlock]
      unfold blockQ at q
      by_cases hj : j = id
      · subst hj; simp only [Nat.beq_refl, cond_true] at q; rw [if_pos rfl]; exact ⟨g, v, hg, hv, q⟩
      · simp only [beq_ne hj, cond_false] at q; rw [if_neg hj]; exact ⟨g, v, hg, hv, q⟩
    | _ => exact ⟨g, v, hg, hv, q⟩)
theorem exists_min {p : Nat → Prop} (h : ∃ m, p m) : ∃ m, p m ∧ ∀ k, p k → m ≤ k := by
  obtain ⟨m, hm⟩ := h
  induction m using Nat.strongRecOn with
  | _ m ih =>
    by_cases hk : ∃ k, k < m ∧ p k
    · obtain ⟨k, hlt, hp⟩ := hk; exact ih k hlt hp
    · exact ⟨m, hm, fun k hp => Nat.le_of_not_lt fun hlt => hk ⟨k, hlt, hp⟩⟩
/-- A loop: an invariant on the frame and the world, and a measure that is a number of the invariant's own. -/
theorem W_loop {c : Code} (I : Nat → Fr → World → Prop) (m : Nat) (h0 : I m f w)
    (round : ∀ m f w, I m f w → W P n c (thenQ (fun f' w' => ∃ m', m' < m ∧ I m' f' w') Q) f w) : W P n (.loop c) Q f w := by
  intro a w1 ha hs
  classical
  let J : Act → World → Prop := fun a w1 => ∃ m f w, Is a f n ∧ Sim w w1 ∧ I m f w
  let μ : Act → World → Nat := fun a w1 => if h : ∃ m, ∃ f w, Is a f n ∧ Sim w w1 ∧ I m f w then Classical.choose (exists_min h) else 0
  refine wp_loop J μ ⟨m, f, w, ha, hs, h0⟩ ?_
  intro a w1 hJ
  have hmin : ∃ f w, Is a f n ∧ Sim w w1 ∧ I (μ a w1) f w := by
    have hex : ∃ m, ∃ f w, Is a f n ∧ Sim w w1 ∧ I m f w := hJ
    have e : μ a w1 = Classical.choose (exists_min hex) := dif_pos hex
    rw [e]; exact (Classical.choose_spec (exists_min hex)).1
  obtain ⟨f, w, hf, hw, hI⟩ := hmin
  refine Go.wp_mono (round _ f w hI a w1 hf hw) ?_
  intro e a' w' ⟨g, v, hg, hv, q⟩
  cases e with
  | normal =>
    obtain ⟨m', hlt, hI'⟩ := q
    refine ⟨⟨m', g, v, hg, hv, hI'⟩, ?_⟩
    have hex : ∃ m, ∃ f w, Is a' f n ∧ Sim w w' ∧ I m f w := ⟨m', g, v, hg, hv, hI'⟩
    have e : μ a' w' = Classical.choose (exists_min hex) := dif_pos hex
    rw [e]
    exact Nat.lt_of_le_of_lt ((Classical.choose_spec (exists_min hex)).2 m' ⟨g, v, hg, hv, hI'⟩) hlt
  | _ => exact ⟨g, v, hg, hv, q⟩
end
end Go.Wk
