/- The walks of a history's functions, printed by program. -/
import Derived.Test.YtpgegnmaophapaaW15
namespace Go.Proofs.Ytpgegnmaophapaa
open Go.Wk Classical
/-! ### Orders -/
theorem ord1 {l : List Commit} (hr : Right l) {a : Int} (ta : There l a) (h : ¬(Right l ∧ Rch l a a)) : False := h ⟨hr, rch_self ta⟩
theorem ord2 {l : List Commit} {a b : Int} (h : Right l ∧ Rch l a b) (k : a < b) : False := by have := h.2.le h.1; omega
theorem ord3 {l : List Commit} {a b c : Int} (h : Right l ∧ Rch l a b) (h' : Right l ∧ Rch l b c) (k : ¬(Right l ∧ Rch l a c)) : False := k ⟨h.1, h.2.trans h'.2⟩
theorem ord4 {l : List Commit} {a b : Int} (h : Right l ∧ Rch l a b) (k : ¬ a = b) (h' : Right l ∧ Rch l b a) : False := by
  have h1 := h.2.le h.1
  have h2 := h'.2.le h.1
  omega
theorem near_reach {l : List Commit} {a b : Int} (h : Right l ∧ Rch l a b) : NearL l a b [b] := by
  refine ⟨fun hr => ⟨by simp, fun x => ?_⟩, fun k => absurd h.1 k⟩
  have hbb := rch_self h.2.there.2
  rw [List.mem_singleton]
  constructor
  · rintro rfl
    refine ⟨⟨h.2, hbb⟩, fun m hm hx => ?_⟩
    have h1 := hm.2.le hr
    have h2 := hx.le hr
    omega
  · rintro ⟨hx, k⟩
    exact (k b ⟨h.2, hbb⟩ hx.2).symm
theorem nearP_comm {l : List Commit} {a b x : Int} : NearP l a b x ↔ NearP l b a x :=
  ⟨fun ⟨h, k⟩ => ⟨⟨h.2, h.1⟩, fun m hm hx => k m ⟨hm.2, hm.1⟩ hx⟩, fun ⟨h, k⟩ => ⟨⟨h.2, h.1⟩, fun m hm hx => k m ⟨hm.2, hm.1⟩ hx⟩⟩
theorem nearL_comm {l : List Commit} {a b : Int} {L : List Int} (h : NearL l a b L) : NearL l b a L := ⟨fun hr => (h.1 hr).congr fun _ => nearP_comm, h.2⟩
theorem near_covers {l : List Commit} (hr : Right l) {a b : Int} : ∀ (n : Nat) (k : Int), (l.length : Int) - k ≤ n → BothP l a b k → ∃ m, NearP l a b m ∧ Rch l m k := by
  intro n
  induction n with
  | zero =>
    intro k hn hk
    refine ⟨k, ⟨hk, fun m hm hx => ?_⟩, rch_self hk.1.there.2⟩
    have h1 := hx.le hr
    have h2 := hm.1.there.2.2
    omega
  | succ n ih =>
    intro k hn hk
    by_cases h : NearP l a b k
    · exact ⟨k, h, rch_self hk.1.there.2⟩
    · have h' : ∃ m, BothP l a b m ∧ Rch l m k ∧ m ≠ k := Classical.byContradiction fun hno => h ⟨hk, fun m hm hx => Classical.byContradiction fun hne => hno ⟨m, hm, hx, hne⟩⟩
      obtain ⟨m, hm, hx, hne⟩ := h'
      have h1 := hx.le hr
      obtain ⟨m', h2, h3⟩ := ih m (by omega) hm
      exact ⟨m', h2, h3.trans hx⟩
def Cov (l : List Commit) (N : List Int) (k j : Int) : Prop := ∃ i : Nat, (i : Int) < j ∧ ∃ m, N[i]? = some m ∧ Rch l m k
theorem cov0 {l : List Commit} {N : List Int} {k : Int} : false = decide (Cov l N k 0) := by symm; rw [decide_eq_false_iff_not]; rintro ⟨i, h, _⟩; omega
theorem cov_succ {l : List Commit} {N : List Int} {k j : Int} (h0 : 0 ≤ j) (hj : j.toNat < N.length) : Cov l N k (j + 1) ↔ Cov l N k j ∨ Rch l N[j.toNat] k := by
  constructor
  · rintro ⟨i, h, m, e, hm⟩
    by_cases e' : (i : Int) < j
    · exact .inl ⟨i, e', m, e, hm⟩
    · have : i = j.toNat := by omega
      subst this
      rw [List.getElem?_eq_getElem hj] at e
      cases Option.some.inj e; exact .inr hm
  · rintro (⟨i, h, m, e, hm⟩ | h)
    · exact ⟨i, by omega, m, e, hm⟩
    · exact ⟨j.toNat, by omega, _, List.getElem?_eq_getElem hj, h⟩
theorem cov_t {l : List Commit} {N : List Int} {k j : Int} {p : Bool} (s : p = decide (Cov l N k j)) (hp : p = true) (h0 : 0 ≤ j) (hj : j.toNat < N.length) : true = decide (Cov l N k (j + 1)) := by
  rw [hp] at s; symm; rw [decide_eq_true_eq, cov_succ h0 hj]; exact .inl (of_decide_eq_true s.symm)
theorem cov_f {l : List Commit} (hr : Right l) {N : List Int} {k j : Int} {p : Bool} (s : p = decide (Cov l N k j)) (hp : p = false) (h0 : 0 ≤ j) (hj : j.toNat < N.length) : decide (Right l ∧ Rch l N[j.toNat] k) = decide (Cov l N k (j + 1)) := by
  rw [hp] at s
  have := of_decide_eq_false s.symm
  rw [decide_eq_decide, cov_succ h0 hj]; simp [this, hr]
theorem cov_all {l : List Commit} (hr : Right l) {a b : Int} {N : List Int} (hN : NearL l a b N) {k j : Int} {p : Bool} (s : p = decide (Cov l N k j)) (hj : (N.length : Int) ≤ j) (h1 : Right l ∧ Rch l a k) (h2 : Right l ∧ Rch l b k) (hp : p = false) : False := by
  rw [hp] at s
  have hn := of_decide_eq_false s.symm
  obtain ⟨m, hm, hk⟩ := near_covers hr (l.length + k.natAbs) k (by omega) ⟨h1.2, h2.2⟩
  obtain ⟨i, hi, e⟩ := List.getElem_of_mem (((hN.1 hr).2 m).2 hm)
  exact hn ⟨i, by omega, m, by rw [List.getElem?_eq_getElem hi, e], hk⟩

end Go.Proofs.Ytpgegnmaophapaa
