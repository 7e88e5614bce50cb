/- The walks of a history's functions, printed by program. -/
import Derived.Test.YtpgegnmaophapaaT3
namespace Go.Proofs.Ytpgegnmaophapaa
open Go.Wk Classical
/-! ### A history that grows -/
section
variable {l : List Commit} {c : Commit}
theorem there_old {a : Int} (h : There l a) : There (l ++ [c]) a := ⟨h.1, by have := h.2; rw [List.length_append, List.length_singleton]; omega⟩
theorem pars_old {a : Int} (h : There l a) : pars (l ++ [c]) a = pars l a := by
  unfold pars
  rw [List.getElem?_append_left (by obtain ⟨h1, h2⟩ := h; omega)]
theorem pars_new : pars (l ++ [c]) (l.length + 1) = c.Parents := by
  unfold pars
  rw [show ((l.length : Int) + 1 - 1).toNat = l.length by omega, List.getElem?_append_right (Nat.le_refl _)]; simp
theorem rch_up {a b : Int} (h : Rch l a b) : Rch (l ++ [c]) a b := by
  induction h with
  | refl h => exact .refl (there_old h)
  | step h hp _ ih => exact .step (there_old h) (by rw [pars_old h]; exact hp) ih
theorem rch_down (hr : Right l) {a b : Int} (h : Rch (l ++ [c]) a b) : There l a → Rch l a b := by
  induction h with
  | refl _ => exact fun h => .refl h
  | step _ hp _ ih => intro ha; rw [pars_old ha] at hp; exact .step ha hp (ih (par_there hr ha hp))
theorem rch_old (hr : Right l) {a b : Int} (ha : There l a) : Rch (l ++ [c]) a b ↔ Rch l a b := ⟨fun h => rch_down hr h ha, rch_up⟩
theorem reach_old (hr : Right l) (hm : Right (l ++ [c])) {a b : Int} (ha : There l a) : decide (Right (l ++ [c]) ∧ Rch (l ++ [c]) a b) = decide (Right l ∧ Rch l a b) := by
  rw [decide_eq_decide, rch_old hr ha]; exact ⟨fun h => ⟨hr, h.2⟩, fun h => ⟨hm, h.2⟩⟩
theorem nearP_old (hr : Right l) {a b x : Int} (ha : There l a) (hb : There l b) : NearP (l ++ [c]) a b x ↔ NearP l a b x := by
  unfold NearP BothP
  constructor
  · rintro ⟨⟨h1, h2⟩, k⟩
    refine ⟨⟨(rch_old hr ha).1 h1, (rch_old hr hb).1 h2⟩, fun m hm hx => k m ⟨rch_up hm.1, rch_up hm.2⟩ (rch_up hx)⟩
  · rintro ⟨⟨h1, h2⟩, k⟩
    refine ⟨⟨rch_up h1, rch_up h2⟩, fun m hm hx => ?_⟩
    have h3 := (rch_old hr ha).1 hm.1
    exact k m ⟨h3, (rch_old hr hb).1 hm.2⟩ ((rch_old hr h3.there.2).1 hx)
theorem nearL_old (hr : Right l) (hm : Right (l ++ [c])) {a b : Int} (ha : There l a) (hb : There l b) {L L' : List Int} (h : NearL (l ++ [c]) a b L) (h' : NearL l a b L') : L = L' :=
  rise_unique ((h.1 hm).congr fun _ => nearP_old hr ha hb) (h'.1 hr)
theorem nxt_old (hr : Right l) {to a : Int} (ha : There l a) : nxt (l ++ [c]) to a = nxt l to a := by
  unfold nxt
  rw [pars_old ha]
  have : ∀ ps : List Int, (∀ p ∈ ps, There l p) → (ps.find? fun p => decide (Rch (l ++ [c]) p to)) = ps.find? fun p => decide (Rch l p to) := by
    intro ps
    induction ps with
    | nil => intro _; rfl
    | cons p r ih =>
      intro h
      have e : decide (Rch (l ++ [c]) p to) = decide (Rch l p to) := by rw [decide_eq_decide]; exact rch_old hr (h p (by simp))
      rw [List.find?_cons, List.find?_cons, e, ih fun q hq => h q (by simp [hq])]
  exact this _ fun p hp => par_there hr ha hp
theorem way_old (hr : Right l) {to a : Int} {L : List Int} (h : Way (l ++ [c]) to a L) : There l a → Way l to a L := by
  induction h with
  | stop => exact fun _ => .stop
  | step hn hp _ ih =>
    intro ha
    rw [nxt_old hr ha] at hp
    exact .step hn hp (ih (par_there hr ha (List.mem_of_find?_eq_some hp)))
theorem pathL_old (hr : Right l) (hm : Right (l ++ [c])) {a to : Int} (ha : There l a) {L L' : List Int} (h : PathL (l ++ [c]) a to L) (h' : PathL l a to L') : L = L' := by
  by_cases hk : Rch l a to
  · exact way_unique (way_old hr (h.1 ⟨hm, rch_up hk⟩) ha) (h'.1 ⟨hr, hk⟩)
  · rw [h.2 (fun k => hk ((rch_old hr ha).1 k.2)), h'.2 fun k => hk k.2]
theorem ancL_grow (hr : Right l) (hm : Right (l ++ [c])) (hp : ∀ p ∈ c.Parents, There l p) {L L' : List Int} (h : AncL (l ++ [c]) [(l.length : Int) + 1] L) (h' : AncL l c.Parents L') : L = L' ++ [(l.length : Int) + 1] := by
  refine rise_unique (h.1 hm) (rise_add (h'.1 hr) (fun x hx => ?_) fun x => ?_)
  · obtain ⟨p, _, hx⟩ := hx; have := hx.there.2.2; omega
  · simp only [List.mem_singleton, exists_eq_left]
    rw [rch_iff, pars_new]
    constructor
    · rintro ⟨_, e | ⟨p, hpp, hx⟩⟩
      · exact .inr e
      · exact .inl ⟨p, hpp, (rch_old hr (hp p hpp)).1 hx⟩
    · rintro (⟨p, hpp, hx⟩ | e)
      · exact ⟨⟨by omega, by rw [List.length_append, List.length_singleton]; omega⟩, .inr ⟨p, hpp, rch_up hx⟩⟩
      · exact ⟨⟨by omega, by rw [List.length_append, List.length_singleton]; omega⟩, .inl e⟩
theorem head_grow (hm : Right (l ++ [c])) {H : List Int} (h : HeadL (l ++ [c]) H) {i j : Nat} (hi : i < H.length) (hj : j < c.Parents.length) (e : H[i] = c.Parents[j]) : False := by
  have := ((h.1 hm).2 _).1 (List.getElem_mem hi)
  have k := this.2 l.length (by simp)
  simp only [List.getElem_append_right (Nat.le_refl _), Nat.sub_self, List.getElem_singleton] at k
  exact k (by rw [e]; exact List.getElem_mem hj)
end
/-- The parents that are gathered: those ahead of p, and perhaps p. -/
def RiseQ (p : Int) (ps : List Int) : Prop := (RiseP p ps ∧ (ps.length : Int) < p) ∨ ∃ qs, ps = qs ++ [p] ∧ RiseP p qs ∧ (qs.length : Int) < p
theorem riseQ_in {p : Int} {ps : List Int} (h : RiseP p ps) (hl : (ps.length : Int) < p) : RiseQ p ps := .inl ⟨h, hl⟩
theorem riseQ_len {p : Int} {ps : List Int} (h : RiseQ p ps) : (ps.length : Int) ≤ p := by
  rcases h with ⟨_, h⟩ | ⟨qs, rfl, _, h⟩
  · omega
  · rw [List.length_append, List.length_singleton]; omega
theorem riseQ_out {p : Int} {ps : List Int} (hp : 1 ≤ p) (h : RiseQ p ps) : RiseP (p + 1) ps := by
  rcases h with ⟨h, _⟩ | ⟨qs, rfl, h, _⟩
  · exact riseP_skip h
  · exact riseP_add h hp
theorem riseQ_add0 {p : Int} {ps : List Int} (h : RiseQ p ps) (hl : (ps.length : Int) = 0) (hp : 1 ≤ p) : RiseQ p (ps ++ [p]) := by
  have : ps = [] := List.eq_nil_of_length_eq_zero (by omega)
  subst this
  exact .inr ⟨[], rfl, riseP_nil, by simp; omega⟩
theorem riseQ_add {p : Int} {ps : List Int} (h : RiseQ p ps) {i : Nat} (hi : i = ps.length - 1) (hil : i < ps.length) (hn : ¬ ps[i] = p) : RiseQ p (ps ++ [p]) := by
  rcases h with ⟨h, hl⟩ | ⟨qs, rfl, h, hl⟩
  · exact .inr ⟨ps, rfl, h, hl⟩
  · subst hi; exact absurd (by simp) hn
theorem pw_len : ∀ (L : List Int) (lo n : Int), L.Pairwise (· < ·) → (∀ x ∈ L, lo < x ∧ x ≤ n) → lo ≤ n → lo + L.length ≤ n := by
  intro L
  induction L with
  | nil => intro lo n _ _ h; simpa using h
  | cons a r ih =>
    intro lo n hp hb hle
    have ⟨h1, h2⟩ := List.pairwise_cons.1 hp
    have ⟨b1, b2⟩ := hb a (by simp)
    have := ih a n h2 (fun x hx => ⟨h1 x hx, (hb x (by simp [hx])).2⟩) b2
    simp only [List.length_cons]
    omega
theorem ancL_len {l : List Commit} (hr : Right l) {ids L : List Int} (h : AncL l ids L) : (L.length : Int) ≤ l.length := by
  have hL := h.1 hr
  have := pw_len L 0 l.length hL.1 (fun x hx => by
    obtain ⟨a, _, hx⟩ := (hL.2 x).1 hx
    have := hx.there.2; exact ⟨by have := this.1; omega, this.2⟩) (by omega)
  omega

end Go.Proofs.Ytpgegnmaophapaa
