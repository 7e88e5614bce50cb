/- A region that draws its order and only reads: its operations one behind the other, as if it did not draw. -/
import Derived.Test.YtdgcgifigkfeaaaWkE
namespace Go.Wk
open Go

def maskOf (acc : List Nat) (o : Oper) : Nat := o.after.toList.foldl (fun s e => bif Region.binds .any e then (s ||| (1 <<< e.on)) ||| acc.getD e.on 0 else s) 0
def masksGo : List Oper → List Nat → List Nat
  | [], acc => acc
  | o :: r, acc => masksGo r (acc ++ [maskOf acc o])
def masks (l : List Oper) : List Nat := masksGo l []
def dstsOk : List Oper → List Nat → Bool
  | [], _ => true
  | o :: r, seen => match o.dst with | some d => !seen.contains d && dstsOk r (d :: seen) | none => false
def slotOk (ms : List Nat) (i t : Nat) : List Oper → Nat → Bool
  | [], _ => true
  | o :: r, j => (match o.dst with | some d => !Nat.beq d t || (Nat.blt j i && (ms.getD i 0).testBit j) || (Nat.blt i j && (ms.getD j 0).testBit i) | none => true) && slotOk ms i t r (j + 1)
def readsOk (l : List Oper) (ms : List Nat) : List Oper → Nat → Bool
  | [], _ => true
  | o :: r, i => (reads l o).all (fun t => slotOk ms i t l 0) && !isSelect o && readsOk l ms r (i + 1)
def drawOk (l : List Oper) : Bool := afterOk l && dstsOk l [] && readsOk l (masks l) l 0

inductive Dep (l : List Oper) : Nat → Nat → Prop
  | one {i : Nat} {o : Oper} {e : Edge} : l[i]? = some o → e ∈ o.after → Region.binds .any e = true → Dep l i e.on
  | trans {i k j : Nat} : Dep l i k → Dep l k j → Dep l i j

theorem fold_bits {l : List Oper} {i : Nat} {o : Oper} (ho : l[i]? = some o) {acc : List Nat} (hacc : ∀ k j, (acc.getD k 0).testBit j = true → Dep l k j) :
    ∀ (es : List Edge) (s : Nat), (∀ e ∈ es, e ∈ o.after) → (∀ j, s.testBit j = true → Dep l i j) → ∀ j, (es.foldl (fun s e => bif Region.binds .any e then (s ||| (1 <<< e.on)) ||| acc.getD e.on 0 else s) s).testBit j = true → Dep l i j := by
  intro es
  induction es with
  | nil => intro s _ hs j h; exact hs j h
  | cons e r ih =>
    intro s he hs j h
    refine ih _ (fun e' h' => he e' (by simp [h'])) ?_ j h
    intro j hj
    cases hb : Region.binds .any e with
    | false => simp only [hb, cond_false] at hj; exact hs j hj
    | true =>
      simp only [hb, cond_true, Nat.testBit_or, Bool.or_eq_true] at hj
      have hd : Dep l i e.on := .one ho (he e (by simp)) hb
      rcases hj with (hj | hj) | hj
      · exact hs j hj
      · rw [Nat.one_shiftLeft, Nat.testBit_two_pow] at hj
        have : e.on = j := by simpa using hj
        exact this ▸ hd
      · exact .trans hd (hacc _ _ hj)
theorem masksGo_dep {l : List Oper} : ∀ (r : List Oper) (acc : List Nat), (∀ k, r[k]? = l[acc.length + k]?) → (∀ k j, (acc.getD k 0).testBit j = true → Dep l k j) → ∀ k j, ((masksGo r acc).getD k 0).testBit j = true → Dep l k j := by
  intro r
  induction r with
  | nil => intro acc _ h; exact h
  | cons o r ih =>
    intro acc hr hacc
    refine ih (acc ++ [maskOf acc o]) (fun k => ?_) ?_
    · have := hr (k + 1); simp at this ⊢; rw [this]; congr 1; omega
    · intro k j h
      by_cases hk : k < acc.length
      · refine hacc k j ?_; simpa [List.getD_eq_getElem?_getD, List.getElem?_append_left hk] using h
      · by_cases hk' : k = acc.length
        · subst hk'
          have ho : l[acc.length]? = some o := by have := hr 0; simpa using this.symm
          refine fold_bits ho hacc o.after.toList 0 (fun e he => by simpa using he) (by simp) j ?_
          simpa [List.getD_eq_getElem?_getD, maskOf] using h
        · have : (acc ++ [maskOf acc o])[k]? = none := by simp; omega
          rw [List.getD_eq_getElem?_getD, this] at h; simp at h
theorem masks_dep {l : List Oper} (k j : Nat) (h : ((masks l).getD k 0).testBit j = true) : Dep l k j :=
  masksGo_dep l [] (by simp) (by simp) k j h

def seqF : List Oper → List Value → Fr → Nat → Fr
  | o :: l, v :: vs, f, i + 1 => seqF l vs (putF f o.dst v) i
  | _, _, f, _ => f

section
variable {P : Program} {n : Nat} {Q : Exit → Fr → World → Prop}
theorem QL_vals {ops : List Oper} {w : World} : ∀ {l : List Oper} {f : Fr}, QL P n ops Q l f w → ∃ vs : List Value, vs.length = l.length ∧
    (∀ i o, l[i]? = some o → ∃ d b v, o.dst = some d ∧ d < n ∧ vs[i]? = some v ∧ Wanted ops n (seqF l vs f i) o.guard b ∧ (b = true → RunQ P o (seqF l vs f i) w v) ∧ (b = false → v = undef)) ∧ Q .normal (seqF l vs f l.length) w := by
  intro l
  induction l with
  | nil => intro f h; exact ⟨[], rfl, by simp, h⟩
  | cons o r ih =>
    intro f h
    obtain ⟨d, b, v, hd, hn, hw, hr, hu, k⟩ := h
    obtain ⟨vs, hl, hs, hq⟩ := ih k
    refine ⟨v :: vs, by simp [hl], fun i o' ho' => ?_, by simpa [seqF, putF, hd] using hq⟩
    cases i with
    | zero => simp at ho'; subst ho'; exact ⟨d, b, v, hd, hn, rfl, hw, hr, hu⟩
    | succ i =>
      simp at ho'
      obtain ⟨d', b', v', h1, h2, h3, h4, h5, h6⟩ := hs i o' ho'
      exact ⟨d', b', v', h1, h2, by simpa using h3, by simpa [seqF, putF, hd] using h4, by simpa [seqF, putF, hd] using h5, h6⟩

theorem dstsOk_all : ∀ {l : List Oper} {seen : List Nat}, dstsOk l seen = true → (∀ (i : Nat) (o : Oper), l[i]? = some o → ∃ d, o.dst = some d ∧ d ∉ seen) ∧ (∀ (i j t : Nat), dstAt l i = some t → dstAt l j = some t → i = j) := by
  intro l
  induction l with
  | nil => intro seen _; exact ⟨fun i o h => by simp at h, fun i j t h => by simp [dstAt] at h⟩
  | cons o r ih =>
    intro seen h
    unfold dstsOk at h
    cases hd : o.dst with
    | none => rw [hd] at h; cases h
    | some d =>
      rw [hd] at h
      simp at h
      obtain ⟨h1, h2⟩ := ih h.2
      refine ⟨fun i o' ho' => ?_, fun i j t hi hj => ?_⟩
      · cases i with
        | zero => simp at ho'; subst ho'; exact ⟨d, hd, h.1⟩
        | succ i => simp at ho'; obtain ⟨d', e1, e2⟩ := h1 i o' ho'; exact ⟨d', e1, fun hm => e2 (by simp [hm])⟩
      · cases i with
        | zero => cases j with
          | zero => rfl
          | succ j =>
            exfalso
            simp only [dstAt, hd] at hi hj
            cases hi
            obtain ⟨o', ho', hdo⟩ := dstAt_lt hj
            obtain ⟨d', e1, e2⟩ := h1 j o' ho'
            rw [hdo] at e1; cases e1; simp at e2
        | succ i => cases j with
          | zero =>
            exfalso
            simp only [dstAt, hd] at hi hj
            cases hj
            obtain ⟨o', ho', hdo⟩ := dstAt_lt hi
            obtain ⟨d', e1, e2⟩ := h1 i o' ho'
            rw [hdo] at e1; cases e1; simp at e2
          | succ j => exact congrArg (· + 1) (h2 i j t hi hj)

theorem seqF_get : ∀ {l : List Oper} {vs : List Value} {f : Fr} {i t : Nat}, vs.length = l.length → (∀ i j t, dstAt l i = some t → dstAt l j = some t → i = j) →
    (∀ j, dstAt l j = some t → j < i → vs[j]? = some (seqF l vs f i t)) ∧ ((∀ j, dstAt l j = some t → i ≤ j) → seqF l vs f i t = f t) := by
  intro l
  induction l with
  | nil => intro vs f i t _ _; exact ⟨fun j h => by simp [dstAt] at h, fun _ => by simp [seqF]⟩
  | cons o r ih =>
    intro vs f i t hl hd
    cases vs with
    | nil => simp at hl
    | cons v vs =>
      have hd' : ∀ i j t, dstAt r i = some t → dstAt r j = some t → i = j := fun i j t h1 h2 => by have := hd (i + 1) (j + 1) t h1 h2; omega
      cases i with
      | zero => exact ⟨fun j _ h => by omega, fun _ => rfl⟩
      | succ i =>
        obtain ⟨h1, h2⟩ := ih (vs := vs) (f := putF f o.dst v) (i := i) (t := t) (by simpa using hl) hd'
        refine ⟨fun j hj hlt => ?_, fun h => ?_⟩
        · cases j with
          | zero =>
            have hn : ∀ j, dstAt r j = some t → i ≤ j := fun j hj' => by have := hd 0 (j + 1) t hj hj'; omega
            have ho : o.dst = some t := hj
            simp only [seqF]
            rw [h2 hn]
            simp [putF, ho, upd_eq]
          | succ j => simpa [seqF] using h1 j hj (by omega)
        · have ho : o.dst ≠ some t := fun e => by have := h 0 e; omega
          simp only [seqF]
          rw [h2 (fun j hj => by have := h (j + 1) hj; omega)]
          cases hdd : o.dst with
          | none => rfl
          | some u => simp only [putF]; rw [upd_eq, if_neg (fun e => ho (by rw [hdd, e]))]

theorem slotOk_spec {l : List Oper} {ms : List Nat} {i t : Nat} : ∀ {r : List Oper} {k : Nat}, (∀ x, r[x]? = l[k + x]?) → slotOk ms i t r k = true → ∀ j, k ≤ j → dstAt l j = some t → (j < i ∧ (ms.getD i 0).testBit j = true) ∨ (i < j ∧ (ms.getD j 0).testBit i = true) := by
  intro r
  induction r with
  | nil =>
    intro k hr _ j hj hd
    obtain ⟨o, ho, _⟩ := dstAt_lt hd
    have := hr (j - k)
    rw [show k + (j - k) = j by omega, ho] at this
    simp at this
  | cons o r ih =>
    intro k hr h j hj hd
    unfold slotOk at h
    rw [Bool.and_eq_true] at h
    by_cases hjk : j = k
    · subst hjk
      have ho : l[j]? = some o := by have := hr 0; simpa using this.symm
      rw [dstAt_some ho] at hd
      rw [hd] at h
      have h := h.1
      simp only [Nat.beq_refl, Bool.not_true, Bool.false_or, Bool.or_eq_true, Bool.and_eq_true] at h
      rcases h with h | h
      · exact .inl ⟨blt_lt h.1, h.2⟩
      · exact .inr ⟨blt_lt h.1, h.2⟩
    · exact ih (k := k + 1) (fun x => by have := hr (x + 1); simp at this ⊢; rw [this]; congr 1; omega) h.2 j (by omega) hd
theorem readsOk_spec {l : List Oper} {ms : List Nat} : ∀ {r : List Oper} {k : Nat}, (∀ x, r[x]? = l[k + x]?) → readsOk l ms r k = true → ∀ i o, k ≤ i → l[i]? = some o → isSelect o = false ∧ ∀ t ∈ reads l o, slotOk ms i t l 0 = true := by
  intro r
  induction r with
  | nil =>
    intro k hr _ j o hj ho
    have := hr (j - k)
    rw [show k + (j - k) = j by omega, ho] at this
    simp at this
  | cons o r ih =>
    intro k hr h j o' hj ho'
    unfold readsOk at h
    rw [Bool.and_eq_true, Bool.and_eq_true] at h
    by_cases hjk : j = k
    · subst hjk
      have ho : l[j]? = some o := by have := hr 0; simpa using this.symm
      rw [ho'] at ho; cases ho
      exact ⟨by simpa using h.1.2, by simpa using h.1.1⟩
    · exact ih (k := k + 1) (fun x => by have := hr (x + 1); simp at this ⊢; rw [this]; congr 1; omega) h.2 j o' (by omega) ho'

theorem Dep.listed {l : List Oper} {I : World → Prop} {Φ : Nat → Value → World → Prop} {f0 : Fr} {L : Array Bool} {g : Fr} {w : World} (hinv : Inv l I Φ f0 L g w) {i j : Nat} (hd : Dep l i j) :
    (∀ o, l[i]? = some o → ∀ e ∈ o.after, Region.binds .any e = true → L[e.on]? = some true) → L[j]? = some true := by
  induction hd with
  | one ho he hb => intro h; exact h _ ho _ he hb
  | trans _ _ ih1 ih2 => intro h; exact ih2 fun o ho e he hb => hinv.closed _ o (ih1 h) ho e he hb

/-- THE QUIET RULE. -/
theorem W_region_quiet {id : Nat} {l : List Oper} {f : Fr} {w : World} (hm : P.follows .mixedOrders = true) (hk : drawOk l = true) (h : WL P true n l Q l f w) : W P n (.region id l.toArray true) Q f w := by
  unfold drawOk at hk
  rw [Bool.and_eq_true, Bool.and_eq_true] at hk
  obtain ⟨⟨ha, hd⟩, hr⟩ := hk
  obtain ⟨hdst, huniq⟩ := dstsOk_all hd
  obtain ⟨vs, hl, hs, hq⟩ := QL_vals (show QL P n l Q l f w from h)
  have hget := fun i t => seqF_get (l := l) (vs := vs) (f := f) (i := i) (t := t) hl huniq
  refine W_region_inv (I := fun v => v = w) (Φ := fun i v _ => vs[i]? = some v) hm ha (fun j t hj => ?_) huniq rfl ?_ ?_
  · obtain ⟨o, ho, hdo⟩ := dstAt_lt hj
    obtain ⟨d, b, v, h1, h2, _⟩ := hs j o ho
    rw [hdo] at h1; cases h1; exact h2
  · intro i o L g w' ho hinv hLi hdeps
    have hw' : w' = w := hinv.world
    subst hw'
    obtain ⟨d, b, v, h1, h2, h3, h4, h5, h6⟩ := hs i o ho
    obtain ⟨hsel, hro⟩ := readsOk_spec (l := l) (ms := masks l) (r := l) (k := 0) (by simp) hr i o (Nat.zero_le _) ho
    have agree : ∀ t ∈ reads l o, g t = seqF l vs f i t := by
      intro t ht
      have hso := slotOk_spec (l := l) (r := l) (k := 0) (by simp) (hro t ht)
      by_cases hex : ∃ j, dstAt l j = some t
      · obtain ⟨j, hj⟩ := hex
        rcases hso j (Nat.zero_le _) hj with ⟨hlt, hb⟩ | ⟨hlt, hb⟩
        · have hL : L[j]? = some true := (masks_dep i j hb).listed hinv fun o' ho' => by rw [ho] at ho'; cases ho'; exact hdeps
          have e1 := hinv.done j t hL hj
          have e2 := (hget i t).1 j hj hlt
          rw [e1] at e2; exact Option.some.inj e2
        · have hL : ∀ k, L[k]? = some true → dstAt l k ≠ some t := fun k hk hkt => by
            have := huniq j k t hj hkt
            subst this
            have := (masks_dep j i hb).listed hinv fun o' ho' e he hbe => hinv.closed j o' hk ho' e he hbe
            rw [hLi] at this; cases this
          rw [hinv.kept t hL, (hget i t).2 fun k hk => by have := huniq j k t hj hk; omega]
      · rw [hinv.kept t fun k _ hk => hex ⟨k, hk⟩, (hget i t).2 fun k hk => absurd ⟨k, hk⟩ hex]
    have hops : ∀ x ∈ o.op.operands, ev g x = ev (seqF l vs f i) x := by
      intro x hx
      cases x with
      | tmp t =>
        refine agree t ?_
        unfold reads opTmps
        refine List.mem_append_left _ (List.mem_filterMap.2 ⟨.tmp t, by simpa using hx, rfl⟩)
      | _ => rfl
    have hrun : b = true → OpRun P o g w' (fun u w'' => w'' = w' ∧ vs[i]? = some u ∧ ∀ (j : Nat) (u' : Value), vs[j]? = some u' → vs[j]? = some u') := fun hb =>
      .inl fun w1 hw1 => ⟨v, w1, w', by
        rw [execOp_congr o (fun cs bb e => by simp [isSelect, e] at hsel) hops]
        exact h5 hb w1 hw1, hw1, rfl, h3, fun _ _ h => h⟩
    unfold OpOK
    cases hg : o.guard with
    | none => rw [hg] at h4; exact hrun h4
    | some jw =>
      obtain ⟨j, want⟩ := jw
      rw [hg] at h4
      obtain ⟨dj, hj, hdn, hcase⟩ := h4
      have hgd : g dj = seqF l vs f i dj := agree dj (by
        unfold reads
        rw [hg]
        refine List.mem_append_right _ ?_
        simp [hj])
      refine ⟨dj, g dj, hj, rfl, ?_⟩
      rcases hcase with ⟨e, hb⟩ | ⟨e, hb⟩
      · exact .inl ⟨hgd.trans e, hrun hb⟩
      · refine .inr ⟨by rw [hgd]; exact e, rfl, ?_, fun _ _ h => h⟩
        rw [h3, h6 hb]
  · intro g w' hw' hdone hkept
    subst hw'
    have : g = seqF l vs f l.length := by
      funext t
      by_cases hex : ∃ j, dstAt l j = some t
      · obtain ⟨j, hj⟩ := hex
        have hlt : j < l.length := by
          obtain ⟨o, ho, _⟩ := dstAt_lt hj
          rcases Nat.lt_or_ge j l.length with h | h
          · exact h
          · rw [List.getElem?_eq_none h] at ho; cases ho
        have e2 := (hget l.length t).1 j hj hlt
        have e1 := hdone j t hj
        rw [e1] at e2; exact Option.some.inj e2
      · rw [hkept t fun j hj => hex ⟨j, hj⟩, (hget l.length t).2 fun j hj => absurd ⟨j, hj⟩ hex]
    rw [this]; exact hq
end
end Go.Wk
