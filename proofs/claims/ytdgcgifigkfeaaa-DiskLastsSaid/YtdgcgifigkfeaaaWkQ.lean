/- A region that draws its order and turns the world: each operation by itself. -/
import Derived.Test.YtdgcgifigkfeaaaWkP
namespace Go.Wk
open Go

section
variable {P : Program} {n : Nat} {l : List Oper} {Q : Exit → Fr → World → Prop} {f0 : Fr}
theorem wpOp_WL {i : Nat} {o : Oper} (ho : l[i]? = some o) {g : Fr} {w w1 : World} {a : Act} {S : Fr → World → Prop} {K : Act → World → Prop} {QQ : Exit → Act → World → Prop} (ha : Is a g n) (hs : Sim w w1)
    (h : WL P false n l (fun e g' w' => e = .normal ∧ S g' w') [o] g w) (k : ∀ g' w' a' w2, S g' w' → Is a' g' n → Sim w' w2 → K a' w2) : wpOp P l.toArray QQ i K a w1 := by
  unfold wpOp
  simp only [List.getElem?_toArray, ho]
  have h := h a w1 ha hs
  unfold wpList at h
  have kk : ∀ a' w2, lift n (fun e g' w' => e = .normal ∧ S g' w') .normal a' w2 → K a' w2 := by
    rintro a' w2 ⟨g', w', hg, hv, _, q⟩
    exact k g' w' a' w2 q hg hv
  have no : ∀ e a' w2, lift n (fun e g' w' => e = .normal ∧ S g' w') e a' w2 → e = .normal := by
    rintro e a' w2 ⟨g', w', hg, hv, q, _⟩; exact q
  split
  · rename_i hw
    rw [if_pos hw] at h
    rcases h with h | ⟨_, a', w2, q⟩
    · refine .inl ?_
      unfold Oper.wp at h ⊢
      generalize (execOp a.eval o).run P w1 = r at h ⊢
      unfold Oper.upon at h ⊢
      split at h
      · exact kk _ _ h
      · exact kk _ _ h
      · exact kk _ _ h
      · refine Calls.mono h ?_
        intro e w2 q
        cases e with
        | returned v => exact kk _ _ q
        | panicked c => have := no _ _ _ q; cases this
        | outgrown => obtain ⟨a', w3, q⟩ := q; have := no _ _ _ q; cases this
      · exact Rows.mono h fun v w2 q => kk _ _ q
      · have := no _ _ _ h; cases this
      · exact h.elim
    · have := no _ _ _ q; cases this
  · rename_i hw
    rw [if_neg hw] at h
    exact kk _ _ h

def keptOk (ms : List Nat) (i t : Nat) : List Oper → Nat → Bool
  | [], _ => true
  | o :: r, j => (match o.dst with | some d => !Nat.beq d t || Nat.beq j i || (ms.getD j 0).testBit i | none => true) && keptOk ms i t r (j + 1)
theorem keptOk_spec {ms : List Nat} {i t : Nat} : ∀ {r : List Oper} {k : Nat}, (∀ x, r[x]? = l[k + x]?) → keptOk ms i t r k = true → ∀ j, k ≤ j → dstAt l j = some t → j = i ∨ (ms.getD j 0).testBit i = true := by
  intro r
  induction r with
  | nil =>
    intro k hr _ j hkj hj
    obtain ⟨o, ho, _⟩ := dstAt_lt hj
    have := hr (j - k)
    rw [show k + (j - k) = j by omega, ho] at this; simp at this
  | cons o r ih =>
    intro k hr h j hkj hj
    unfold keptOk at h
    rw [Bool.and_eq_true] at h
    by_cases e : j = k
    · subst e
      have h0 := hr 0
      simp at h0
      have : o.dst = some t := by rw [← dstAt_some h0.symm]; exact hj
      rw [this] at h
      have h1 := h.1
      simp only [Nat.beq_refl, Bool.not_true, Bool.false_or, Bool.or_eq_true] at h1
      rcases h1 with h1 | h1
      · exact .inl (Nat.eq_of_beq_eq_true h1)
      · exact .inr h1
    · exact ih (k := k + 1) (fun x => by have := hr (x + 1); simp at this; rw [this]; congr 1; omega) h.2 j (by omega) hj
def dstsU : List Oper → List Nat → Bool
  | [], _ => true
  | o :: r, seen => match o.dst with | some d => !seen.elem d && dstsU r (d :: seen) | none => dstsU r seen
theorem dstsU_all : ∀ {l : List Oper} {seen : List Nat}, dstsU l seen = true → (∀ (j t : Nat), dstAt l j = some t → t ∉ seen) ∧ (∀ (i j t : Nat), dstAt l i = some t → dstAt l j = some t → i = j) := by
  intro l
  induction l with
  | nil => intro seen _; exact ⟨fun j t h => by simp [dstAt] at h, fun i j t h => by simp [dstAt] at h⟩
  | cons o r ih =>
    intro seen h
    unfold dstsU at h
    cases hd : o.dst with
    | none =>
      rw [hd] at h
      have ⟨h1, h2⟩ := ih h
      refine ⟨fun j t hj => ?_, fun i j t hi hj => ?_⟩
      · cases j with
        | zero => simp [dstAt, hd] at hj
        | succ j => exact h1 j t hj
      · cases i with
        | zero => simp [dstAt, hd] at hi
        | succ i => cases j with
          | zero => simp [dstAt, hd] at hj
          | succ j => rw [h2 i j t hi hj]
    | some d =>
      rw [hd] at h
      simp only [Bool.and_eq_true] at h
      have hns : d ∉ seen := by have := h.1; simp at this; exact this
      have ⟨h1, h2⟩ := ih h.2
      refine ⟨fun j t hj => ?_, fun i j t hi hj => ?_⟩
      · cases j with
        | zero => simp [dstAt, hd] at hj; subst hj; exact hns
        | succ j => have := h1 j t hj; simp at this; exact this.2
      · cases i with
        | zero =>
          cases j with
          | zero => rfl
          | succ j => simp [dstAt, hd] at hi; subst hi; have := h1 j _ hj; simp at this
        | succ i => cases j with
          | zero => simp [dstAt, hd] at hj; subst hj; have := h1 i _ hi; simp at this
          | succ j => rw [h2 i j t hi hj]
def dstIn (S : List Nat) (n : Nat) : List Oper → Bool
  | [] => true
  | o :: r => (match o.dst with | some d => S.elem d && Nat.blt d n | none => true) && dstIn S n r
theorem dstIn_all {S : List Nat} : ∀ {l : List Oper}, dstIn S n l = true → ∀ j t, dstAt l j = some t → S.elem t = true ∧ t < n := by
  intro l
  induction l with
  | nil => intro _ j t h; simp [dstAt] at h
  | cons o r ih =>
    intro h j t hj
    unfold dstIn at h
    rw [Bool.and_eq_true] at h
    cases j with
    | zero =>
      have hj : o.dst = some t := hj
      rw [hj] at h
      have := h.1
      rw [Bool.and_eq_true] at this
      exact ⟨this.1, blt_lt this.2⟩
    | succ j => exact ih h.2 j t hj
def nthP : List (Value → World → Prop) → Nat → Value → World → Prop
  | [], _, _, _ => True
  | p :: _, 0, v, w => p v w
  | _ :: r, j + 1, v, w => nthP r j v w
inductive Stab : List (Value → World → Prop) → Prop
  | nil : Stab []
  | cons {p : Value → World → Prop} {r : List (Value → World → Prop)} : (∀ v w w', p v w → Ext [] w w' → p v w') → Stab r → Stab (p :: r)
theorem Stab.get {ps : List (Value → World → Prop)} (h : Stab ps) : ∀ j v w w', nthP ps j v w → Ext [] w w' → nthP ps j v w' := by
  induction h with
  | nil => intro j v w w' h _; trivial
  | cons h _ ih => intro j v w w' hp e; cases j with
    | zero => exact h v w w' hp e
    | succ j => exact ih j v w w' hp e
/-- What is shown of one operation of a drawn region. -/
def OneP (P : Program) (n : Nat) (l : List Oper) (ms : List Nat) (ps : List (Value → World → Prop)) (f0 : Fr) (w0 : World) (i : Nat) (o : Oper) : Prop :=
  ∀ g w, Ext [] w0 w → (∀ j t, (ms.getD i 0).testBit j = true → dstAt l j = some t → nthP ps j (g t) w) → (∀ t, keptOk ms i t l 0 = true → g t = f0 t) →
    WL P false n l (fun e g' w' => e = .normal ∧ ∃ v, g' = putF g o.dst v ∧ Ext [] w w' ∧ nthP ps i v w') [o] g w
inductive Steps1 (P : Program) (n : Nat) (l : List Oper) (ms : List Nat) (ps : List (Value → World → Prop)) (f0 : Fr) (w0 : World) : Nat → List Oper → Prop
  | nil {i : Nat} : Steps1 P n l ms ps f0 w0 i []
  | cons {i : Nat} {o : Oper} {r : List Oper} : OneP P n l ms ps f0 w0 i o → Steps1 P n l ms ps f0 w0 (i + 1) r → Steps1 P n l ms ps f0 w0 i (o :: r)
theorem Steps1.get {ms : List Nat} {ps : List (Value → World → Prop)} {w0 : World} {k : Nat} {r : List Oper} (h : Steps1 P n l ms ps f0 w0 k r) : ∀ x o, r[x]? = some o → OneP P n l ms ps f0 w0 (k + x) o := by
  induction h with
  | nil => intro x o h; simp at h
  | @cons i o r h _ ih => intro x o' ho; cases x with
    | zero => simp at ho; subst ho; exact h
    | succ x =>
      have := ih x o' (by simpa using ho)
      rwa [show i + 1 + x = i + (x + 1) by omega] at this
theorem WL_at {o : Oper} {g : Fr} {w : World} {L : List (Nat × Value)} {R : Value → World → Prop} (h : Live g L) (k : WL P false n l (fun e g' w' => e = .normal ∧ ∃ v, g' = putF (updAll g L) o.dst v ∧ R v w') [o] (updAll g L) w) :
    WL P false n l (fun e g' w' => e = .normal ∧ ∃ v, g' = putF g o.dst v ∧ R v w') [o] g w := by
  rwa [h.eq] at k
/-- THE RULE. -/
theorem W_region_draw {id : Nat} {w : World} (S : List Nat) (ps : List (Value → World → Prop)) (hm : P.follows .mixedOrders = true) (ha : (afterOk l && dstsU l [] && dstIn S n l) = true) (hst : Stab ps)
    (ms : List Nat) (hms : masks l = ms) (step : Steps1 P n l ms ps f0 w 0 l)
    (fin : ∀ g w', Ext [] w w' → (∀ j t, dstAt l j = some t → nthP ps j (g t) w') → ∃ L, Live g L ∧ (L.all fun p => S.elem p.1) = true ∧ Q .normal (updAll (mix S g f0) L) w') :
    W P n (.region id l.toArray true) Q f0 w := by
  subst hms
  rw [Bool.and_eq_true, Bool.and_eq_true] at ha
  obtain ⟨⟨ha, hu⟩, hin⟩ := ha
  obtain ⟨_, huniq⟩ := dstsU_all hu
  have hlt := dstIn_all hin
  have main : ∀ (fuel : Nat) (L : Array Bool) (a : Act) (g : Fr) (w' w1 : World), count L = fuel → Is a g n → Sim w' w1 → Inv l (fun v => Ext [] w v) (nthP ps) f0 L g w' → wpAny P .any l.toArray (lift n Q) fuel L a w1 := by
    have finish : ∀ (L : Array Bool) (a : Act) (g : Fr) (w' w1 : World), Is a g n → Sim w' w1 → Inv l (fun v => Ext [] w v) (nthP ps) f0 L g w' → (∀ i, i < l.length → L[i]? = some true) → lift n Q .normal a w1 := by
      intro L a g w' w1 hg hs hinv hall
      obtain ⟨L', h1, h2, h3⟩ := fin g w' hinv.world (fun j t hj => by
        obtain ⟨o, ho, _⟩ := dstAt_lt hj
        have hjl : j < l.length := by
          rcases Nat.lt_or_ge j l.length with h | h
          · exact h
          · rw [List.getElem?_eq_none h] at ho; cases ho
        exact hinv.done j t (hall j hjl) hj)
      rw [(h1.mix h2).eq, mix_self (fun t ht => hinv.kept t fun j _ hj => by have := (hlt j t hj).1; rw [this] at ht; cases ht)] at h3
      exact ⟨g, w', hg, hs, h3⟩
    intro fuel
    induction fuel with
    | zero =>
      intro L a g w' w1 hc hg hs hinv
      have hall : ∀ i, i < l.length → L[i]? = some true := by
        intro i hi
        cases hL : L[i]? with
        | none => rw [Array.getElem?_eq_none_iff, hinv.size] at hL; omega
        | some b => cases b with
          | true => rfl
          | false => have := count_set hL; omega
      refine ⟨?_, finish L a g w' w1 hg hs hinv hall⟩
      cases hr : Region.ready .any l.toArray L with
      | nil => rfl
      | cons i r =>
        have hm : i ∈ Region.ready .any l.toArray L := by rw [hr]; simp
        obtain ⟨o, ho, h1, _⟩ := ready_iff.1 hm
        have hlt : i < l.length := by
          rcases Nat.lt_or_ge i l.length with h | h
          · exact h
          · rw [List.getElem?_eq_none h] at ho; cases ho
        simp [hall i hlt] at h1
    | succ fuel ih =>
      intro L a g w' w1 hc hg hs hinv
      refine ⟨fun hr => finish L a g w' w1 hg hs hinv (all_listed ha hinv.size hr), fun i hi => ?_⟩
      obtain ⟨o, ho, h1, h2⟩ := ready_iff.1 hi
      have hil : i < l.length := by
        rcases Nat.lt_or_ge i l.length with h | h
        · exact h
        · rw [List.getElem?_eq_none h] at ho; cases ho
      have hLi : L[i]? = some false := by
        have : i < L.size := by rw [hinv.size]; exact hil
        simp [this] at h1 ⊢
        exact h1
      have hdeps : ∀ e ∈ o.after, Region.binds .any e = true → L[e.on]? = some true := fun e he hb => by
        have := h2 e he hb
        cases hx : L[e.on]? with
        | none => simp [hx] at this
        | some b => simp [hx] at this; rw [this]
      have hone := step.get i o ho
      rw [Nat.zero_add] at hone
      have hone := hone g w' hinv.world
        (fun j t hb hj => hinv.done j t ((masks_dep i j hb).listed hinv fun o' ho' => by rw [ho] at ho'; cases ho'; exact hdeps) hj)
        (fun t hk => hinv.kept t fun j hj hjt => by
          rcases keptOk_spec (l := l) (k := 0) (by simp) hk j (Nat.zero_le _) hjt with e | hb
          · subst e; rw [hLi] at hj; cases hj
          · have := (masks_dep j i hb).listed hinv fun o' ho' e he hbe => hinv.closed j o' hj ho' e he hbe
            rw [hLi] at this; cases this)
      refine wpOp_WL ho hg hs (S := fun g' w2 => ∃ v, g' = putF g o.dst v ∧ Ext [] w' w2 ∧ nthP ps i v w2) hone ?_
      rintro g' w2 a' w3 ⟨v, rfl, e, hv⟩ hg' hs'
      have hdo : dstAt l i = o.dst := dstAt_some ho
      refine ih _ a' (putF g o.dst v) w2 w3 (by have := count_set hLi; omega) hg' hs' ?_
      have hget : ∀ j, (L.setIfInBounds i true)[j]? = some true → j = i ∨ L[j]? = some true := by
        intro j hj
        by_cases hji : j = i
        · exact .inl hji
        · rw [Array.getElem?_setIfInBounds_ne (Ne.symm hji)] at hj; exact .inr hj
      have hgo : ∀ t, o.dst ≠ some t → putF g o.dst v t = g t := by
        intro t ht
        unfold putF
        cases hdd : o.dst with
        | none => rfl
        | some u => simp only; rw [upd_eq, if_neg (fun e => ht (by rw [hdd, e]))]
      refine ⟨by simp [hinv.size], hinv.world.tr e, fun j t hj hjt => ?_, fun t ht => ?_, fun j p hj hp e he hb => ?_⟩
      · rcases hget j hj with rfl | hj'
        · rw [hdo] at hjt; unfold putF; simp only [hjt]; rw [upd_eq, if_pos rfl]; exact hv
        · have hne : o.dst ≠ some t := fun e => by
            have := huniq i j t (hdo.trans e) hjt
            subst this; rw [hLi] at hj'; cases hj'
          rw [hgo t hne]; exact hst.get j _ _ _ (hinv.done j t hj' hjt) e
      · have hne : o.dst ≠ some t := fun e => ht i (by rw [Array.getElem?_setIfInBounds_self_of_lt (by rw [hinv.size]; exact hil)]) (hdo.trans e)
        rw [hgo t hne]
        refine hinv.kept t fun j hj => ht j ?_
        by_cases hji : j = i
        · subst hji; rw [hLi] at hj; cases hj
        · rw [Array.getElem?_setIfInBounds_ne (Ne.symm hji)]; exact hj
      · have mark : L[e.on]? = some true → (L.setIfInBounds i true)[e.on]? = some true := fun h => by
          by_cases hei : e.on = i
          · rw [hei, Array.getElem?_setIfInBounds_self_of_lt (by rw [hinv.size]; exact hil)]
          · rw [Array.getElem?_setIfInBounds_ne (Ne.symm hei)]; exact h
        rcases hget j hj with rfl | hj'
        · rw [ho] at hp; cases hp; exact mark (hdeps e he hb)
        · exact mark (hinv.closed j p hj' hp e he hb)
  intro a w1 hf hs
  refine wp_region_any hm (main _ _ a f0 w _ ?_ hf (hs.trans (Sim.drawn _ _)) ?_)
  · simp [count]
  · have hrep : ∀ j, (Array.replicate l.toArray.size false)[j]? ≠ some true := fun j h => by
      rw [Array.getElem?_replicate] at h; split at h <;> cases h
    exact ⟨by simp, Ext.refl _ _, fun j t hj => absurd hj (hrep j), fun _ _ => rfl, fun j o hj => absurd hj (hrep j)⟩
end
end Go.Wk
