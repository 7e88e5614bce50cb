/- A region that draws its order, with footprints: what each operation lays anew lies apart from what the others do. -/
import Derived.Test.YtpgegnmaophapaaWkU
namespace Go.Wk
open Go

section
variable {P : Program} {n : Nat} {l : List Oper} {Q : Exit → Fr → World → Prop} {f0 : Fr}
abbrev Feet := Nat → List Nat
def setB (B : Feet) (i : Nat) (Bi : List Nat) : Feet := fun k => bif Nat.beq k i then Bi else B k
theorem setB_ne {B : Feet} {i k : Nat} {Bi : List Nat} (h : k ≠ i) : setB B i Bi k = B k := by
  unfold setB
  cases e : Nat.beq k i with
  | true => exact absurd (Nat.eq_of_beq_eq_true e) h
  | false => rfl
theorem setB_eq {B : Feet} {i : Nat} {Bi : List Nat} : setB B i Bi i = Bi := by unfold setB; rw [Nat.beq_refl]; rfl
abbrev FP := Feet → Value → World → Prop
def nthB : List FP → Nat → FP
  | [], _, _, _, _ => True
  | p :: _, 0, B, v, w => p B v w
  | _ :: r, j + 1, B, v, w => nthB r j B v w
/-- A fact stays where nothing old turns, and hangs on no other feet than those of the operation and of what stands ahead of it. -/
inductive StabB (ms : List Nat) : Nat → List FP → Prop
  | nil {j : Nat} : StabB ms j []
  | cons {j : Nat} {p : FP} {r : List FP} : (∀ B v w w', p B v w → Ext [] w w' → p B v w') → (∀ B B' v w, (∀ k, (Nat.beq k j || (ms.getD j 0).testBit k) = true → B k = B' k) → p B v w → p B' v w) → StabB ms (j + 1) r → StabB ms j (p :: r)
theorem StabB.ext {ms : List Nat} {k : Nat} {ps : List FP} (h : StabB ms k ps) : ∀ j B v w w', nthB ps j B v w → Ext [] w w' → nthB ps j B v w' := by
  induction h with
  | nil => intro j B v w w' h _; trivial
  | cons h _ _ ih => intro j B v w w' hp e; cases j with
    | zero => exact h B v w w' hp e
    | succ j => exact ih j B v w w' hp e
theorem StabB.feet {ms : List Nat} {k : Nat} {ps : List FP} (h : StabB ms k ps) : ∀ j B B' v w, (∀ x, (Nat.beq x (k + j) || (ms.getD (k + j) 0).testBit x) = true → B x = B' x) → nthB ps j B v w → nthB ps j B' v w := by
  induction h with
  | nil => intro j B B' v w _ _; trivial
  | @cons k p r _ h2 _ ih => intro j B B' v w hB hp; cases j with
    | zero => exact h2 B B' v w hB hp
    | succ j => exact ih j B B' v w (fun x hx => hB x (by rwa [show k + (j + 1) = k + 1 + j by omega])) hp
def OneB (P : Program) (n : Nat) (l : List Oper) (ms : List Nat) (ps : List FP) (f0 : Fr) (w0 : World) (i : Nat) (o : Oper) : Prop :=
  ∀ B g w, Ext [] w0 w → (∀ j t, (ms.getD i 0).testBit j = true → dstAt l j = some t → nthB ps j B (g t) w) → (∀ j, (ms.getD i 0).testBit j = true → ∀ x ∈ B j, w0.heap.size ≤ x ∧ x < w.heap.size) → (∀ t, keptOk ms i t l 0 = true → g t = f0 t) →
    WL P false n l (fun e g' w' => e = .normal ∧ ∃ v, g' = putF g o.dst v ∧ Ext [] w w' ∧ ∃ Bi, (∀ x ∈ Bi, w.heap.size ≤ x ∧ x < w'.heap.size) ∧ nthB ps i (setB B i Bi) v w') [o] g w
inductive StepsB (P : Program) (n : Nat) (l : List Oper) (ms : List Nat) (ps : List FP) (f0 : Fr) (w0 : World) : Nat → List Oper → Prop
  | nil {i : Nat} : StepsB P n l ms ps f0 w0 i []
  | cons {i : Nat} {o : Oper} {r : List Oper} : OneB P n l ms ps f0 w0 i o → StepsB P n l ms ps f0 w0 (i + 1) r → StepsB P n l ms ps f0 w0 i (o :: r)
theorem StepsB.get {ms : List Nat} {ps : List FP} {w0 : World} {k : Nat} {r : List Oper} (h : StepsB P n l ms ps f0 w0 k r) : ∀ x o, r[x]? = some o → OneB P n l ms ps f0 w0 (k + x) o := by
  induction h with
  | nil => intro x o h; simp at h
  | @cons i o r h _ ih => intro x o' ho; cases x with
    | zero => simp at ho; subst ho; exact h
    | succ x =>
      have := ih x o' (by simpa using ho)
      rwa [show i + 1 + x = i + (x + 1) by omega] at this
/-- Whatever stands ahead of an operation stands ahead of it in the text. -/
theorem dep_lt (ha : afterOk l = true) : ∀ {i j : Nat}, Dep l i j → j < i := by
  intro i j h
  induction h with
  | one ho he hb => exact after_lt ha ho _ he hb
  | trans _ _ h1 h2 => omega
structure Feets (L : Array Bool) (B : Feet) (w0 w : World) : Prop where
  fresh : ∀ j, L[j]? = some true → ∀ x ∈ B j, w0.heap.size ≤ x ∧ x < w.heap.size
  apart : ∀ j j', L[j]? = some true → L[j']? = some true → j ≠ j' → ∀ x ∈ B j, x ∉ B j'
/-- THE RULE: the first k in whatever order, the others behind them. -/
theorem W_region_feet {id : Nat} {w : World} (S : List Nat) (k : Nat) (ps : List FP) (hm : P.follows .mixedOrders = true) (ha : (afterOk l && dstsU l [] && dstIn S n l && Nat.ble k l.length && seqOk (masks l) k l.length) = true) 
    (ms : List Nat) (hms : masks l = ms) (hst : StabB ms 0 ps) (step : StepsB P n l ms ps f0 w 0 (l.take k))
    (fin : ∀ B g w', Ext [] w w' → (∀ j t, j < k → dstAt l j = some t → nthB ps j B (g t) w') → (∀ j, j < k → ∀ x ∈ B j, w.heap.size ≤ x ∧ x < w'.heap.size) → (∀ j j', j < k → j' < k → j ≠ j' → ∀ x ∈ B j, x ∉ B j') → ∃ L, Live g L ∧ (L.all fun p => S.elem p.1) = true ∧ WL P false n l Q (l.drop k) (updAll (mix S g f0) L) w') :
    W P n (.region id l.toArray true) Q f0 w := by
  subst hms
  rw [Bool.and_eq_true, Bool.and_eq_true, Bool.and_eq_true, Bool.and_eq_true] at ha
  obtain ⟨⟨⟨⟨ha, hu⟩, hin⟩, hkl⟩, hseq⟩ := ha
  have hkl := Nat.le_of_ble_eq_true hkl
  obtain ⟨_, huniq⟩ := dstsU_all hu
  have hlt := dstIn_all hin
  have main : ∀ (fuel : Nat) (L : Array Bool) (a : Act) (g : Fr) (w' w1 : World), count L = fuel → Is a g n → Sim w' w1 → (∃ B, Inv l (fun v => Ext [] w v) (fun j v w => nthB ps j B v w) f0 L g w' ∧ Feets L B w w') → (∀ j, k ≤ j → j < l.length → L[j]? = some false) → wpAny P .any l.toArray (lift n Q) fuel L a w1 := by
    have behind : ∀ (fuel : Nat) (L : Array Bool) (a : Act) (g : Fr) (w' w1 : World), count L = fuel → Is a g n → Sim w' w1 → (∃ B, Inv l (fun v => Ext [] w v) (fun j v w => nthB ps j B v w) f0 L g w' ∧ Feets L B w w') → (∀ j, k ≤ j → j < l.length → L[j]? = some false) → (∀ j, j < k → L[j]? = some true) → wpAny P .any l.toArray (lift n Q) fuel L a w1 := by
      rintro fuel L a g w' w1 hc hg hs ⟨B, hinv, hft⟩ hno hyes
      obtain ⟨L', h1, h2, h3⟩ := fin B g w' hinv.world (fun j t hj hjt => hinv.done j t (hyes j hj) hjt) (fun j hj => hft.fresh j (hyes j hj)) (fun j j' hj hj' => hft.apart j j' (hyes j hj) (hyes j' hj'))
      rw [(h1.mix h2).eq, mix_self (fun t ht => hinv.kept t fun j _ hj => by have := (hlt j t hj).1; rw [this] at ht; cases ht)] at h3
      have hup : Upto l k L := ⟨hinv.size, hyes, hno⟩
      have hcnt : count L = l.length - k := by
        have e : L.toList = List.replicate k true ++ List.replicate (l.length - k) false := by
          apply List.ext_getElem?
          intro j
          rw [Array.getElem?_toList]
          by_cases hj : j < k
          · rw [hyes j hj, List.getElem?_append_left (by simpa using hj)]; simp [hj]
          · by_cases hjl : j < l.length
            · rw [hno j (by omega) hjl, List.getElem?_append_right (by simp; omega), List.length_replicate, List.getElem?_replicate, if_pos (by omega)]
            · rw [Array.getElem?_eq_none (by rw [hinv.size]; omega), List.getElem?_eq_none (by simp; omega)]
        unfold count; rw [e, List.filter_append, List.length_append]; simp
      rw [← hc, hcnt]
      exact wpAny_tail ha hseq _ k L a w1 rfl hkl (Nat.le_refl _) hup (h3 a w1 hg hs)
    intro fuel
    induction fuel with
    | zero =>
      rintro L a g w' w1 hc hg hs ⟨B, hinv, hft⟩ hno
      refine behind _ L a g w' w1 hc hg hs ⟨B, hinv, hft⟩ hno fun j hj => ?_
      cases hL : L[j]? with
      | none => rw [Array.getElem?_eq_none_iff, hinv.size] at hL; omega
      | some b => cases b with
        | true => rfl
        | false => have := count_set hL; omega
    | succ fuel ih =>
      rintro L a g w' w1 hc hg hs ⟨B, hinv, hft⟩ hno
      by_cases hall : ∀ j, j < k → L[j]? = some true
      · exact behind _ L a g w' w1 hc hg hs ⟨B, hinv, hft⟩ hno hall
      have hex : ∃ j, j < k ∧ L[j]? = some false := by
        apply Classical.byContradiction
        intro hne
        refine hall fun j hj => ?_
        cases hL : L[j]? with
        | none => rw [Array.getElem?_eq_none_iff, hinv.size] at hL; omega
        | some b => cases b with
          | true => rfl
          | false => exact absurd ⟨j, hj, hL⟩ hne
      refine ⟨fun hr => ?_, fun i hi => ?_⟩
      · have := all_listed ha hinv.size hr
        obtain ⟨j, hj, hf⟩ := hex
        rw [this j (by omega)] at hf; cases hf
      obtain ⟨o, ho, h1, h2⟩ := ready_iff.1 hi
      have hil : i < l.length := by
        rcases Nat.lt_or_ge i l.length with h | h
        · exact h
        · rw [List.getElem?_eq_none h] at ho; cases ho
      have hLi : L[i]? = some false := by
        have : i < L.size := by rw [hinv.size]; exact hil
        simp [this] at h1 ⊢
        exact h1
      have hdeps : ∀ e ∈ o.after, Region.binds .any e = true → L[e.on]? = some true := fun e he hb => by
        have := h2 e he hb
        cases hx : L[e.on]? with
        | none => simp [hx] at this
        | some b => simp [hx] at this; rw [this]
      have hik : i < k := by
        rcases Nat.lt_or_ge i k with h | h
        · exact h
        · exfalso
          obtain ⟨j, hj, hf⟩ := hex
          have hb := seqOk_get hseq hil h j (by omega)
          have := (masks_dep i j hb).listed hinv fun o' ho' => by rw [ho] at ho'; cases ho'; exact hdeps
          rw [this] at hf; cases hf
      have hone := step.get i o (by rw [List.getElem?_take_of_lt hik]; exact ho)
      rw [Nat.zero_add] at hone
      have hone := hone B g w' hinv.world
        (fun j t hb hj => hinv.done j t ((masks_dep i j hb).listed hinv fun o' ho' => by rw [ho] at ho'; cases ho'; exact hdeps) hj)
        (fun j hb => hft.fresh j ((masks_dep i j hb).listed hinv fun o' ho' => by rw [ho] at ho'; cases ho'; exact hdeps))
        (fun t hk => hinv.kept t fun j hj hjt => by
          rcases keptOk_spec (l := l) (k := 0) (by simp) hk j (Nat.zero_le _) hjt with e | hb
          · subst e; rw [hLi] at hj; cases hj
          · have := (masks_dep j i hb).listed hinv fun o' ho' e he hbe => hinv.closed j o' hj ho' e he hbe
            rw [hLi] at this; cases this)
      refine wpOp_WL ho hg hs (S := fun g' w2 => ∃ v, g' = putF g o.dst v ∧ Ext [] w' w2 ∧ ∃ Bi, (∀ x ∈ Bi, w'.heap.size ≤ x ∧ x < w2.heap.size) ∧ nthB ps i (setB B i Bi) v w2) hone ?_
      rintro g' w2 a' w3 ⟨v, rfl, e, Bi, hBi, hv⟩ hg' hs'
      have hdo : dstAt l i = o.dst := dstAt_some ho
      have hget : ∀ j, (L.setIfInBounds i true)[j]? = some true → j = i ∨ L[j]? = some true := by
        intro j hj
        by_cases hji : j = i
        · exact .inl hji
        · rw [Array.getElem?_setIfInBounds_ne (Ne.symm hji)] at hj; exact .inr hj
      have hgo : ∀ t, o.dst ≠ some t → putF g o.dst v t = g t := by
        intro t ht
        unfold putF
        cases hdd : o.dst with
        | none => rfl
        | some u => simp only; rw [upd_eq, if_neg (fun e => ht (by rw [hdd, e]))]
      have hset := count_set hLi
      have hcs : count (L.setIfInBounds i true) = fuel := by omega
      have hbi : ∀ j, L[j]? = some true → j ≠ i := fun j hj e => by rw [e, hLi] at hj; cases hj
      refine ih _ a' (putF g o.dst v) w2 w3 hcs hg' hs' ⟨setB B i Bi, ⟨by simp [hinv.size], hinv.world.tr e, fun j t hj hjt => ?_, fun t ht => ?_, fun j p hj hp e he hb => ?_⟩, ⟨fun j hj x hx => ?_, fun j j' hj hj' hne x hx => ?_⟩⟩ ?_
      · rcases hget j hj with rfl | hj'
        · rw [hdo] at hjt; unfold putF; simp only [hjt]; rw [upd_eq, if_pos rfl]; exact hv
        · have hne : o.dst ≠ some t := fun e => by
            have := huniq i j t (hdo.trans e) hjt
            subst this; rw [hLi] at hj'; cases hj'
          rw [hgo t hne]
          refine hst.ext j _ _ _ _ (hst.feet j B _ _ _ (fun x hx => ?_) (hinv.done j t hj' hjt)) e
          rw [setB_ne]
          rintro rfl
          rw [Nat.zero_add, Bool.or_eq_true] at hx
          rcases hx with hx | hx
          · exact hbi j hj' (Nat.eq_of_beq_eq_true hx).symm
          · have := (masks_dep j x hx).listed hinv fun o' ho' e he hbe => hinv.closed j o' hj' ho' e he hbe
            rw [hLi] at this; cases this
      · have hne : o.dst ≠ some t := fun e => ht i (by rw [Array.getElem?_setIfInBounds_self_of_lt (by rw [hinv.size]; exact hil)]) (hdo.trans e)
        rw [hgo t hne]
        refine hinv.kept t fun j hj => ht j ?_
        by_cases hji : j = i
        · subst hji; rw [hLi] at hj; cases hj
        · rw [Array.getElem?_setIfInBounds_ne (Ne.symm hji)]; exact hj
      · have mark : L[e.on]? = some true → (L.setIfInBounds i true)[e.on]? = some true := fun h => by
          by_cases hei : e.on = i
          · rw [hei, Array.getElem?_setIfInBounds_self_of_lt (by rw [hinv.size]; exact hil)]
          · rw [Array.getElem?_setIfInBounds_ne (Ne.symm hei)]; exact h
        rcases hget j hj with rfl | hj'
        · rw [ho] at hp; cases hp; exact mark (hdeps e he hb)
        · exact mark (hinv.closed j p hj' hp e he hb)
      · rcases hget j hj with e1 | hj'
        · rw [e1, setB_eq] at hx
          have := hBi x hx
          have := hinv.world.size
          exact ⟨by omega, by omega⟩
        · rw [setB_ne (hbi j hj')] at hx
          have := hft.fresh j hj' x hx
          have := e.size
          exact ⟨by omega, by omega⟩
      · rcases hget j hj with e1 | h1
        · rcases hget j' hj' with e2 | h2
          · omega
          · rw [e1, setB_eq] at hx
            rw [setB_ne (hbi j' h2)]
            intro hm
            have := hft.fresh j' h2 x hm
            have := hBi x hx
            omega
        · rw [setB_ne (hbi j h1)] at hx
          rcases hget j' hj' with e2 | h2
          · rw [e2, setB_eq]
            intro hm
            have := hft.fresh j h1 x hx
            have := hBi x hm
            omega
          · rw [setB_ne (hbi j' h2)]
            exact hft.apart j j' h1 h2 hne x hx
      · intro j hj hjl
        rw [Array.getElem?_setIfInBounds_ne (by omega)]; exact hno j hj hjl
  intro a w1 hf hs
  refine wp_region_any hm (main _ _ a f0 w _ ?_ hf (hs.trans (Sim.drawn _ _)) ?_ ?_)
  · simp [count]
  · have hrep : ∀ j, (Array.replicate l.toArray.size false)[j]? ≠ some true := fun j h => by
      rw [Array.getElem?_replicate] at h; split at h <;> cases h
    exact ⟨fun _ => [], ⟨by simp, Ext.refl _ _, fun j t hj => absurd hj (hrep j), fun _ _ => rfl, fun j o hj => absurd hj (hrep j)⟩, ⟨fun j hj => absurd hj (hrep j), fun j j' hj => absurd hj (hrep j)⟩⟩
  · intro j _ hj; simp [Array.getElem?_replicate, hj]
end
end Go.Wk
