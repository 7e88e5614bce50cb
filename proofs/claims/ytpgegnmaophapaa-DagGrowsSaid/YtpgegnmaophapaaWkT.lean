/- A region that draws its order, and whose last operations stand behind all others: these one behind the other. -/
import Derived.Test.YtpgegnmaophapaaWkQ
namespace Go.Wk
open Go

section
variable {P : Program} {n : Nat} {l : List Oper} {Q : Exit → Fr → World → Prop} {f0 : Fr}
def allBits (m : Nat) : Nat → Bool
  | 0 => true
  | j + 1 => m.testBit j && allBits m j
theorem allBits_get {m : Nat} : ∀ {i j : Nat}, allBits m i = true → j < i → m.testBit j = true := by
  intro i
  induction i with
  | zero => intro j _ h; omega
  | succ i ih =>
    intro j h hj
    unfold allBits at h
    rw [Bool.and_eq_true] at h
    by_cases e : j = i
    · subst e; exact h.1
    · exact ih h.2 (by omega)
def seqOk (ms : List Nat) (k : Nat) : Nat → Bool
  | 0 => true
  | i + 1 => (Nat.blt i k || allBits (ms.getD i 0) i) && seqOk ms k i
theorem seqOk_get {ms : List Nat} {k : Nat} : ∀ {len i : Nat}, seqOk ms k len = true → i < len → k ≤ i → ∀ j, j < i → (ms.getD i 0).testBit j = true := by
  intro len
  induction len with
  | zero => intro i _ h; omega
  | succ len ih =>
    intro i h hi hk j hj
    unfold seqOk at h
    rw [Bool.and_eq_true] at h
    by_cases e : i = len
    · subst e
      have h1 := h.1
      rw [Bool.or_eq_true] at h1
      rcases h1 with h1 | h1
      · have := blt_lt h1; omega
      · exact allBits_get h1 hj
    · exact ih h.2 (by omega) hk j hj
/-- What is listed: just the first i. -/
structure Upto (l : List Oper) (i : Nat) (L : Array Bool) : Prop where
  size : L.size = l.length
  yes : ∀ j, j < i → L[j]? = some true
  no : ∀ j, i ≤ j → j < l.length → L[j]? = some false
theorem after_lt (ha : afterOk l = true) {i : Nat} {o : Oper} (ho : l[i]? = some o) : ∀ e ∈ o.after, Region.binds .any e = true → e.on < i := by
  intro e he hb
  unfold afterOk at ha
  rw [List.all_eq_true] at ha
  have hi : i < l.length := by
    rcases Nat.lt_or_ge i l.length with h | h
    · exact h
    · rw [List.getElem?_eq_none h] at ho; cases ho
  have hoi : l[i] = o := by rw [List.getElem?_eq_getElem hi] at ho; exact Option.some.inj ho
  have := ha (l[i], i) (by rw [List.mem_iff_getElem?]; exact ⟨i, by simp [hi]⟩)
  simp only [List.all_eq_true] at this
  have := this e (by rw [hoi]; simpa using he)
  rw [hb] at this
  simpa [Nat.blt_eq] using this
theorem Upto.listed (ha : afterOk l = true) {k : Nat} {L : Array Bool} (hu : Upto l k L) {i j : Nat} (hd : Dep l i j) : (∀ o, l[i]? = some o → ∀ e ∈ o.after, Region.binds .any e = true → L[e.on]? = some true) → j < k := by
  have lt : ∀ x, x < l.length → L[x]? = some true → x < k := fun x hx h => by
    rcases Nat.lt_or_ge x k with h' | h'
    · exact h'
    · rw [hu.no x h' hx] at h; cases h
  have ltl : ∀ {i j : Nat}, Dep l i j → i < l.length ∧ j < i := by
    intro i j h
    induction h with
    | one ho he hb =>
      have h1 := after_lt ha ho _ he hb
      refine ⟨?_, h1⟩
      rename_i i' o' e'
      rcases Nat.lt_or_ge i' l.length with h | h
      · exact h
      · rw [List.getElem?_eq_none h] at ho; cases ho
    | trans _ _ h1 h2 => exact ⟨h1.1, by omega⟩
  induction hd with
  | @one i o e ho he hb =>
    intro h
    have := ltl (Dep.one ho he hb)
    exact lt _ (by omega) (h _ ho _ he hb)
  | @trans i k' j h1 h2 ih1 _ =>
    intro h
    have a := ih1 h
    have b := (ltl h2).2
    omega
theorem wpAny_tail (ha : afterOk l = true) {k : Nat} (hs : seqOk (masks l) k l.length = true) :
    ∀ (r : Nat) (i : Nat) (L : Array Bool) (a : Act) (w1 : World), l.length - i = r → i ≤ l.length → k ≤ i → Upto l i L → wpList P l.toArray (lift n Q) (l.drop i) a w1 → wpAny P .any l.toArray (lift n Q) r L a w1 := by
  intro r
  have nothing : ∀ (i : Nat) (L : Array Bool), i = l.length → Upto l i L → Region.ready .any l.toArray L = [] := by
    intro i L hi hu
    cases hr : Region.ready .any l.toArray L with
    | nil => rfl
    | cons x y =>
      have hm : x ∈ Region.ready .any l.toArray L := by rw [hr]; simp
      obtain ⟨o, ho, h1, _⟩ := ready_iff.1 hm
      have hlt : x < l.length := by
        rcases Nat.lt_or_ge x l.length with h | h
        · exact h
        · rw [List.getElem?_eq_none h] at ho; cases ho
      simp [hu.yes x (by omega)] at h1
  induction r with
  | zero =>
    intro i L a w1 hr hi hk hu h'
    have e : i = l.length := by omega
    rw [e, List.drop_length] at h'
    exact ⟨nothing i L e hu, h'⟩
  | succ r ih =>
    intro i L a w1 hr hi hk hu h
    have hil : i < l.length := by omega
    have hoi : l[i]? = some l[i] := by simp [hil]
    refine ⟨fun hr0 => ?_, fun x hx => ?_⟩
    · exfalso
      have hm : i ∈ Region.ready .any l.toArray L := by
        rw [ready_iff]
        exact ⟨l[i], hoi, by simp [hu.no i (Nat.le_refl _) hil], fun e he hb => by simp [hu.yes _ (after_lt ha hoi e he hb)]⟩
      rw [hr0] at hm; cases hm
    · obtain ⟨o, ho, h1, h2⟩ := ready_iff.1 hx
      have hxl : x < l.length := by
        rcases Nat.lt_or_ge x l.length with h | h
        · exact h
        · rw [List.getElem?_eq_none h] at ho; cases ho
      have hxi : i ≤ x := by
        rcases Nat.lt_or_ge x i with h | h
        · simp [hu.yes x h] at h1
        · exact h
      have hdeps : ∀ e ∈ o.after, Region.binds .any e = true → L[e.on]? = some true := fun e he hb => by
        have := h2 e he hb
        cases hy : L[e.on]? with
        | none => simp [hy] at this
        | some b => simp [hy] at this; rw [this]
      have hxe : x = i := by
        rcases Nat.lt_or_ge i x with h | h
        · have hb := seqOk_get hs hxl (by omega) i h
          have := hu.listed ha (masks_dep x i hb) fun o' ho' => by rw [ho] at ho'; cases ho'; exact hdeps
          omega
        · omega
      subst hxe
      rw [List.drop_eq_getElem_cons hil] at h
      have h' := h
      unfold wpList at h'
      unfold wpOp
      simp only [List.getElem?_toArray, hoi]
      have hnext : ∀ a' w2, wpList P l.toArray (lift n Q) (l.drop (x + 1)) a' w2 → wpAny P .any l.toArray (lift n Q) r (L.setIfInBounds x true) a' w2 := by
        intro a' w2 hw
        refine ih (x + 1) _ a' w2 (by omega) (by omega) (by omega) ⟨by simp [hu.size], fun j hj => ?_, fun j hj hjl => ?_⟩ hw
        · by_cases e : j = x
          · subst e; rw [Array.getElem?_setIfInBounds_self_of_lt (by rw [hu.size]; exact hil)]
          · rw [Array.getElem?_setIfInBounds_ne (Ne.symm e)]; exact hu.yes j (by omega)
        · rw [Array.getElem?_setIfInBounds_ne (by omega)]; exact hu.no j (by omega) hjl
      split
      · rename_i hw
        rw [if_pos hw] at h'
        rcases h' with h' | h'
        · exact .inl (Oper.wp_mono hnext h')
        · exact .inr h'
      · rename_i hw
        rw [if_neg hw] at h'
        exact hnext _ _ h'

/-- THE RULE: the first k in whatever order, the others behind them. -/
theorem W_region_tail {id : Nat} {w : World} (S : List Nat) (k : Nat) (ps : List (Value → World → Prop)) (hm : P.follows .mixedOrders = true) (ha : (afterOk l && dstsU l [] && dstIn S n l && Nat.ble k l.length && seqOk (masks l) k l.length) = true) (hst : Stab ps)
    (ms : List Nat) (hms : masks l = ms) (step : Steps1 P n l ms ps f0 w 0 (l.take k))
    (fin : ∀ g w', Ext [] w w' → (∀ j t, j < k → dstAt l j = some t → nthP ps j (g t) w') → ∃ L, Live g L ∧ (L.all fun p => S.elem p.1) = true ∧ WL P false n l Q (l.drop k) (updAll (mix S g f0) L) w') :
    W P n (.region id l.toArray true) Q f0 w := by
  subst hms
  rw [Bool.and_eq_true, Bool.and_eq_true, Bool.and_eq_true, Bool.and_eq_true] at ha
  obtain ⟨⟨⟨⟨ha, hu⟩, hin⟩, hkl⟩, hseq⟩ := ha
  have hkl := Nat.le_of_ble_eq_true hkl
  obtain ⟨_, huniq⟩ := dstsU_all hu
  have hlt := dstIn_all hin
  have main : ∀ (fuel : Nat) (L : Array Bool) (a : Act) (g : Fr) (w' w1 : World), count L = fuel → Is a g n → Sim w' w1 → Inv l (fun v => Ext [] w v) (nthP ps) f0 L g w' → (∀ j, k ≤ j → j < l.length → L[j]? = some false) → wpAny P .any l.toArray (lift n Q) fuel L a w1 := by
    have behind : ∀ (fuel : Nat) (L : Array Bool) (a : Act) (g : Fr) (w' w1 : World), count L = fuel → Is a g n → Sim w' w1 → Inv l (fun v => Ext [] w v) (nthP ps) f0 L g w' → (∀ j, k ≤ j → j < l.length → L[j]? = some false) → (∀ j, j < k → L[j]? = some true) → wpAny P .any l.toArray (lift n Q) fuel L a w1 := by
      intro fuel L a g w' w1 hc hg hs hinv hno hyes
      obtain ⟨L', h1, h2, h3⟩ := fin g w' hinv.world (fun j t hj hjt => hinv.done j t (hyes j hj) hjt)
      rw [(h1.mix h2).eq, mix_self (fun t ht => hinv.kept t fun j _ hj => by have := (hlt j t hj).1; rw [this] at ht; cases ht)] at h3
      have hup : Upto l k L := ⟨hinv.size, hyes, hno⟩
      have hcnt : count L = l.length - k := by
        have e : L.toList = List.replicate k true ++ List.replicate (l.length - k) false := by
          apply List.ext_getElem?
          intro j
          rw [Array.getElem?_toList]
          by_cases hj : j < k
          · rw [hyes j hj, List.getElem?_append_left (by simpa using hj)]; simp [hj]
          · by_cases hjl : j < l.length
            · rw [hno j (by omega) hjl, List.getElem?_append_right (by simp; omega), List.length_replicate, List.getElem?_replicate, if_pos (by omega)]
            · rw [Array.getElem?_eq_none (by rw [hinv.size]; omega), List.getElem?_eq_none (by simp; omega)]
        unfold count; rw [e, List.filter_append, List.length_append]; simp
      rw [← hc, hcnt]
      exact wpAny_tail ha hseq _ k L a w1 rfl hkl (Nat.le_refl _) hup (h3 a w1 hg hs)
    intro fuel
    induction fuel with
    | zero =>
      intro L a g w' w1 hc hg hs hinv hno
      refine behind _ L a g w' w1 hc hg hs hinv hno fun j hj => ?_
      cases hL : L[j]? with
      | none => rw [Array.getElem?_eq_none_iff, hinv.size] at hL; omega
      | some b => cases b with
        | true => rfl
        | false => have := count_set hL; omega
    | succ fuel ih =>
      intro L a g w' w1 hc hg hs hinv hno
      by_cases hall : ∀ j, j < k → L[j]? = some true
      · exact behind _ L a g w' w1 hc hg hs hinv hno hall
      have hex : ∃ j, j < k ∧ L[j]? = some false := by
        apply Classical.byContradiction
        intro hne
        refine hall fun j hj => ?_
        cases hL : L[j]? with
        | none => rw [Array.getElem?_eq_none_iff, hinv.size] at hL; omega
        | some b => cases b with
          | true => rfl
          | false => exact absurd ⟨j, hj, hL⟩ hne
      refine ⟨fun hr => ?_, fun i hi => ?_⟩
      · have := all_listed ha hinv.size hr
        obtain ⟨j, hj, hf⟩ := hex
        rw [this j (by omega)] at hf; cases hf
      obtain ⟨o, ho, h1, h2⟩ := ready_iff.1 hi
      have hil : i < l.length := by
        rcases Nat.lt_or_ge i l.length with h | h
        · exact h
        · rw [List.getElem?_eq_none h] at ho; cases ho
      have hLi : L[i]? = some false := by
        have : i < L.size := by rw [hinv.size]; exact hil
        simp [this] at h1 ⊢
        exact h1
      have hdeps : ∀ e ∈ o.after, Region.binds .any e = true → L[e.on]? = some true := fun e he hb => by
        have := h2 e he hb
        cases hx : L[e.on]? with
        | none => simp [hx] at this
        | some b => simp [hx] at this; rw [this]
      have hik : i < k := by
        rcases Nat.lt_or_ge i k with h | h
        · exact h
        · exfalso
          obtain ⟨j, hj, hf⟩ := hex
          have hb := seqOk_get hseq hil h j (by omega)
          have := (masks_dep i j hb).listed hinv fun o' ho' => by rw [ho] at ho'; cases ho'; exact hdeps
          rw [this] at hf; cases hf
      have hone := step.get i o (by rw [List.getElem?_take_of_lt hik]; exact ho)
      rw [Nat.zero_add] at hone
      have hone := hone g w' hinv.world
        (fun j t hb hj => hinv.done j t ((masks_dep i j hb).listed hinv fun o' ho' => by rw [ho] at ho'; cases ho'; exact hdeps) hj)
        (fun t hk => hinv.kept t fun j hj hjt => by
          rcases keptOk_spec (l := l) (k := 0) (by simp) hk j (Nat.zero_le _) hjt with e | hb
          · subst e; rw [hLi] at hj; cases hj
          · have := (masks_dep j i hb).listed hinv fun o' ho' e he hbe => hinv.closed j o' hj ho' e he hbe
            rw [hLi] at this; cases this)
      refine wpOp_WL ho hg hs (S := fun g' w2 => ∃ v, g' = putF g o.dst v ∧ Ext [] w' w2 ∧ nthP ps i v w2) hone ?_
      rintro g' w2 a' w3 ⟨v, rfl, e, hv⟩ hg' hs'
      have hdo : dstAt l i = o.dst := dstAt_some ho
      have hget : ∀ j, (L.setIfInBounds i true)[j]? = some true → j = i ∨ L[j]? = some true := by
        intro j hj
        by_cases hji : j = i
        · exact .inl hji
        · rw [Array.getElem?_setIfInBounds_ne (Ne.symm hji)] at hj; exact .inr hj
      have hgo : ∀ t, o.dst ≠ some t → putF g o.dst v t = g t := by
        intro t ht
        unfold putF
        cases hdd : o.dst with
        | none => rfl
        | some u => simp only; rw [upd_eq, if_neg (fun e => ht (by rw [hdd, e]))]
      have hset := count_set hLi
      have hcs : count (L.setIfInBounds i true) = fuel := by omega
      refine ih _ a' (putF g o.dst v) w2 w3 hcs hg' hs' ⟨by simp [hinv.size], hinv.world.tr e, fun j t hj hjt => ?_, fun t ht => ?_, fun j p hj hp e he hb => ?_⟩ ?_
      · rcases hget j hj with rfl | hj'
        · rw [hdo] at hjt; unfold putF; simp only [hjt]; rw [upd_eq, if_pos rfl]; exact hv
        · have hne : o.dst ≠ some t := fun e => by
            have := huniq i j t (hdo.trans e) hjt
            subst this; rw [hLi] at hj'; cases hj'
          rw [hgo t hne]; exact hst.get j _ _ _ (hinv.done j t hj' hjt) e
      · have hne : o.dst ≠ some t := fun e => ht i (by rw [Array.getElem?_setIfInBounds_self_of_lt (by rw [hinv.size]; exact hil)]) (hdo.trans e)
        rw [hgo t hne]
        refine hinv.kept t fun j hj => ht j ?_
        by_cases hji : j = i
        · subst hji; rw [hLi] at hj; cases hj
        · rw [Array.getElem?_setIfInBounds_ne (Ne.symm hji)]; exact hj
      · have mark : L[e.on]? = some true → (L.setIfInBounds i true)[e.on]? = some true := fun h => by
          by_cases hei : e.on = i
          · rw [hei, Array.getElem?_setIfInBounds_self_of_lt (by rw [hinv.size]; exact hil)]
          · rw [Array.getElem?_setIfInBounds_ne (Ne.symm hei)]; exact h
        rcases hget j hj with rfl | hj'
        · rw [ho] at hp; cases hp; exact mark (hdeps e he hb)
        · exact mark (hinv.closed j p hj' hp e he hb)
      · intro j hj hjl
        rw [Array.getElem?_setIfInBounds_ne (by omega)]; exact hno j hj hjl
  intro a w1 hf hs
  refine wp_region_any hm (main _ _ a f0 w _ ?_ hf (hs.trans (Sim.drawn _ _)) ?_ ?_)
  · simp [count]
  · have hrep : ∀ j, (Array.replicate l.toArray.size false)[j]? ≠ some true := fun j h => by
      rw [Array.getElem?_replicate] at h; split at h <;> cases h
    exact ⟨by simp, Ext.refl _ _, fun j t hj => absurd hj (hrep j), fun _ _ => rfl, fun j o hj => absurd hj (hrep j)⟩
  · intro j _ hj; simp [Array.getElem?_replicate, hj]
end
end Go.Wk
