/- A region that draws its order: one rule for whatever order. -/
import Derived.Test.YtdgcgifigkfeaaaWkD
namespace Go.Wk
open Go

/-- The slots that an operation looks at. -/
def opTmps (o : Oper) : List Nat := o.op.operands.toList.filterMap fun | .tmp t => some t | _ => none
def reads (l : List Oper) (o : Oper) : List Nat := opTmps o ++ (match o.guard with | some (j, _) => (dstAt l j).toList | none => [])
/-- Which operations stand ahead of each, in whatever order. -/
def reachGo : List Oper → List (List Nat) → List (List Nat)
  | [], acc => acc
  | o :: r, acc => reachGo r (acc ++ [(o.after.toList.filter (Region.binds .any)).flatMap fun e => e.on :: acc.getD e.on []])
def reach (l : List Oper) : List (List Nat) := reachGo l []
def afterOk (l : List Oper) : Bool := l.zipIdx.all fun (o, i) => o.after.toList.all fun e => !Region.binds .any e || Nat.blt e.on i
def isSelect (o : Oper) : Bool := match o.op with | .select .. => true | _ => false

/-- What one operation may do: run to a value; do a thing without a value; enter a function. -/
def OpRun (P : Program) (o : Oper) (g : Fr) (w : World) (R : Value → World → Prop) : Prop :=
  (∀ w1, Sim w w1 → ∃ v w2 w', (execOp (ev g) o).run P w1 = .ok (.value v) w2 ∧ Sim w' w2 ∧ R v w') ∨
  (∀ w1, Sim w w1 → ∃ w2 w', (execOp (ev g) o).run P w1 = .ok .skip w2 ∧ Sim w' w2 ∧ R undef w') ∨
  (∃ K args, (∀ w1, Sim w w1 → (execOp (ev g) o).run P w1 = .ok (.enter K args) w1) ∧ CallR P K args.toList w R)
/-- .. or be passed over. -/
def OpOK (P : Program) (l : List Oper) (o : Oper) (g : Fr) (w : World) (R : Value → World → Prop) : Prop :=
  match o.guard with
  | none => OpRun P o g w R
  | some (j, want) => ∃ dj x, dstAt l j = some dj ∧ g dj = x ∧ ((x = .bool want ∧ OpRun P o g w R) ∨ ((x = .bool (!want) ∨ x = undef) ∧ R undef w))

section
variable {P : Program} {n : Nat} {l : List Oper} {Q : Exit → Fr → World → Prop} {f0 : Fr} {w0 : World}

theorem Is.putO {a : Act} {f : Fr} {n : Nat} (h : Is a f n) {d : Option Nat} (hd : ∀ t, d = some t → t < n) (v : Value) : Is (a.put d v) (putF f d v) n := by
  cases d with
  | none => exact h
  | some t => exact h.put (hd t rfl) v

theorem run_one {o : Oper} {g : Fr} {w w1 : World} {a : Act} {R : Value → World → Prop} {K : Act → World → Prop} {QQ : Exit → Act → World → Prop} (ha : Is a g n) (hs : Sim w w1)
    (h : OpRun P o g w R) (k : ∀ v w' w2, R v w' → Sim w' w2 → K (a.put o.dst v) w2) : o.wp P a w1 K QQ := by
  unfold Oper.wp
  rw [ha.eval]
  rcases h with h | h | ⟨Kf, args, hr, hc⟩
  · obtain ⟨v, w2, w', hr, hs', r⟩ := h w1 hs
    rw [hr, Oper.upon_value]; exact k v w' w2 r hs'
  · obtain ⟨w2, w', hr, hs', r⟩ := h w1 hs
    rw [hr, Oper.upon_skip]; exact k undef w' w2 r hs'
  · rw [hr w1 hs, Oper.upon_enter]
    have : args.toList.toArray = args := by simp
    have hc' := hc w1 hs
    rw [this] at hc'
    refine Calls.mono hc' ?_
    rintro e w2 ⟨v, w', rfl, hs', r⟩
    exact k v w' w2 r hs'

theorem wpOp_OK {i : Nat} {o : Oper} (ho : l[i]? = some o) {g : Fr} {w w1 : World} {a : Act} {R : Value → World → Prop} {K : Act → World → Prop} {QQ : Exit → Act → World → Prop} (ha : Is a g n) (hs : Sim w w1)
    (hn : ∀ (j : Nat) (t : Nat), dstAt l j = some t → t < n) (h : OpOK P l o g w R) (k : ∀ v w' w2, R v w' → Sim w' w2 → K (a.put o.dst v) w2) : wpOp P l.toArray QQ i K a w1 := by
  unfold wpOp
  simp only [List.getElem?_toArray, ho]
  unfold OpOK at h
  split at h
  · rename_i hg
    rw [if_pos (by simp [Region.wanted, hg])]
    exact .inl (run_one ha hs h k)
  · rename_i j want hg
    obtain ⟨dj, x, hj, hx, h⟩ := h
    have hy := yielded_eq (ops := l) ha hj (hn _ _ hj) hx
    rcases h with ⟨rfl, h⟩ | ⟨hx', r⟩
    · rw [if_pos (by simp [Region.wanted, hg, hy])]
      exact .inl (run_one ha hs h k)
    · rw [if_neg (by rcases hx' with rfl | rfl <;> simp [Region.wanted, hg, hy, undef])]
      exact k undef w w1 r hs

/-- The invariant of a drawn region: 'L': what has been done. -/
structure Inv (l : List Oper) (I : World → Prop) (Φ : Nat → Value → World → Prop) (f0 : Fr) (L : Array Bool) (g : Fr) (w : World) : Prop where
  size : L.size = l.length
  world : I w
  done : ∀ j t, L[j]? = some true → dstAt l j = some t → Φ j (g t) w
  kept : ∀ t, (∀ j, L[j]? = some true → dstAt l j ≠ some t) → g t = f0 t
  closed : ∀ (j : Nat) (o : Oper), L[j]? = some true → l[j]? = some o → ∀ e ∈ o.after, Region.binds .any e = true → L[e.on]? = some true

def count (L : Array Bool) : Nat := (L.toList.filter (· = false)).length
theorem count_set {L : Array Bool} {i : Nat} (h : L[i]? = some false) : count (L.setIfInBounds i true) + 1 = count L := by
  obtain ⟨L⟩ := L
  simp only [List.getElem?_toArray] at h
  simp only [count, List.setIfInBounds_toArray]
  induction L generalizing i with
  | nil => simp at h
  | cons b r ih =>
    cases i with
    | zero => simp at h; subst h; simp
    | succ i => simp at h; have := ih h; simp [List.filter_cons] at this ⊢; split <;> simp_all

theorem ready_iff {L : Array Bool} {i : Nat} : i ∈ Region.ready .any l.toArray L ↔ ∃ o, l[i]? = some o ∧ L.getD i true = false ∧ ∀ e ∈ o.after, Region.binds .any e = true → L.getD e.on false = true := by
  unfold Region.ready
  rw [List.mem_filter]
  constructor
  · rintro ⟨_, h⟩
    cases ho : l[i]? with
    | none => simp [ho] at h
    | some o =>
      simp [ho] at h
      refine ⟨o, rfl, by simpa using h.1, fun e he hb => ?_⟩
      obtain ⟨k, hk⟩ := Array.getElem?_of_mem he
      have hlt : k < o.after.size := by
        rcases Nat.lt_or_ge k o.after.size with h | h
        · exact h
        · rw [Array.getElem?_eq_none h] at hk; cases hk
      have hk' : o.after[k] = e := by simpa [Array.getElem?_eq_getElem hlt] using hk
      have := h.2 k hlt
      rw [hk'] at this
      rcases this with h | h
      · rw [hb] at h; cases h
      · simpa using h
  · rintro ⟨o, ho, h1, h2⟩
    have hlt : i < l.length := by
      rcases Nat.lt_or_ge i l.length with h | h
      · exact h
      · rw [List.getElem?_eq_none h] at ho; cases ho
    refine ⟨by simpa using hlt, ?_⟩
    simp [ho]
    refine ⟨by simpa using h1, fun k hk => ?_⟩
    have := h2 o.after[k] (Array.getElem_mem hk)
    cases hb : Region.binds .any o.after[k] with
    | false => exact .inl rfl
    | true => exact .inr (by simpa using this hb)

theorem dstAt_some {l : List Oper} : ∀ {i : Nat} {o : Oper}, l[i]? = some o → dstAt l i = o.dst := by
  induction l with
  | nil => intro i o h; simp at h
  | cons x r ih => intro i o h; cases i with
    | zero => simp at h; subst h; rfl
    | succ i => simp at h; simp [dstAt, ih h]
theorem dstAt_lt {l : List Oper} : ∀ {i t : Nat}, dstAt l i = some t → ∃ o, l[i]? = some o ∧ o.dst = some t := by
  induction l with
  | nil => intro i t h; simp [dstAt] at h
  | cons x r ih => intro i t h; cases i with
    | zero => exact ⟨x, rfl, h⟩
    | succ i => obtain ⟨o, h1, h2⟩ := ih (i := i) h; exact ⟨o, by simpa using h1, h2⟩

theorem all_listed {L : Array Bool} (ha : afterOk l = true) (hs : L.size = l.length) (h : Region.ready .any l.toArray L = []) : ∀ i, i < l.length → L[i]? = some true := by
  intro i
  induction i using Nat.strongRecOn with
  | _ i ih =>
    intro hi
    have ho : l[i]? = some l[i] := by simp [hi]
    cases hL : L[i]? with
    | none => rw [Array.getElem?_eq_none_iff] at hL; omega
    | some b =>
      cases b with
      | true => rfl
      | false =>
        exfalso
        have hmem : i ∈ Region.ready .any l.toArray L := by
          rw [ready_iff]
          refine ⟨l[i], ho, by simp [hL], fun e he hb => ?_⟩
          have hlt : e.on < i := by
            unfold afterOk at ha
            rw [List.all_eq_true] at ha
            have := ha (l[i], i) (by
              rw [List.mem_iff_getElem?]
              exact ⟨i, by simp [hi]⟩)
            simp only [List.all_eq_true] at this
            have := this e (by simpa using he)
            rw [hb] at this
            simpa [Nat.blt_eq] using this
          have := ih e.on hlt (by omega)
          simp [this]
        rw [h] at hmem
        cases hmem

/-- THE RULE: whatever order the tape draws. -/
theorem wpAny_inv {I : World → Prop} {Φ : Nat → Value → World → Prop} (ha : afterOk l = true) (hn : ∀ (j : Nat) (t : Nat), dstAt l j = some t → t < n)
    (hd : ∀ (i j : Nat) (t : Nat), dstAt l i = some t → dstAt l j = some t → i = j)
    (step : ∀ (i : Nat) (o : Oper) (L : Array Bool) (g : Fr) (w : World), l[i]? = some o → Inv l I Φ f0 L g w → L[i]? = some false → (∀ e ∈ o.after, Region.binds .any e = true → L[e.on]? = some true) →
      OpOK P l o g w (fun v w' => I w' ∧ Φ i v w' ∧ ∀ j u, Φ j u w → Φ j u w'))
    (fin : ∀ g w, I w → (∀ j t, dstAt l j = some t → Φ j (g t) w) → (∀ t, (∀ j, dstAt l j ≠ some t) → g t = f0 t) → Q .normal g w) :
    ∀ (fuel : Nat) (L : Array Bool) (a : Act) (g : Fr) (w w1 : World), count L = fuel → Is a g n → Sim w w1 → Inv l I Φ f0 L g w → wpAny P .any l.toArray (lift n Q) fuel L a w1 := by
  have finish : ∀ (L : Array Bool) (a : Act) (g : Fr) (w w1 : World), Is a g n → Sim w w1 → Inv l I Φ f0 L g w → (∀ i, i < l.length → L[i]? = some true) → lift n Q .normal a w1 := by
    intro L a g w w1 hg hs hinv hall
    refine ⟨g, w, hg, hs, fin g w hinv.world (fun j t hj => ?_) (fun t ht => hinv.kept t fun j _ => ht j)⟩
    obtain ⟨o, ho, _⟩ := dstAt_lt hj
    have hlt : j < l.length := by
      rcases Nat.lt_or_ge j l.length with h | h
      · exact h
      · rw [List.getElem?_eq_none h] at ho; cases ho
    exact hinv.done j t (hall j hlt) hj
  intro fuel
  induction fuel with
  | zero =>
    intro L a g w w1 hc hg hs hinv
    have hall : ∀ i, i < l.length → L[i]? = some true := by
      intro i hi
      cases hL : L[i]? with
      | none => rw [Array.getElem?_eq_none_iff, hinv.size] at hL; omega
      | some b => cases b with
        | true => rfl
        | false => have := count_set hL; omega
    refine ⟨?_, finish L a g w w1 hg hs hinv hall⟩
    cases hr : Region.ready .any l.toArray L with
    | nil => rfl
    | cons i r =>
      have hm : i ∈ Region.ready .any l.toArray L := by rw [hr]; simp
      obtain ⟨o, ho, h1, _⟩ := ready_iff.1 hm
      have hlt : i < l.length := by
        rcases Nat.lt_or_ge i l.length with h | h
        · exact h
        · rw [List.getElem?_eq_none h] at ho; cases ho
      simp [hall i hlt] at h1
  | succ fuel ih =>
    intro L a g w w1 hc hg hs hinv
    refine ⟨fun hr => finish L a g w w1 hg hs hinv (all_listed ha hinv.size hr), fun i hi => ?_⟩
    obtain ⟨o, ho, h1, h2⟩ := ready_iff.1 hi
    have hlt : i < l.length := by
      rcases Nat.lt_or_ge i l.length with h | h
      · exact h
      · rw [List.getElem?_eq_none h] at ho; cases ho
    have hLi : L[i]? = some false := by
      have : i < L.size := by rw [hinv.size]; exact hlt
      simp [this] at h1 ⊢
      exact h1
    have hdeps : ∀ e ∈ o.after, Region.binds .any e = true → L[e.on]? = some true := fun e he hb => by
      have := h2 e he hb
      cases hx : L[e.on]? with
      | none => simp [hx] at this
      | some b => simp [hx] at this; rw [this]
    refine wpOp_OK ho hg hs hn (step i o L g w ho hinv hLi hdeps) ?_
    rintro v w' w2 ⟨hI, hΦ, hst⟩ hs'
    have hdo : dstAt l i = o.dst := dstAt_some ho
    refine ih _ _ (putF g o.dst v) w' w2 (by have := count_set hLi; omega) (hg.putO (d := o.dst) (fun t ht => hn i t (hdo.trans ht)) v) hs' ?_
    have hget : ∀ j, (L.setIfInBounds i true)[j]? = some true → j = i ∨ L[j]? = some true := by
      intro j hj
      by_cases hji : j = i
      · exact .inl hji
      · rw [Array.getElem?_setIfInBounds_ne (Ne.symm hji)] at hj; exact .inr hj
    have hgo : ∀ t, o.dst ≠ some t → putF g o.dst v t = g t := by
      intro t ht
      unfold putF
      cases hdd : o.dst with
      | none => rfl
      | some u => simp only; rw [upd_eq, if_neg (fun e => ht (by rw [hdd, e]))]
    refine ⟨by simp [hinv.size], hI, fun j t hj hjt => ?_, fun t ht => ?_, fun j p hj hp e he hb => ?_⟩
    · rcases hget j hj with rfl | hj'
      · rw [hdo] at hjt; unfold putF; simp only [hjt]; rw [upd_eq, if_pos rfl]; exact hΦ
      · have hne : o.dst ≠ some t := fun e => by
          have := hd i j t (hdo.trans e) hjt
          subst this; rw [hLi] at hj'; cases hj'
        rw [hgo t hne]; exact hst j _ (hinv.done j t hj' hjt)
    · have hne : o.dst ≠ some t := fun e => ht i (by rw [Array.getElem?_setIfInBounds_self_of_lt (by rw [hinv.size]; exact hlt)]) (hdo.trans e)
      rw [hgo t hne]
      refine hinv.kept t fun j hj => ht j ?_
      by_cases hji : j = i
      · subst hji; rw [hLi] at hj; cases hj
      · rw [Array.getElem?_setIfInBounds_ne (Ne.symm hji)]; exact hj
    · have mark : L[e.on]? = some true → (L.setIfInBounds i true)[e.on]? = some true := fun h => by
        by_cases hei : e.on = i
        · rw [hei, Array.getElem?_setIfInBounds_self_of_lt (by rw [hinv.size]; exact hlt)]
        · rw [Array.getElem?_setIfInBounds_ne (Ne.symm hei)]; exact h
      rcases hget j hj with rfl | hj'
      · rw [ho] at hp; cases hp; exact mark (hdeps e he hb)
      · exact mark (hinv.closed j p hj' hp e he hb)
theorem W_region_inv {id : Nat} {w : World} {I : World → Prop} {Φ : Nat → Value → World → Prop} (hm : P.follows .mixedOrders = true) (ha : afterOk l = true) (hn : ∀ (j : Nat) (t : Nat), dstAt l j = some t → t < n)
    (hd : ∀ (i j : Nat) (t : Nat), dstAt l i = some t → dstAt l j = some t → i = j) (hI : I w)
    (step : ∀ (i : Nat) (o : Oper) (L : Array Bool) (g : Fr) (w : World), l[i]? = some o → Inv l I Φ f0 L g w → L[i]? = some false → (∀ e ∈ o.after, Region.binds .any e = true → L[e.on]? = some true) →
      OpOK P l o g w (fun v w' => I w' ∧ Φ i v w' ∧ ∀ j u, Φ j u w → Φ j u w'))
    (fin : ∀ g w, I w → (∀ j t, dstAt l j = some t → Φ j (g t) w) → (∀ t, (∀ j, dstAt l j ≠ some t) → g t = f0 t) → Q .normal g w) :
    W P n (.region id l.toArray true) Q f0 w := fun a w1 hf hs => by
  refine wp_region_any hm (wpAny_inv ha hn hd step fin _ _ a f0 w _ ?_ hf (hs.trans (Sim.drawn _ _)) ?_)
  · simp [count]
  · have hrep : ∀ j, (Array.replicate l.toArray.size false)[j]? ≠ some true := fun j h => by
      rw [Array.getElem?_replicate] at h; split at h <;> cases h
    exact ⟨by simp, hI, fun j t hj => absurd hj (hrep j), fun _ _ => rfl, fun j o hj => absurd hj (hrep j)⟩
end
end Go.Wk
