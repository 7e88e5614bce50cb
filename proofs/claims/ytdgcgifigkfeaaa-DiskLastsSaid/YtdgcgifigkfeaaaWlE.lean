/- A region that draws its order: each operation by itself, under whatever is known when it comes. -/
import Derived.Test.YtdgcgifigkfeaaaWlC
namespace Go.Wl
open Go Go.Wk

def setD (D : Nat → Bool) (i : Nat) : Nat → Bool := fun j => bif Nat.beq j i then true else D j
def setV (V : Nat → Value) (i : Nat) (v : Value) : Nat → Value := fun j => bif Nat.beq j i then v else V j
theorem setD_self {D : Nat → Bool} {i : Nat} : setD D i i = true := by unfold setD; rw [Nat.beq_refl]; rfl
theorem setD_ne {D : Nat → Bool} {i j : Nat} (h : j ≠ i) : setD D i j = D j := by unfold setD; rw [beq_ne h]; rfl
theorem setV_self {V : Nat → Value} {i : Nat} {v : Value} : setV V i v i = v := by unfold setV; rw [Nat.beq_refl]; rfl
theorem setV_ne {V : Nat → Value} {i j : Nat} {v : Value} (h : j ≠ i) : setV V i v j = V j := by unfold setV; rw [beq_ne h]; rfl
abbrev JP := (Nat → Bool) → (Nat → Value) → World → Prop
section
variable {P : Program} {n : Nat} {l : List Oper} {Q : Exit → Fr → World → Prop} {f0 : Fr}
/-- What is shown of one operation. -/
def OneJ (P : Program) (n : Nat) (l : List Oper) (ms : List Nat) (J : JP) (f0 : Fr) (i : Nat) (o : Oper) : Prop :=
  ∀ D V g w, J D V w → D i = false → (∀ j, (ms.getD i 0).testBit j = true → D j = true) → (∀ j, (ms.getD j 0).testBit i = true → D j = false) → (∀ j t, D j = true → dstAt l j = some t → g t = V j) → (∀ t, keptOk ms i t l 0 = true → g t = f0 t) →
    WL P false n l (fun e g' w' => e = .normal ∧ ∃ v, g' = putF g o.dst v ∧ J (setD D i) (setV V i v) w') [o] g w
inductive StepsJ (P : Program) (n : Nat) (l : List Oper) (ms : List Nat) (J : JP) (f0 : Fr) : Nat → List Oper → Prop
  | nil {i : Nat} : StepsJ P n l ms J f0 i []
  | cons {i : Nat} {o : Oper} {r : List Oper} : OneJ P n l ms J f0 i o → StepsJ P n l ms J f0 (i + 1) r → StepsJ P n l ms J f0 i (o :: r)
theorem StepsJ.get {ms : List Nat} {J : JP} {k : Nat} {r : List Oper} (h : StepsJ P n l ms J f0 k r) : ∀ x o, r[x]? = some o → OneJ P n l ms J f0 (k + x) o := by
  induction h with
  | nil => intro x o h; simp at h
  | @cons i o r h _ ih => intro x o' ho; cases x with
    | zero => simp at ho; subst ho; exact h
    | succ x =>
      have := ih x o' (by simpa using ho)
      rwa [show i + 1 + x = i + (x + 1) by omega] at this
structure InvJ (l : List Oper) (J : JP) (f0 : Fr) (L : Array Bool) (V : Nat → Value) (g : Fr) (w : World) : Prop where
  size : L.size = l.length
  inv : J (fun j => L.getD j false) V w
  done : ∀ j t, L[j]? = some true → dstAt l j = some t → g t = V j
  kept : ∀ t, (∀ j, L[j]? = some true → dstAt l j ≠ some t) → g t = f0 t
  closed : ∀ (j : Nat) (o : Oper), L[j]? = some true → l[j]? = some o → ∀ e ∈ o.after, Region.binds .any e = true → L[e.on]? = some true
theorem InvJ.old {J : JP} {L : Array Bool} {V : Nat → Value} {g : Fr} {w : World} (h : InvJ l J f0 L V g w) : Inv l (fun _ => True) (fun _ _ _ => True) f0 L g w :=
  ⟨h.size, trivial, fun _ _ _ _ => trivial, h.kept, h.closed⟩
theorem getD_true {L : Array Bool} {j : Nat} (h : L.getD j false = true) : L[j]? = some true := by
  rw [Array.getD_eq_getD_getElem?] at h
  cases hL : L[j]? with
  | none => rw [hL] at h; cases h
  | some b => rw [hL] at h; simp at h; rw [h]
theorem W_region_J {id : Nat} {w : World} (J : JP) (S : List Nat) (hm : P.follows .mixedOrders = true) (ha : (afterOk l && dstsU l [] && dstIn S n l) = true)
    (ms : List Nat) (hms : masks l = ms) (h0 : ∀ V, J (fun _ => false) V w) (step : StepsJ P n l ms J f0 0 l)
    (fin : ∀ D V g w', (∀ j, Nat.blt j l.length = true → D j = true) → J D V w' → (∀ j t, Nat.blt j l.length = true → dstAt l j = some t → g t = V j) → (∀ t, S.elem t = false → g t = f0 t) → ∃ L, Live g L ∧ ∀ g', Q .normal (updAll g' L) w') :
    W P n (.region id l.toArray true) Q f0 w := by
  subst hms
  rw [Bool.and_eq_true, Bool.and_eq_true] at ha
  obtain ⟨⟨ha, hu⟩, hin⟩ := ha
  obtain ⟨_, huniq⟩ := dstsU_all hu
  have hlt := dstIn_all hin
  have main : ∀ (fuel : Nat) (L : Array Bool) (a : Act) (V : Nat → Value) (g : Fr) (w' w1 : World), count L = fuel → Is a g n → Sim w' w1 → InvJ l J f0 L V g w' → wpAny P .any l.toArray (lift n Q) fuel L a w1 := by
    have finish : ∀ (L : Array Bool) (a : Act) (V : Nat → Value) (g : Fr) (w' w1 : World), Is a g n → Sim w' w1 → InvJ l J f0 L V g w' → (∀ i, i < l.length → L[i]? = some true) → lift n Q .normal a w1 := by
      intro L a V g w' w1 hg hs hinv hall
      have ⟨L', h1, h2⟩ := fin _ V g w' (fun j hj => by rw [Array.getD_eq_getD_getElem?, hall j (blt_lt hj)]; rfl) hinv.inv (fun j t hj hjt => hinv.done j t (hall j (blt_lt hj)) hjt) (fun t ht => hinv.kept t fun j _ hj => by have := (hlt j t hj).1; rw [this] at ht; cases ht)
      have h3 := h2 g
      rw [h1.eq] at h3
      exact ⟨g, w', hg, hs, h3⟩
    intro fuel
    induction fuel with
    | zero =>
      intro L a V g w' w1 hc hg hs hinv
      have hall : ∀ i, i < l.length → L[i]? = some true := by
        intro i hi
        cases hL : L[i]? with
        | none => rw [Array.getElem?_eq_none_iff, hinv.size] at hL; omega
        | some b => cases b with
          | true => rfl
          | false => have := count_set hL; omega
      refine ⟨?_, finish L a V g w' w1 hg hs hinv hall⟩
      cases hr : Region.ready .any l.toArray L with
      | nil => rfl
      | cons i r =>
        have hm : i ∈ Region.ready .any l.toArray L := by rw [hr]; simp
        obtain ⟨o, ho, h1, _⟩ := ready_iff.1 hm
        have hlt : i < l.length := by
          rcases Nat.lt_or_ge i l.length with h | h
          · exact h
          · rw [List.getElem?_eq_none h] at ho; cases ho
        simp [hall i hlt] at h1
    | succ fuel ih =>
      intro L a V g w' w1 hc hg hs hinv
      refine ⟨fun hr => finish L a V g w' w1 hg hs hinv (all_listed ha hinv.size hr), fun i hi => ?_⟩
      obtain ⟨o, ho, h1, h2⟩ := ready_iff.1 hi
      have hil : i < l.length := by
        rcases Nat.lt_or_ge i l.length with h | h
        · exact h
        · rw [List.getElem?_eq_none h] at ho; cases ho
      have hiL : i < L.size := by rw [hinv.size]; exact hil
      have hLi : L[i]? = some false := by
        simp [hiL] at h1 ⊢
        exact h1
      have hdeps : ∀ e ∈ o.after, Region.binds .any e = true → L[e.on]? = some true := fun e he hb => by
        have := h2 e he hb
        cases hx : L[e.on]? with
        | none => simp [hx] at this
        | some b => simp [hx] at this; rw [this]
      have hone := step.get i o ho
      rw [Nat.zero_add] at hone
      have hone := hone (fun j => L.getD j false) V g w' hinv.inv (by rw [Array.getD_eq_getD_getElem?, hLi]; rfl)
        (fun j hb => by
          have := (masks_dep i j hb).listed hinv.old fun o' ho' => by rw [ho] at ho'; cases ho'; exact hdeps
          rw [Array.getD_eq_getD_getElem?, this]; rfl)
        (fun j hb => by
          cases hx : L.getD j false with
          | false => rfl
          | true =>
            exfalso
            have hj := getD_true hx
            have := (masks_dep j i hb).listed hinv.old fun o' ho' e he hbe => hinv.closed j o' hj ho' e he hbe
            rw [hLi] at this; cases this)
        (fun j t hj hjt => hinv.done j t (getD_true hj) hjt)
        (fun t hk => hinv.kept t fun j hj hjt => by
          rcases keptOk_spec (l := l) (k := 0) (by simp) hk j (Nat.zero_le _) hjt with e | hb
          · subst e; rw [hLi] at hj; cases hj
          · have := (masks_dep j i hb).listed hinv.old fun o' ho' e he hbe => hinv.closed j o' hj ho' e he hbe
            rw [hLi] at this; cases this)
      refine wpOp_WL ho hg hs (S := fun g' w2 => ∃ v, g' = putF g o.dst v ∧ J (setD (fun j => L.getD j false) i) (setV V i v) w2) hone ?_
      rintro g' w2 a' w3 ⟨v, rfl, hv⟩ hg' hs'
      have hdo : dstAt l i = o.dst := dstAt_some ho
      have hget : ∀ j, (L.setIfInBounds i true)[j]? = some true → j = i ∨ L[j]? = some true := by
        intro j hj
        by_cases hji : j = i
        · exact .inl hji
        · rw [Array.getElem?_setIfInBounds_ne (Ne.symm hji)] at hj; exact .inr hj
      have hgo : ∀ t, o.dst ≠ some t → putF g o.dst v t = g t := by
        intro t ht
        unfold putF
        cases hdd : o.dst with
        | none => rfl
        | some u => simp only; rw [upd_eq, if_neg (fun e => ht (by rw [hdd, e]))]
      have hDD : setD (fun j => L.getD j false) i = fun j => (L.setIfInBounds i true).getD j false := by
        funext j
        by_cases hji : j = i
        · subst hji; rw [setD_self, Array.getD_eq_getD_getElem?, Array.getElem?_setIfInBounds_self_of_lt hiL]; rfl
        · rw [setD_ne hji, Array.getD_eq_getD_getElem?, Array.getD_eq_getD_getElem?, Array.getElem?_setIfInBounds_ne (Ne.symm hji)]
      rw [hDD] at hv
      refine ih _ a' (setV V i v) (putF g o.dst v) w2 w3 (by have := count_set hLi; omega) hg' hs' ⟨by simp [hinv.size], hv, fun j t hj hjt => ?_, fun t ht => ?_, fun j p hj hp e he hb => ?_⟩
      · rcases hget j hj with e | hj'
        · rw [e] at hjt ⊢
          rw [setV_self]; rw [hdo] at hjt; unfold putF; simp only [hjt]; rw [upd_eq, if_pos rfl]
        · have hji : j ≠ i := fun e => by rw [e, hLi] at hj'; cases hj'
          have hne : o.dst ≠ some t := fun e => hji (huniq j i t hjt (hdo.trans e))
          rw [hgo t hne, setV_ne hji]; exact hinv.done j t hj' hjt
      · have hne : o.dst ≠ some t := fun e => ht i (by rw [Array.getElem?_setIfInBounds_self_of_lt hiL]) (hdo.trans e)
        rw [hgo t hne]
        refine hinv.kept t fun j hj => ht j ?_
        by_cases hji : j = i
        · subst hji; rw [hLi] at hj; cases hj
        · rw [Array.getElem?_setIfInBounds_ne (Ne.symm hji)]; exact hj
      · have mark : L[e.on]? = some true → (L.setIfInBounds i true)[e.on]? = some true := fun h => by
          by_cases hei : e.on = i
          · rw [hei, Array.getElem?_setIfInBounds_self_of_lt hiL]
          · rw [Array.getElem?_setIfInBounds_ne (Ne.symm hei)]; exact h
        rcases hget j hj with rfl | hj'
        · rw [ho] at hp; cases hp; exact mark (hdeps e he hb)
        · exact mark (hinv.closed j p hj' hp e he hb)
  intro a w1 hf hs
  have hrep : ∀ j, (Array.replicate l.toArray.size false)[j]? ≠ some true := fun j h => by
    rw [Array.getElem?_replicate] at h; split at h <;> cases h
  refine wp_region_any hm (main _ _ a (fun _ => undef) f0 w _ ?_ hf (hs.trans (Sim.drawn _ _)) ⟨by simp, ?_, fun j t hj => absurd hj (hrep j), fun _ _ => rfl, fun j o hj => absurd hj (hrep j)⟩)
  · simp [count]
  · have : (fun j => (Array.replicate l.toArray.size false).getD j false) = fun _ => false := by
      funext j
      cases h : (Array.replicate l.toArray.size false).getD j false with
      | false => rfl
      | true => exact absurd (getD_true h) (hrep j)
    rw [this]; exact h0 _
end
end Go.Wl
namespace Go.Wl
open Go Go.Wk
/-- No part. -/
abbrev iNil : It := ⟨[], [], fun _ _ => True⟩
theorem Sep.nilA {B0 : List Nat} {w0 w : World} {Z : Nat → Prop} {l : List It} (hs : Sep B0 w0 Z w l) : Sep B0 w0 Z w (iNil :: l) := hs.fact trivial (fun _ _ _ _ _ _ _ _ _ => trivial) rfl rfl
section
variable {α β : Type} {r : Rd α} {s : Rd β} {Z : Nat → Prop} {w : World} {A : Option Addr} {nn cap : Nat} {l : List α} {bs : List Nat}
/-- A part of an element of a slice of the call's own. -/
theorem cell_ac [Inhabited α] {o q sz : Nat} {i : Int} {g : α → β} (h : Ac r Z w (.slice A nn cap) l bs) (sub : Sub r o s g) (hsz : r.sz = sz) (hq : q = i.toNat * sz + o) (h0 : 0 ≤ i) (h1 : i < nn) :
    ∃ c, CellsA w (eA A q) c ∧ s.rd Z w c (g (ix l i)) := by
  subst hsz; subst hq
  rcases h with ⟨e, rfl, rfl⟩ | ⟨b, cap', C, T, hv, rfl, ho, hC, hle, hc⟩
  · simp at e; omega
  · simp at hv
    obtain ⟨rfl, rfl, rfl⟩ := hv
    have hi : i.toNat < l.length := by omega
    obtain ⟨c, g1, g2, g3⟩ := hc i.toNat hi
    have hs := sub.1
    refine ⟨(c.drop o).take s.sz, ⟨rfl, _, _, _, ho, fun j hj => ?_⟩, by rw [ix_get hi]; exact sub.2 g3⟩
    simp only [List.length_take, List.length_drop] at hj
    have := g2 (o + j) (by omega)
    rw [List.getElem?_take, if_pos (by omega), List.getElem?_drop, ← this]
    show C.toArray[0 + (i.toNat * r.sz + o) + j]? = _
    simp only [List.getElem?_toArray]
    congr 1; omega
theorem Ac.len (h : Ac r Z w (.slice A nn cap) l bs) : l.length = nn := by
  obtain ⟨A', cap', e⟩ := h.val
  simp at e; exact e.2.1.symm
section
variable {P : Program} {m : Bool} {n : Nat} {ops : List Oper} {Q : Exit → Fr → World → Prop} {rest : List Oper} {f : Fr} {d sz : Nat} {ty T E : TypeId} {pos : String} {after : Array Edge} {x y : Operand} {k : IntKind} {i : Int}
theorem Z_indexAc (h : Ac r Z w (.slice A nn cap) l bs) (hT : ∀ w, (underlying T).run P w = .ok (.slice E) w) (hE : ∀ w, (sizeOf E).run P w = .ok sz w) (hx : ev f x = .slice A nn cap) (hy : ev f y = .int k i)
    (h0 : 0 ≤ i) (h1 : i < nn) (hn : Nat.blt d n = true) (K : WL P m n ops Q rest (upd f d (.pointer (some (eA A (i.toNat * sz))))) w) :
    WL P m n ops Q (⟨some d, .indexAddr T x y, ty, pos, after, none⟩ :: rest) f w := by
  rcases h with ⟨e, rfl, rfl⟩ | ⟨b, cap', C, T, hv, rfl, ho, hC, hle, hc⟩
  · simp at e; omega
  · simp at hv
    obtain ⟨rfl, rfl, rfl⟩ := hv
    refine WL_val rfl rfl hn (v := .pointer (some ⟨b, 0 + i.toNat * sz, none⟩)) (fun w1 hs => ?_) K
    simp only [execOp, hx, hy, Sem.run_bind, run_indexAddr hT hE h0 h1]
    rfl
end
/-- What an element's cells are, as they are stored. -/
theorem st_int {x : Int} (h : InI x) (c0 : List Value) (hc : c0.length = 1) : 0 + [Value.int .i64 x].length ≤ 1 ∧ dInt.rd Z w (splice c0 0 [Value.int .i64 x]) x := by
  cases c0 with
  | nil => simp at hc
  | cons v r => cases r with
    | nil => exact ⟨by simp, rfl, h⟩
    | cons u r => simp at hc
theorem st_bool {x : Bool} (c0 : List Value) (hc : c0.length = 1) : 0 + [Value.bool x].length ≤ 1 ∧ dBool.rd Z w (splice c0 0 [Value.bool x]) x := by
  cases c0 with
  | nil => simp at hc
  | cons v r => cases r with
    | nil => exact ⟨by simp, rfl⟩
    | cons u r => simp at hc
theorem st_byte {x : UInt8} (c0 : List Value) (hc : c0.length = 1) : 0 + [bv x].length ≤ 1 ∧ dByte.rd Z w (splice c0 0 [bv x]) x := by
  cases c0 with
  | nil => simp at hc
  | cons v r => cases r with
    | nil => exact ⟨by simp, rfl⟩
    | cons u r => simp at hc
theorem st_str {x : Str} (h : x.length ≤ 9223372036854775807) (c0 : List Value) (hc : c0.length = 1) : 0 + [sv x].length ≤ 1 ∧ dStr.rd Z w (splice c0 0 [sv x]) x := by
  cases c0 with
  | nil => simp at hc
  | cons v r => cases r with
    | nil => exact ⟨by simp, rfl, h⟩
    | cons u r => simp at hc
end
/-- What becomes of the blocks of a thing in a call. -/
def Turn (w w' : World) (F F' : List Nat) : Prop := Ext F w w' ∧ ∀ b ∈ F', b ∈ F ∨ w.heap.size ≤ b
theorem Sep.turn {B0 : List Nat} {w0 w w' : World} {Z : Nat → Prop} {l : List It} {α : Type} {o : Ob α} {x x' : α} {F F' O : List Nat} (hs : Sep B0 w0 Z w l) (k : Nat) (hk : l[k]? = some (iOb o x F O)) (h : o.is Z w' x' F') (t : Turn w w' F F') :
    Sep B0 w0 Z w' (l.set k (iOb o x' F' O)) := hs.upd k hk t.1 h sOb (fun b hb => ⟨t.2 b hb, o.lt h b hb⟩) rfl
/-- A thing that a call makes. -/
theorem Sep.made {B0 : List Nat} {w0 w w' : World} {Z : Nat → Prop} {l : List It} {α : Type} {o : Ob α} {x : α} {F : List Nat} (hs : Sep B0 w0 Z w l) (e : Ext [] w w') (h : o.is Z w' x F) (hF : ∀ b ∈ F, w.heap.size ≤ b) :
    Sep B0 w0 Z w' (iOb o x F [] :: l) := hs.add e h sOb (fun b hb => ⟨hF b hb, o.lt h b hb⟩) rfl
/-- A slice that a call makes. -/
theorem Sep.madeAc {B0 : List Nat} {w0 w w' : World} {Z : Nat → Prop} {l : List It} {α : Type} {r : Rd α} {v : Value} {x : List α} {bs : List Nat} (hs : Sep B0 w0 Z w l) (e : Ext [] w w') (h : Ac r Z w' v x bs) (hF : ∀ b ∈ bs, w.heap.size ≤ b) :
    Sep B0 w0 Z w' (iAc r v x bs [] :: l) := hs.add e h sAc (fun b hb => ⟨hF b hb, h.lt b hb⟩) rfl
/-- A part taken apart. -/
theorem Sep.split {B0 : List Nat} {w0 w : World} {Z : Nat → Prop} {l ts : List It} {t : It} (hs : Sep B0 w0 Z w (t :: l)) (h : ∀ u ∈ ts, u.P Z w ∧ u.Stab ∧ (∀ b ∈ u.F, b ∈ t.F) ∧ u.O = t.O) (ha : ts.Pairwise (fun a b => ∀ x ∈ a.F, x ∉ b.F)) : Sep B0 w0 Z w (ts ++ l) := by
  have ok := hs.ok 0 t rfl
  have get : ∀ (j : Nat) (u : It), (ts ++ l)[j]? = some u → (j < ts.length ∧ ts[j]? = some u ∧ u ∈ ts) ∨ (ts.length ≤ j ∧ l[j - ts.length]? = some u) := by
    intro j u hj
    by_cases h1 : j < ts.length
    · rw [List.getElem?_append_left h1] at hj; exact .inl ⟨h1, hj, List.mem_of_getElem? hj⟩
    · rw [List.getElem?_append_right (by omega)] at hj; exact .inr ⟨by omega, hj⟩
  have pw := List.pairwise_iff_getElem.1 ha
  refine ⟨hs.ext, hs.zlt, fun j u hj => ?_, fun i j a b hi hj hne => ?_⟩
  · rcases get j u hj with ⟨_, _, hm⟩ | ⟨h1, h2⟩
    · obtain ⟨p, st, hF, hO⟩ := h u hm
      exact ⟨p, st, fun b hb => ok.lt b (hF b hb), fun b hb => ok.notZ b (hF b hb), fun b hb => by rw [hO]; exact ok.org b (hF b hb), by rw [hO]; exact ok.org0⟩
    · exact hs.ok (j - ts.length + 1) u (by simpa using h2)
  · rcases get i a hi with ⟨i1, i2, im⟩ | ⟨i1, i2⟩
    · rcases get j b hj with ⟨j1, j2, jm⟩ | ⟨j1, j2⟩
      · rw [List.getElem?_eq_getElem i1] at i2; rw [List.getElem?_eq_getElem j1] at j2
        cases i2; cases j2
        rcases Nat.lt_or_gt_of_ne hne with hlt | hlt
        · exact pw i j i1 j1 hlt
        · exact fun x hx hx' => pw j i j1 i1 hlt x hx' hx
      · exact fun x hx => hs.apart 0 (j - ts.length + 1) t b rfl (by simpa using j2) (by omega) x ((h a im).2.2.1 x hx)
    · rcases get j b hj with ⟨j1, j2, jm⟩ | ⟨j1, j2⟩
      · exact fun x hx hx' => hs.apart (i - ts.length + 1) 0 a t (by simpa using i2) rfl (by omega) x hx ((h b jm).2.2.1 x hx')
      · exact hs.apart (i - ts.length + 1) (j - ts.length + 1) a b (by simpa using i2) (by simpa using j2) (by omega)
/-- The call's own things at first. -/
theorem Sep.one {w0 : World} {Z : Nat → Prop} {α : Type} {o : Ob α} {x : α} {F : List Nat} (h : o.is Z w0 x F) (zlt : ∀ b, Z b → b < w0.heap.size) (hZ : ∀ b ∈ F, ¬ Z b) : Sep F w0 Z w0 [iOb o x F F] :=
  Sep.give (Sep.nil zlt) h sOb (o.lt h) hZ rfl (fun b hb => hb) (fun k s hk => by simp at hk)
theorem W_loopE {P : Program} {n : Nat} {c : Code} {Q : Exit → Fr → World → Prop} {f : Fr} {w : World} (I : Nat → Fr → World → Prop) (h0 : ∃ m, I m f w)
    (round : ∀ m f w, I m f w → W P n c (thenQ (fun f' w' => ∃ m', m' < m ∧ I m' f' w') Q) f w) : W P n (.loop c) Q f w := by
  obtain ⟨m, h0⟩ := h0
  exact W_loop I m h0 round
end Go.Wl
