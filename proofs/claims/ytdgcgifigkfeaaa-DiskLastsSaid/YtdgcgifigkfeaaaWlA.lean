/- Readings whose blocks lie in a set; memory as a list of parts that lie apart. -/
import Derived.Test.YtdgcgifigkfeaaaWkY
namespace Go.Wl
open Go Go.Wk

/-! ### Readings -/
structure Rd (α : Type) where
  sz : Nat
  rd : (Nat → Prop) → World → List Value → α → Prop
  len : ∀ {D w cs x}, rd D w cs x → cs.length = sz
  mono : ∀ {D D' B w w' cs x}, rd D w cs x → Ext B w w' → (∀ b ∈ B, D b → w.heap.size ≤ b) → (∀ b, D b → b < w.heap.size → D' b) → rd D' w' cs x
  plain : ∀ {D w cs x}, rd D w cs x → cs.all plain1 = true
section
variable {α β : Type} {D D' : Nat → Prop} {B : List Nat} {w w' : World} {cs : List Value}
theorem Rd.ext (r : Rd α) {x : α} (h : r.rd D w cs x) (e : Ext [] w w') : r.rd D w' cs x := r.mono h e (fun _ hb => by cases hb) (fun _ h _ => h)
theorem Rd.weak (r : Rd α) {x : α} (h : r.rd D w cs x) (hD : ∀ b, D b → b < w.heap.size → D' b) : r.rd D' w cs x := r.mono h (Ext.refl [] w) (fun _ hb => by cases hb) hD
theorem Rd.one (r : Rd α) (hs : r.sz = 1) {x : α} (h : r.rd D w cs x) : ∃ v, cs = [v] := by
  have := r.len h
  rw [hs] at this
  match cs, this with
  | [v], _ => exact ⟨v, rfl⟩
end
def dInt : Rd Int where
  sz := 1
  rd := fun _ _ cs x => cs = [.int .i64 x] ∧ InI x
  len := fun h => by rw [h.1]; rfl
  mono := fun h _ _ _ => h
  plain := fun h => by rw [h.1]; rfl
def dBool : Rd Bool where
  sz := 1
  rd := fun _ _ cs x => cs = [.bool x]
  len := fun h => by rw [h]; rfl
  mono := fun h _ _ _ => h
  plain := fun h => by rw [h]; rfl
def bv (c : UInt8) : Value := .int .u8 c.toNat
def dByte : Rd UInt8 where
  sz := 1
  rd := fun _ _ cs x => cs = [bv x]
  len := fun h => by rw [h]; rfl
  mono := fun h _ _ _ => h
  plain := fun h => by rw [h]; rfl
def dStr : Rd Str where
  sz := 1
  rd := fun _ _ cs s => cs = [sv s] ∧ s.length ≤ 9223372036854775807
  len := fun h => by rw [h.1]; rfl
  mono := fun h _ _ _ => h
  plain := fun h => by rw [h.1]; rfl
/-- An array of bytes by value: so many cells. -/
def dArr (n : Nat) : Rd Str where
  sz := n
  rd := fun _ _ cs s => cs = s.map bv ∧ s.length = n
  len := fun h => by rw [h.1, List.length_map, h.2]
  mono := fun h _ _ _ => h
  plain := fun h => by rw [h.1]; simp [bv, plain1]
def dSlice {α : Type} (r : Rd α) : Rd (List α) where
  sz := 1
  rd := fun D w cs l => l.length ≤ 9223372036854775807 ∧ ∃ A cap, cs = [.slice A l.length cap] ∧ (A = none → cap = 0) ∧ ∀ i (h : i < l.length), ∃ b o c, A = some ⟨b, o, none⟩ ∧ D b ∧ Cells w b (o + i * r.sz) c ∧ r.rd D w c l[i]
  len := fun ⟨_, A, cap, e, _⟩ => by rw [e]; rfl
  mono := fun ⟨hl, A, cap, e, h0, h⟩ hx hB hD => ⟨hl, A, cap, e, h0, fun i hi => by
    obtain ⟨b, o, c, e1, hb, hc, hr⟩ := h i hi
    have hlt := hc.lt
    exact ⟨b, o, c, e1, hD b hb hlt, hc.ext hx (fun hm => by have := hB b hm hb; omega), r.mono hr hx hB hD⟩⟩
  plain := fun ⟨_, A, cap, e, _⟩ => by rw [e]; rfl
/-- A part of a reading: from cell o on. -/
def Sub {α β : Type} (r : Rd α) (o : Nat) (s : Rd β) (g : α → β) : Prop := o + s.sz ≤ r.sz ∧ ∀ {D w cs x}, r.rd D w cs x → s.rd D w ((cs.drop o).take s.sz) (g x)
theorem Sub.self {α : Type} (r : Rd α) : Sub r 0 r (fun x => x) := ⟨by omega, fun h => by
  have := r.len h
  rw [List.drop_zero, List.take_of_length_le (by omega)]; exact h⟩
theorem Sub.comp {α β γ : Type} {r : Rd α} {s : Rd β} {t : Rd γ} {o o' : Nat} {g : α → β} {g' : β → γ} (h : Sub r o s g) (k : Sub s o' t g') : Sub r (o + o') t (fun x => g' (g x)) := ⟨by have := h.1; have := k.1; omega, fun hx => by
  have := k.2 (h.2 hx)
  have e : ((List.drop o' (List.take s.sz (List.drop o ‹List Value›))).take t.sz) = ((List.drop (o + o') ‹List Value›).take t.sz) := by
    rw [List.drop_take, List.take_take, List.drop_drop, Nat.min_eq_left (by have := k.1; omega)]
  rwa [e] at this⟩
section
variable {α : Type} {r : Rd α} {D : Nat → Prop} {w : World}
theorem dSlice_len {v : Value} {l : List α} (h : (dSlice r).rd D w [v] l) : l.length ≤ 9223372036854775807 := h.1
theorem dSlice_val {v : Value} {l : List α} (h : (dSlice r).rd D w [v] l) : ∃ A cap, v = .slice A l.length cap := by
  obtain ⟨_, A, cap, e, _⟩ := h; exact ⟨A, cap, by simpa using e⟩
theorem dSlice_nil : (dSlice r).rd D w [.slice none 0 0] [] := ⟨by simp, none, 0, rfl, fun _ => rfl, fun i hi => by simp at hi⟩
theorem dSlice_at {A : Option Addr} {cap : Nat} {l : List α} (h : (dSlice r).rd D w [.slice A l.length cap] l) {i : Nat} (hi : i < l.length) : ∃ b o c, A = some ⟨b, o, none⟩ ∧ D b ∧ Cells w b (o + i * r.sz) c ∧ r.rd D w c l[i] := by
  obtain ⟨_, A', cap', e, _, h⟩ := h
  simp at e; obtain ⟨rfl, rfl⟩ := e
  exact h i hi
end
/-- The element at a place that is in. -/
def ix {α : Type} [Inhabited α] (l : List α) (i : Int) : α := l.getD i.toNat default
theorem ix_get {α : Type} [Inhabited α] {l : List α} {i : Int} (h : i.toNat < l.length) : ix l i = l[i.toNat] := by simp [ix, List.getD_eq_getElem?_getD, h]
/-- So many cells behind where a slice begins. -/
def eA : Option Addr → Nat → Addr
  | some ⟨b, o, _⟩, k => ⟨b, o + k, none⟩
  | none, k => ⟨0, k, none⟩
theorem eA_add (A : Option Addr) (k j : Nat) : (eA A k).add j = eA A (k + j) := by
  unfold Addr.add
  split
  · rename_i h; rw [h]; rfl
  · cases A with
    | none => simp [eA]
    | some a => obtain ⟨b, o, s⟩ := a; simp [eA, Nat.add_assoc]

/-! ### Parts -/
structure It where
  F : List Nat
  O : List Nat
  P : (Nat → Prop) → World → Prop
def It.Stab (t : It) : Prop := ∀ (Z Z' : Nat → Prop) (B : List Nat) (w w' : World), t.P Z w → Ext B w w' → (∀ b ∈ B, (b ∈ t.F ∨ Z b) → w.heap.size ≤ b) → (∀ b, Z b → Z' b) → t.P Z' w'
structure It.Ok (B0 : List Nat) (w0 : World) (Z : Nat → Prop) (w : World) (t : It) : Prop where
  holds : t.P Z w
  stab : t.Stab
  lt : ∀ b ∈ t.F, b < w.heap.size
  notZ : ∀ b ∈ t.F, ¬ Z b
  org : ∀ b ∈ t.F, b ∈ t.O ∨ w0.heap.size ≤ b
  org0 : ∀ b ∈ t.O, b ∈ B0
/-- The memory of a call: what the others see turn (B0), what nobody turns (Z), and parts that lie apart. -/
structure Sep (B0 : List Nat) (w0 : World) (Z : Nat → Prop) (w : World) (l : List It) : Prop where
  ext : Ext B0 w0 w
  zlt : ∀ b, Z b → b < w.heap.size
  ok : ∀ (k : Nat) (t : It), l[k]? = some t → t.Ok B0 w0 Z w
  apart : ∀ (j k : Nat) (s t : It), l[j]? = some s → l[k]? = some t → j ≠ k → ∀ b ∈ s.F, b ∉ t.F
section
variable {B0 : List Nat} {w0 w w' : World} {Z Z' : Nat → Prop} {l : List It} {t t' s s' : It} {k j : Nat}
theorem Sep.nil (zlt : ∀ b, Z b → b < w0.heap.size) : Sep B0 w0 Z w0 [] := ⟨Ext.refl _ _, zlt, fun k t h => by simp at h, fun j k s t h => by simp at h⟩
theorem Sep.at (hs : Sep B0 w0 Z w l) (k : Nat) (hk : l[k]? = some t) : t.P Z w := (hs.ok k t hk).holds
theorem Sep.nz (hs : Sep B0 w0 Z w l) (k : Nat) (hk : l[k]? = some t) : ∀ b ∈ t.F, ¬ Z b := (hs.ok k t hk).notZ
theorem Sep.lt (hs : Sep B0 w0 Z w l) (k : Nat) (hk : l[k]? = some t) : ∀ b ∈ t.F, b < w.heap.size := (hs.ok k t hk).lt
theorem Sep.org (hs : Sep B0 w0 Z w l) (k : Nat) (hk : l[k]? = some t) : ∀ b ∈ t.F, b ∈ t.O ∨ w0.heap.size ≤ b := (hs.ok k t hk).org
theorem Sep.ap (hs : Sep B0 w0 Z w l) (j k : Nat) (hj : l[j]? = some s) (hk : l[k]? = some t) (h : Nat.beq j k = false) : ∀ b ∈ s.F, b ∉ t.F := hs.apart j k s t hj hk (fun e => by rw [e, Nat.beq_refl] at h; cases h)
/-- A part that was there at first. -/
theorem Sep.give (hs : Sep B0 w0 Z w0 l) (h : t.P Z w0) (st : t.Stab) (hlt : ∀ b ∈ t.F, b < w0.heap.size) (hZ : ∀ b ∈ t.F, ¬ Z b) (hO : t.O = t.F) (hB : ∀ b ∈ t.F, b ∈ B0) (ha : ∀ (k : Nat) (s : It), l[k]? = some s → ∀ b ∈ t.F, b ∉ s.F) : Sep B0 w0 Z w0 (t :: l) :=
  ⟨hs.ext, hs.zlt, fun k s hk => by
    cases k with
    | zero => simp at hk; subst hk; exact ⟨h, st, hlt, hZ, fun b hb => .inl (by rw [hO]; exact hb), fun b hb => hB b (by rw [← hO]; exact hb)⟩
    | succ k => exact hs.ok k s (by simpa using hk), fun j k s u hj hk hne => by
    cases j with
    | zero =>
      cases k with
      | zero => exact absurd rfl hne
      | succ k => simp at hj hk; subst hj; exact ha k u hk
    | succ j =>
      cases k with
      | zero => simp at hj hk; subst hk; exact fun b hb hb' => ha j s hj b hb' hb
      | succ k => exact hs.apart j k s u (by simpa using hj) (by simpa using hk) (by omega)⟩
/-- Part k turns; new memory is laid, some of which nobody turns from now on. -/
theorem Sep.updZ (hs : Sep B0 w0 Z w l) (k : Nat) (hk : l[k]? = some t) (e : Ext t.F w w') (h : t'.P Z' w') (st : t'.Stab) (hF : ∀ b ∈ t'.F, (b ∈ t.F ∨ w.heap.size ≤ b) ∧ b < w'.heap.size ∧ ¬ Z' b) (hZ : ∀ b, Z b → Z' b) (hZ' : ∀ b, Z' b → Z b ∨ (w.heap.size ≤ b ∧ b < w'.heap.size)) (hO : t'.O = t.O) :
    Sep B0 w0 Z' w' (l.set k t') := by
  have ok := hs.ok k t hk
  have hsz := hs.ext.size
  have hkl : k < l.length := by
    rcases Nat.lt_or_ge k l.length with h | h
    · exact h
    · rw [List.getElem?_eq_none h] at hk; cases hk
  have old : ∀ (j : Nat) (s : It), l[j]? = some s → ∀ b ∈ s.F, b < w.heap.size := fun j s hj => (hs.ok j s hj).lt
  refine ⟨hs.ext.trans e (fun x hx => .inl hx) (fun x hx => ?_), fun b hb => ?_, fun j s hj => ?_, fun i j s u hi hj hne => ?_⟩
  · rcases ok.org x hx with h | h
    · exact .inl (ok.org0 x h)
    · exact .inr h
  · rcases hZ' b hb with h | h
    · have := hs.zlt b h; have := e.size; omega
    · exact h.2
  · by_cases hjk : j = k
    · subst hjk
      rw [List.getElem?_set_self hkl] at hj; cases hj
      refine ⟨h, st, fun b hb => (hF b hb).2.1, fun b hb => (hF b hb).2.2, fun b hb => ?_, fun b hb => ok.org0 b (by rw [← hO]; exact hb)⟩
      rw [hO]
      rcases (hF b hb).1 with h | h
      · exact ok.org b h
      · exact .inr (by omega)
    · rw [List.getElem?_set_ne (Ne.symm hjk)] at hj
      have o := hs.ok j s hj
      refine ⟨o.stab Z Z' t.F w w' o.holds e (fun b hb hb' => ?_) hZ, o.stab, fun b hb => by have := o.lt b hb; have := e.size; omega, fun b hb hz => ?_, o.org, o.org0⟩
      · rcases hb' with h | h
        · exact absurd h (hs.apart k j t s hk hj (Ne.symm hjk) b hb)
        · exact absurd h (ok.notZ b hb)
      · rcases hZ' b hz with h | h
        · exact o.notZ b hb h
        · have := o.lt b hb; omega
  · by_cases hik : i = k
    · subst hik
      rw [List.getElem?_set_self hkl] at hi; cases hi
      rw [List.getElem?_set_ne hne] at hj
      intro b hb hb'
      rcases (hF b hb).1 with h | h
      · exact hs.apart i j t u hk hj hne b h hb'
      · have := old j u hj b hb'; omega
    · rw [List.getElem?_set_ne (Ne.symm hik)] at hi
      by_cases hjk : j = k
      · subst hjk
        rw [List.getElem?_set_self hkl] at hj; cases hj
        intro b hb hb'
        rcases (hF b hb').1 with h | h
        · exact hs.apart i j s t hi hk hne b hb h
        · have := old i s hi b hb; omega
      · rw [List.getElem?_set_ne (Ne.symm hjk)] at hj
        exact hs.apart i j s u hi hj hne
theorem Sep.upd (hs : Sep B0 w0 Z w l) (k : Nat) (hk : l[k]? = some t) (e : Ext t.F w w') (h : t'.P Z w') (st : t'.Stab) (hF : ∀ b ∈ t'.F, (b ∈ t.F ∨ w.heap.size ≤ b) ∧ b < w'.heap.size) (hO : t'.O = t.O) : Sep B0 w0 Z w' (l.set k t') :=
  hs.updZ k hk e h st (fun b hb => ⟨(hF b hb).1, (hF b hb).2, fun hz => by
    rcases (hF b hb).1 with h | h
    · exact (hs.ok k t hk).notZ b h hz
    · have := hs.zlt b hz; omega⟩) (fun _ h => h) (fun _ h => .inl h) hO
/-- New memory, some of which nobody turns from now on. -/
theorem Sep.stepZ (hs : Sep B0 w0 Z w l) (e : Ext [] w w') (hZ : ∀ b, Z b → Z' b) (hZ' : ∀ b, Z' b → Z b ∨ (w.heap.size ≤ b ∧ b < w'.heap.size)) : Sep B0 w0 Z' w' l :=
  ⟨hs.ext.trans e (fun x hx => .inl hx) (fun x hx => by cases hx), fun b hb => by
    rcases hZ' b hb with h | h
    · have := hs.zlt b h; have := e.size; omega
    · exact h.2, fun j s hj => by
    have o := hs.ok j s hj
    refine ⟨o.stab Z Z' [] w w' o.holds e (fun b hb => by cases hb) hZ, o.stab, fun b hb => by have := o.lt b hb; have := e.size; omega, fun b hb hz => ?_, o.org, o.org0⟩
    rcases hZ' b hz with h | h
    · exact o.notZ b hb h
    · have := o.lt b hb; omega, hs.apart⟩
theorem Sep.step (hs : Sep B0 w0 Z w l) (e : Ext [] w w') : Sep B0 w0 Z w' l := hs.stepZ e (fun _ h => h) (fun _ h => .inl h)
theorem Sep.sim (hs : Sep B0 w0 Z w l) (e : Sim w w') : Sep B0 w0 Z w' l := by obtain ⟨k, rfl⟩ := e; exact hs.step ⟨rfl, rfl, rfl, Nat.le_refl _, fun _ _ _ => rfl⟩
/-- A part that is laid anew. -/
theorem Sep.add (hs : Sep B0 w0 Z w l) (e : Ext [] w w') (h : t.P Z w') (st : t.Stab) (hF : ∀ b ∈ t.F, w.heap.size ≤ b ∧ b < w'.heap.size) (hO : t.O = []) : Sep B0 w0 Z w' (t :: l) := by
  have h1 := hs.step e
  have hsz := hs.ext.size
  refine ⟨h1.ext, h1.zlt, fun k s hk => ?_, fun j k s u hj hk hne => ?_⟩
  · cases k with
    | zero =>
      simp at hk; subst hk
      exact ⟨h, st, fun b hb => (hF b hb).2, fun b hb hz => by have := hs.zlt b hz; have := (hF b hb).1; omega, fun b hb => .inr (by have := (hF b hb).1; omega), fun b hb => (by rw [hO] at hb; cases hb)⟩
    | succ k => exact h1.ok k s (by simpa using hk)
  · cases j with
    | zero =>
      cases k with
      | zero => exact absurd rfl hne
      | succ k =>
        simp at hj hk; subst hj
        intro b hb hb'
        have := (hs.ok k u hk).lt b hb'; have := (hF b hb).1; omega
    | succ j =>
      cases k with
      | zero =>
        simp at hj hk; subst hk
        intro b hb hb'
        have := (hs.ok j s hj).lt b hb; have := (hF b hb').1; omega
      | succ k => exact hs.apart j k s u (by simpa using hj) (by simpa using hk) (by omega)
/-- A fact that has no memory of its own. -/
theorem Sep.fact (hs : Sep B0 w0 Z w l) (h : t.P Z w) (st : t.Stab) (hF : t.F = []) (hO : t.O = []) : Sep B0 w0 Z w (t :: l) :=
  hs.add (Ext.refl [] w) h st (fun b hb => by rw [hF] at hb; cases hb) hO
theorem Sep.drop (hs : Sep B0 w0 Z w (t :: l)) : Sep B0 w0 Z w l :=
  ⟨hs.ext, hs.zlt, fun k s hk => hs.ok (k + 1) s (by simpa using hk), fun j k s u hj hk hne => hs.apart (j + 1) (k + 1) s u (by simpa using hj) (by simpa using hk) (by omega)⟩
/-- Whatever parts are wanted, each once, in whatever order. -/
theorem Sep.pick (hs : Sep B0 w0 Z w l) (ks : List Nat) (hn : (ks.all fun k => Nat.blt k l.length) = true) (hu : ks.Nodup) {l' : List It} (e : ks.map (fun k => l.getD k ⟨[], [], fun _ _ => True⟩) = l') : Sep B0 w0 Z w l' := by
  subst e
  have get : ∀ (j : Nat) (t : It), (ks.map (fun k => l.getD k ⟨[], [], fun _ _ => True⟩))[j]? = some t → ∃ k, ks[j]? = some k ∧ l[k]? = some t := by
    intro j t h
    rw [List.getElem?_map] at h
    cases hk : ks[j]? with
    | none => rw [hk] at h; cases h
    | some k =>
      rw [hk] at h; simp only [Option.map_some, Option.some.injEq] at h
      have hlt : k < l.length := by
        rw [List.all_eq_true] at hn
        exact blt_lt (hn k (List.mem_of_getElem? hk))
      refine ⟨k, rfl, ?_⟩
      rw [List.getElem?_eq_getElem hlt, ← h, List.getD_eq_getElem?_getD, List.getElem?_eq_getElem hlt]; rfl
  refine ⟨hs.ext, hs.zlt, fun j t h => ?_, fun i j s t hi hj hne => ?_⟩
  · obtain ⟨k, _, h⟩ := get j t h; exact hs.ok k t h
  · obtain ⟨k1, a1, b1⟩ := get i s hi
    obtain ⟨k2, a2, b2⟩ := get j t hj
    refine hs.apart k1 k2 s t b1 b2 fun e => hne ?_
    subst e
    have hi' : i < ks.length := by rcases Nat.lt_or_ge i ks.length with h | h; exact h; rw [List.getElem?_eq_none h] at a1; cases a1
    have hj' : j < ks.length := by rcases Nat.lt_or_ge j ks.length with h | h; exact h; rw [List.getElem?_eq_none h] at a2; cases a2
    rw [List.getElem?_eq_getElem hi'] at a1
    rw [List.getElem?_eq_getElem hj'] at a2
    exact (List.getElem_inj hu).1 ((Option.some.inj a1).trans (Option.some.inj a2).symm)
/-- A part that nobody turns from now on. -/
theorem Sep.freeze (hs : Sep B0 w0 Z w l) (k : Nat) (hk : l[k]? = some t) (h : t'.P (fun b => Z b ∨ b ∈ t.F) w) (st : t'.Stab) (hF : t'.F = []) (hO : t'.O = []) : Sep B0 w0 (fun b => Z b ∨ b ∈ t.F) w (l.set k t') := by
  have hkl : k < l.length := by
    rcases Nat.lt_or_ge k l.length with h | h
    · exact h
    · rw [List.getElem?_eq_none h] at hk; cases hk
  refine ⟨hs.ext, fun b hb => ?_, fun j s hj => ?_, fun i j s u hi hj hne => ?_⟩
  · rcases hb with h | h
    · exact hs.zlt b h
    · exact (hs.ok k t hk).lt b h
  · by_cases hjk : j = k
    · subst hjk
      rw [List.getElem?_set_self hkl] at hj; cases hj
      exact ⟨h, st, fun b hb => (by rw [hF] at hb; cases hb), fun b hb => (by rw [hF] at hb; cases hb), fun b hb => (by rw [hF] at hb; cases hb), fun b hb => (by rw [hO] at hb; cases hb)⟩
    · rw [List.getElem?_set_ne (Ne.symm hjk)] at hj
      have o := hs.ok j s hj
      refine ⟨o.stab Z _ [] w w o.holds (Ext.refl _ _) (fun b hb => (by cases hb)) (fun b hb => .inl hb), o.stab, o.lt, fun b hb hz => ?_, o.org, o.org0⟩
      rcases hz with h | h
      · exact o.notZ b hb h
      · exact hs.apart j k s t hj hk hjk b hb h
  · by_cases hik : i = k
    · subst hik
      rw [List.getElem?_set_self hkl] at hi; cases hi
      intro b hb; rw [hF] at hb; cases hb
    · rw [List.getElem?_set_ne (Ne.symm hik)] at hi
      by_cases hjk : j = k
      · subst hjk
        rw [List.getElem?_set_self hkl] at hj; cases hj
        intro b _ hb; rw [hF] at hb; cases hb
      · rw [List.getElem?_set_ne (Ne.symm hjk)] at hj
        exact hs.apart i j s u hi hj hne
/-- Two parts turn. -/
theorem Sep.upd2 (hs : Sep B0 w0 Z w l) (k j : Nat) (hk : l[k]? = some t) (hj : l[j]? = some s) (hkj : Nat.beq k j = false) (e : Ext (t.F ++ s.F) w w') (h : t'.P Z w') (h' : s'.P Z w') (st : t'.Stab) (st' : s'.Stab)
    (hF : ∀ b ∈ t'.F, (b ∈ t.F ∨ w.heap.size ≤ b) ∧ b < w'.heap.size) (hF' : ∀ b ∈ s'.F, (b ∈ s.F ∨ w.heap.size ≤ b) ∧ b < w'.heap.size) (ha : ∀ b ∈ t'.F, b ∉ s'.F) (hO : t'.O = t.O) (hO' : s'.O = s.O) : Sep B0 w0 Z w' ((l.set k t').set j s') := by
  have hne : k ≠ j := fun e => by rw [e, Nat.beq_refl] at hkj; cases hkj
  have okt := hs.ok k t hk
  have oks := hs.ok j s hj
  have hsz := hs.ext.size
  have lt_of : ∀ {k : Nat} {t : It}, l[k]? = some t → k < l.length := fun {k t} hk => by
    rcases Nat.lt_or_ge k l.length with h | h
    · exact h
    · rw [List.getElem?_eq_none h] at hk; cases hk
  have hkl := lt_of hk
  have hjl := lt_of hj
  have get : ∀ i u, ((l.set k t').set j s')[i]? = some u → (i = k ∧ u = t') ∨ (i = j ∧ u = s') ∨ (i ≠ k ∧ i ≠ j ∧ l[i]? = some u) := by
    intro i u hi
    by_cases h1 : i = j
    · subst h1; rw [List.getElem?_set_self (by simpa using hjl)] at hi; cases hi; exact .inr (.inl ⟨rfl, rfl⟩)
    · rw [List.getElem?_set_ne (Ne.symm h1)] at hi
      by_cases h2 : i = k
      · subst h2; rw [List.getElem?_set_self hkl] at hi; cases hi; exact .inl ⟨rfl, rfl⟩
      · rw [List.getElem?_set_ne (Ne.symm h2)] at hi; exact .inr (.inr ⟨h2, h1, hi⟩)
  have nz : ∀ {t t' : It} {k : Nat}, l[k]? = some t → (∀ b ∈ t'.F, (b ∈ t.F ∨ w.heap.size ≤ b) ∧ b < w'.heap.size) → ∀ b ∈ t'.F, ¬ Z b := fun {t t' k} hk hF b hb hz => by
    rcases (hF b hb).1 with h | h
    · exact (hs.ok k t hk).notZ b h hz
    · have := hs.zlt b hz; omega
  have og : ∀ {t t' : It} {k : Nat}, l[k]? = some t → (∀ b ∈ t'.F, (b ∈ t.F ∨ w.heap.size ≤ b) ∧ b < w'.heap.size) → ∀ b ∈ t'.F, b ∈ t.O ∨ w0.heap.size ≤ b := fun {t t' k} hk hF b hb => by
    rcases (hF b hb).1 with h | h
    · exact (hs.ok k t hk).org b h
    · exact .inr (by omega)
  have apo : ∀ {t t' : It} {k : Nat}, l[k]? = some t → (∀ b ∈ t'.F, (b ∈ t.F ∨ w.heap.size ≤ b) ∧ b < w'.heap.size) → ∀ i u, l[i]? = some u → i ≠ k → ∀ b ∈ t'.F, b ∉ u.F := fun {t t' k} hk hF i u hi hik b hb hu => by
    rcases (hF b hb).1 with h | h
    · exact hs.apart k i t u hk hi (Ne.symm hik) b h hu
    · have := (hs.ok i u hi).lt b hu; omega
  refine ⟨hs.ext.trans e (fun x hx => .inl hx) (fun x hx => ?_), fun b hb => by have := hs.zlt b hb; have := e.size; omega, fun i u hi => ?_, fun i i' u u' hi hi' hii => ?_⟩
  · rcases List.mem_append.1 hx with hx | hx
    · exact (okt.org x hx).imp (okt.org0 x) id
    · exact (oks.org x hx).imp (oks.org0 x) id
  · rcases get i u hi with ⟨_, rfl⟩ | ⟨_, rfl⟩ | ⟨h1, h2, h3⟩
    · exact ⟨h, st, fun b hb => (hF b hb).2, nz hk hF, by rw [hO]; exact og hk hF, by rw [hO]; exact okt.org0⟩
    · exact ⟨h', st', fun b hb => (hF' b hb).2, nz hj hF', by rw [hO']; exact og hj hF', by rw [hO']; exact oks.org0⟩
    · have o := hs.ok i u h3
      refine ⟨o.stab Z Z _ w w' o.holds e (fun b hb hb' => ?_) (fun _ h => h), o.stab, fun b hb => by have := o.lt b hb; have := e.size; omega, o.notZ, o.org, o.org0⟩
      rcases List.mem_append.1 hb with hb | hb
      · rcases hb' with h | h
        · exact absurd h (hs.apart k i t u hk h3 (Ne.symm h1) b hb)
        · exact absurd h (okt.notZ b hb)
      · rcases hb' with h | h
        · exact absurd h (hs.apart j i s u hj h3 (Ne.symm h2) b hb)
        · exact absurd h (oks.notZ b hb)
  · rcases get i u hi with ⟨e1, rfl⟩ | ⟨e1, rfl⟩ | ⟨h1, h2, h3⟩
    · rcases get i' u' hi' with ⟨e2, rfl⟩ | ⟨e2, rfl⟩ | ⟨h1', h2', h3'⟩
      · omega
      · exact ha
      · exact apo hk hF i' u' h3' h1'
    · rcases get i' u' hi' with ⟨e2, rfl⟩ | ⟨e2, rfl⟩ | ⟨h1', h2', h3'⟩
      · exact fun b hb hb' => ha b hb' hb
      · omega
      · exact apo hj hF' i' u' h3' h2'
    · rcases get i' u' hi' with ⟨e2, rfl⟩ | ⟨e2, rfl⟩ | ⟨h1', h2', h3'⟩
      · exact fun b hb hb' => apo hk hF i u h3 h1 b hb' hb
      · exact fun b hb hb' => apo hj hF' i u h3 h2 b hb' hb
      · exact hs.apart i i' u u' h3 h3' hii
end
end Go.Wl
