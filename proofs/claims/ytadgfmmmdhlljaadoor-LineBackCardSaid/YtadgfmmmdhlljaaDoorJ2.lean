/- 16 texts, one behind the other. -/
import Derived.Test.YtadgfmmmdhlljaaDoorJ1
import Derived.Sort.Grow
set_option linter.unusedVariables false
set_option linter.unusedSimpArgs false
section
namespace Go.Wl
open Go Go.Wk

/-! ### Readings -/
structure Rd (α : Type) where
  sz : Nat
  rd : (Nat → Prop) → World → List Value → α → Prop
  len : ∀ {D w cs x}, rd D w cs x → cs.length = sz
  mono : ∀ {D D' B w w' cs x}, rd D w cs x → Ext B w w' → (∀ b ∈ B, D b → w.heap.size ≤ b) → (∀ b, D b → b < w.heap.size → D' b) → rd D' w' cs x
  plain : ∀ {D w cs x}, rd D w cs x → cs.all plain1 = true
section
variable {α β : Type} {D D' : Nat → Prop} {B : List Nat} {w w' : World} {cs : List Value}
theorem Rd.ext (r : Rd α) {x : α} (h : r.rd D w cs x) (e : Ext [] w w') : r.rd D w' cs x := r.mono h e (fun _ hb => by cases hb) (fun _ h _ => h)
theorem Rd.weak (r : Rd α) {x : α} (h : r.rd D w cs x) (hD : ∀ b, D b → b < w.heap.size → D' b) : r.rd D' w cs x := r.mono h (Ext.refl [] w) (fun _ hb => by cases hb) hD
theorem Rd.one (r : Rd α) (hs : r.sz = 1) {x : α} (h : r.rd D w cs x) : ∃ v, cs = [v] := by
  have := r.len h
  rw [hs] at this
  match cs, this with
  | [v], _ => exact ⟨v, rfl⟩
end
def dInt : Rd Int where
  sz := 1
  rd := fun _ _ cs x => cs = [.int .i64 x] ∧ InI x
  len := fun h => by rw [h.1]; rfl
  mono := fun h _ _ _ => h
  plain := fun h => by rw [h.1]; rfl
def dBool : Rd Bool where
  sz := 1
  rd := fun _ _ cs x => cs = [.bool x]
  len := fun h => by rw [h]; rfl
  mono := fun h _ _ _ => h
  plain := fun h => by rw [h]; rfl
def bv (c : UInt8) : Value := .int .u8 c.toNat
def dByte : Rd UInt8 where
  sz := 1
  rd := fun _ _ cs x => cs = [bv x]
  len := fun h => by rw [h]; rfl
  mono := fun h _ _ _ => h
  plain := fun h => by rw [h]; rfl
def dStr : Rd Str where
  sz := 1
  rd := fun _ _ cs s => cs = [sv s] ∧ s.length ≤ 9223372036854775807
  len := fun h => by rw [h.1]; rfl
  mono := fun h _ _ _ => h
  plain := fun h => by rw [h.1]; rfl
/-- An array of bytes by value: so many cells. -/
def dArr (n : Nat) : Rd Str where
  sz := n
  rd := fun _ _ cs s => cs = s.map bv ∧ s.length = n
  len := fun h => by rw [h.1, List.length_map, h.2]
  mono := fun h _ _ _ => h
  plain := fun h => by rw [h.1]; simp [bv, plain1]
def dSlice {α : Type} (r : Rd α) : Rd (List α) where
  sz := 1
  rd := fun D w cs l => l.length ≤ 9223372036854775807 ∧ ∃ A cap, cs = [.slice A l.length cap] ∧ ((A = none → cap = 0) ∧ l.length ≤ cap) ∧ ∀ i (h : i < l.length), ∃ b o c, A = some ⟨b, o, none⟩ ∧ D b ∧ Cells w b (o + i * r.sz) c ∧ r.rd D w c l[i]
  len := fun ⟨_, A, cap, e, _⟩ => by rw [e]; rfl
  mono := fun ⟨hl, A, cap, e, h0, h⟩ hx hB hD => ⟨hl, A, cap, e, h0, fun i hi => by
    obtain ⟨b, o, c, e1, hb, hc, hr⟩ := h i hi
    have hlt := hc.lt
    exact ⟨b, o, c, e1, hD b hb hlt, hc.ext hx (fun hm => by have := hB b hm hb; omega), r.mono hr hx hB hD⟩⟩
  plain := fun ⟨_, A, cap, e, _⟩ => by rw [e]; rfl
/-- A part of a reading: from cell o on. -/
def Sub {α β : Type} (r : Rd α) (o : Nat) (s : Rd β) (g : α → β) : Prop := o + s.sz ≤ r.sz ∧ ∀ {D w cs x}, r.rd D w cs x → s.rd D w ((cs.drop o).take s.sz) (g x)
theorem Sub.self {α : Type} (r : Rd α) : Sub r 0 r (fun x => x) := ⟨by omega, fun h => by
  have := r.len h
  rw [List.drop_zero, List.take_of_length_le (by omega)]; exact h⟩
theorem Sub.comp {α β γ : Type} {r : Rd α} {s : Rd β} {t : Rd γ} {o o' : Nat} {g : α → β} {g' : β → γ} (h : Sub r o s g) (k : Sub s o' t g') : Sub r (o + o') t (fun x => g' (g x)) := ⟨by have := h.1; have := k.1; omega, fun hx => by
  have := k.2 (h.2 hx)
  have e : ((List.drop o' (List.take s.sz (List.drop o ‹List Value›))).take t.sz) = ((List.drop (o + o') ‹List Value›).take t.sz) := by
    rw [List.drop_take, List.take_take, List.drop_drop, Nat.min_eq_left (by have := k.1; omega)]
  rwa [e] at this⟩
section
variable {α : Type} {r : Rd α} {D : Nat → Prop} {w : World}
theorem dSlice_len {v : Value} {l : List α} (h : (dSlice r).rd D w [v] l) : l.length ≤ 9223372036854775807 := h.1
theorem dSlice_val {v : Value} {l : List α} (h : (dSlice r).rd D w [v] l) : ∃ A cap, v = .slice A l.length cap := by
  obtain ⟨_, A, cap, e, _⟩ := h; exact ⟨A, cap, by simpa using e⟩
theorem dSlice_nil : (dSlice r).rd D w [.slice none 0 0] [] := ⟨by simp, none, 0, rfl, ⟨fun _ => rfl, by simp⟩, fun i hi => by simp at hi⟩
theorem dSlice_at {A : Option Addr} {cap : Nat} {l : List α} (h : (dSlice r).rd D w [.slice A l.length cap] l) {i : Nat} (hi : i < l.length) : ∃ b o c, A = some ⟨b, o, none⟩ ∧ D b ∧ Cells w b (o + i * r.sz) c ∧ r.rd D w c l[i] := by
  obtain ⟨_, A', cap', e, _, h⟩ := h
  simp at e; obtain ⟨rfl, rfl⟩ := e
  exact h i hi
end
/-- The element at a place that is in. -/
def ix {α : Type} [Inhabited α] (l : List α) (i : Int) : α := l.getD i.toNat default
theorem ix_get {α : Type} [Inhabited α] {l : List α} {i : Int} (h : i.toNat < l.length) : ix l i = l[i.toNat] := by simp [ix, List.getD_eq_getElem?_getD, h]
/-- So many cells behind where a slice begins. -/
def eA : Option Addr → Nat → Addr
  | some ⟨b, o, _⟩, k => ⟨b, o + k, none⟩
  | none, k => ⟨0, k, none⟩
theorem eA_add (A : Option Addr) (k j : Nat) : (eA A k).add j = eA A (k + j) := by
  unfold Addr.add
  split
  · rename_i h; rw [h]; rfl
  · cases A with
    | none => simp [eA]
    | some a => obtain ⟨b, o, s⟩ := a; simp [eA, Nat.add_assoc]

/-! ### Parts -/
structure It where
  F : List Nat
  O : List Nat
  P : (Nat → Prop) → World → Prop
def It.Stab (t : It) : Prop := ∀ (Z Z' : Nat → Prop) (B : List Nat) (w w' : World), t.P Z w → Ext B w w' → (∀ b ∈ B, (b ∈ t.F ∨ Z b) → w.heap.size ≤ b) → (∀ b, Z b → Z' b) → t.P Z' w'
structure It.Ok (B0 : List Nat) (w0 : World) (Z : Nat → Prop) (w : World) (t : It) : Prop where
  holds : t.P Z w
  stab : t.Stab
  lt : ∀ b ∈ t.F, b < w.heap.size
  notZ : ∀ b ∈ t.F, ¬ Z b
  org : ∀ b ∈ t.F, b ∈ t.O ∨ w0.heap.size ≤ b
  org0 : ∀ b ∈ t.O, b ∈ B0
/-- The memory of a call: what the others see turn (B0), what nobody turns (Z), and parts that lie apart. -/
structure Sep (B0 : List Nat) (w0 : World) (Z : Nat → Prop) (w : World) (l : List It) : Prop where
  ext : Ext B0 w0 w
  zlt : ∀ b, Z b → b < w.heap.size
  ok : ∀ (k : Nat) (t : It), l[k]? = some t → t.Ok B0 w0 Z w
  apart : ∀ (j k : Nat) (s t : It), l[j]? = some s → l[k]? = some t → j ≠ k → ∀ b ∈ s.F, b ∉ t.F
section
variable {B0 : List Nat} {w0 w w' : World} {Z Z' : Nat → Prop} {l : List It} {t t' s s' : It} {k j : Nat}
theorem Sep.nil (zlt : ∀ b, Z b → b < w0.heap.size) : Sep B0 w0 Z w0 [] := ⟨Ext.refl _ _, zlt, fun k t h => by simp at h, fun j k s t h => by simp at h⟩
theorem Sep.at (hs : Sep B0 w0 Z w l) (k : Nat) (hk : l[k]? = some t) : t.P Z w := (hs.ok k t hk).holds
theorem Sep.nz (hs : Sep B0 w0 Z w l) (k : Nat) (hk : l[k]? = some t) : ∀ b ∈ t.F, ¬ Z b := (hs.ok k t hk).notZ
theorem Sep.lt (hs : Sep B0 w0 Z w l) (k : Nat) (hk : l[k]? = some t) : ∀ b ∈ t.F, b < w.heap.size := (hs.ok k t hk).lt
theorem Sep.org (hs : Sep B0 w0 Z w l) (k : Nat) (hk : l[k]? = some t) : ∀ b ∈ t.F, b ∈ t.O ∨ w0.heap.size ≤ b := (hs.ok k t hk).org
theorem Sep.ap (hs : Sep B0 w0 Z w l) (j k : Nat) (hj : l[j]? = some s) (hk : l[k]? = some t) (h : Nat.beq j k = false) : ∀ b ∈ s.F, b ∉ t.F := hs.apart j k s t hj hk (fun e => by rw [e, Nat.beq_refl] at h; cases h)
/-- A part that was there at first. -/
theorem Sep.give (hs : Sep B0 w0 Z w0 l) (h : t.P Z w0) (st : t.Stab) (hlt : ∀ b ∈ t.F, b < w0.heap.size) (hZ : ∀ b ∈ t.F, ¬ Z b) (hO : t.O = t.F) (hB : ∀ b ∈ t.F, b ∈ B0) (ha : ∀ (k : Nat) (s : It), l[k]? = some s → ∀ b ∈ t.F, b ∉ s.F) : Sep B0 w0 Z w0 (t :: l) :=
  ⟨hs.ext, hs.zlt, fun k s hk => by
    cases k with
    | zero => simp at hk; subst hk; exact ⟨h, st, hlt, hZ, fun b hb => .inl (by rw [hO]; exact hb), fun b hb => hB b (by rw [← hO]; exact hb)⟩
    | succ k => exact hs.ok k s (by simpa using hk), fun j k s u hj hk hne => by
    cases j with
    | zero =>
      cases k with
      | zero => exact absurd rfl hne
      | succ k => simp at hj hk; subst hj; exact ha k u hk
    | succ j =>
      cases k with
      | zero => simp at hj hk; subst hk; exact fun b hb hb' => ha j s hj b hb' hb
      | succ k => exact hs.apart j k s u (by simpa using hj) (by simpa using hk) (by omega)⟩
/-- Part k turns; new memory is laid, some of which nobody turns from now on. -/
theorem Sep.updZ (hs : Sep B0 w0 Z w l) (k : Nat) (hk : l[k]? = some t) (e : Ext t.F w w') (h : t'.P Z' w') (st : t'.Stab) (hF : ∀ b ∈ t'.F, (b ∈ t.F ∨ w.heap.size ≤ b) ∧ b < w'.heap.size ∧ ¬ Z' b) (hZ : ∀ b, Z b → Z' b) (hZ' : ∀ b, Z' b → Z b ∨ (w.heap.size ≤ b ∧ b < w'.heap.size)) (hO : t'.O = t.O) :
    Sep B0 w0 Z' w' (l.set k t') := by
  have ok := hs.ok k t hk
  have hsz := hs.ext.size
  have hkl : k < l.length := by
    rcases Nat.lt_or_ge k l.length with h | h
    · exact h
    · rw [List.getElem?_eq_none h] at hk; cases hk
  have old : ∀ (j : Nat) (s : It), l[j]? = some s → ∀ b ∈ s.F, b < w.heap.size := fun j s hj => (hs.ok j s hj).lt
  refine ⟨hs.ext.trans e (fun x hx => .inl hx) (fun x hx => ?_), fun b hb => ?_, fun j s hj => ?_, fun i j s u hi hj hne => ?_⟩
  · rcases ok.org x hx with h | h
    · exact .inl (ok.org0 x h)
    · exact .inr h
  · rcases hZ' b hb with h | h
    · have := hs.zlt b h; have := e.size; omega
    · exact h.2
  · by_cases hjk : j = k
    · subst hjk
      rw [List.getElem?_set_self hkl] at hj; cases hj
      refine ⟨h, st, fun b hb => (hF b hb).2.1, fun b hb => (hF b hb).2.2, fun b hb => ?_, fun b hb => ok.org0 b (by rw [← hO]; exact hb)⟩
      rw [hO]
      rcases (hF b hb).1 with h | h
      · exact ok.org b h
      · exact .inr (by omega)
    · rw [List.getElem?_set_ne (Ne.symm hjk)] at hj
      have o := hs.ok j s hj
      refine ⟨o.stab Z Z' t.F w w' o.holds e (fun b hb hb' => ?_) hZ, o.stab, fun b hb => by have := o.lt b hb; have := e.size; omega, fun b hb hz => ?_, o.org, o.org0⟩
      · rcases hb' with h | h
        · exact absurd h (hs.apart k j t s hk hj (Ne.symm hjk) b hb)
        · exact absurd h (ok.notZ b hb)
      · rcases hZ' b hz with h | h
        · exact o.notZ b hb h
        · have := o.lt b hb; omega
  · by_cases hik : i = k
    · subst hik
      rw [List.getElem?_set_self hkl] at hi; cases hi
      rw [List.getElem?_set_ne hne] at hj
      intro b hb hb'
      rcases (hF b hb).1 with h | h
      · exact hs.apart i j t u hk hj hne b h hb'
      · have := old j u hj b hb'; omega
    · rw [List.getElem?_set_ne (Ne.symm hik)] at hi
      by_cases hjk : j = k
      · subst hjk
        rw [List.getElem?_set_self hkl] at hj; cases hj
        intro b hb hb'
        rcases (hF b hb').1 with h | h
        · exact hs.apart i j s t hi hk hne b hb h
        · have := old i s hi b hb; omega
      · rw [List.getElem?_set_ne (Ne.symm hjk)] at hj
        exact hs.apart i j s u hi hj hne
theorem Sep.upd (hs : Sep B0 w0 Z w l) (k : Nat) (hk : l[k]? = some t) (e : Ext t.F w w') (h : t'.P Z w') (st : t'.Stab) (hF : ∀ b ∈ t'.F, (b ∈ t.F ∨ w.heap.size ≤ b) ∧ b < w'.heap.size) (hO : t'.O = t.O) : Sep B0 w0 Z w' (l.set k t') :=
  hs.updZ k hk e h st (fun b hb => ⟨(hF b hb).1, (hF b hb).2, fun hz => by
    rcases (hF b hb).1 with h | h
    · exact (hs.ok k t hk).notZ b h hz
    · have := hs.zlt b hz; omega⟩) (fun _ h => h) (fun _ h => .inl h) hO
/-- New memory, some of which nobody turns from now on. -/
theorem Sep.stepZ (hs : Sep B0 w0 Z w l) (e : Ext [] w w') (hZ : ∀ b, Z b → Z' b) (hZ' : ∀ b, Z' b → Z b ∨ (w.heap.size ≤ b ∧ b < w'.heap.size)) : Sep B0 w0 Z' w' l :=
  ⟨hs.ext.trans e (fun x hx => .inl hx) (fun x hx => by cases hx), fun b hb => by
    rcases hZ' b hb with h | h
    · have := hs.zlt b h; have := e.size; omega
    · exact h.2, fun j s hj => by
    have o := hs.ok j s hj
    refine ⟨o.stab Z Z' [] w w' o.holds e (fun b hb => by cases hb) hZ, o.stab, fun b hb => by have := o.lt b hb; have := e.size; omega, fun b hb hz => ?_, o.org, o.org0⟩
    rcases hZ' b hz with h | h
    · exact o.notZ b hb h
    · have := o.lt b hb; omega, hs.apart⟩
theorem Sep.step (hs : Sep B0 w0 Z w l) (e : Ext [] w w') : Sep B0 w0 Z w' l := hs.stepZ e (fun _ h => h) (fun _ h => .inl h)
theorem Sep.sim (hs : Sep B0 w0 Z w l) (e : Sim w w') : Sep B0 w0 Z w' l := by obtain ⟨k, rfl⟩ := e; exact hs.step ⟨rfl, rfl, rfl, Nat.le_refl _, fun _ _ _ => rfl⟩
/-- A part that is laid anew. -/
theorem Sep.add (hs : Sep B0 w0 Z w l) (e : Ext [] w w') (h : t.P Z w') (st : t.Stab) (hF : ∀ b ∈ t.F, w.heap.size ≤ b ∧ b < w'.heap.size) (hO : t.O = []) : Sep B0 w0 Z w' (t :: l) := by
  have h1 := hs.step e
  have hsz := hs.ext.size
  refine ⟨h1.ext, h1.zlt, fun k s hk => ?_, fun j k s u hj hk hne => ?_⟩
  · cases k with
    | zero =>
      simp at hk; subst hk
      exact ⟨h, st, fun b hb => (hF b hb).2, fun b hb hz => by have := hs.zlt b hz; have := (hF b hb).1; omega, fun b hb => .inr (by have := (hF b hb).1; omega), fun b hb => (by rw [hO] at hb; cases hb)⟩
    | succ k => exact h1.ok k s (by simpa using hk)
  · cases j with
    | zero =>
      cases k with
      | zero => exact absurd rfl hne
      | succ k =>
        simp at hj hk; subst hj
        intro b hb hb'
        have := (hs.ok k u hk).lt b hb'; have := (hF b hb).1; omega
    | succ j =>
      cases k with
      | zero =>
        simp at hj hk; subst hk
        intro b hb hb'
        have := (hs.ok j s hj).lt b hb; have := (hF b hb').1; omega
      | succ k => exact hs.apart j k s u (by simpa using hj) (by simpa using hk) (by omega)
/-- A fact that has no memory of its own. -/
theorem Sep.fact (hs : Sep B0 w0 Z w l) (h : t.P Z w) (st : t.Stab) (hF : t.F = []) (hO : t.O = []) : Sep B0 w0 Z w (t :: l) :=
  hs.add (Ext.refl [] w) h st (fun b hb => by rw [hF] at hb; cases hb) hO
theorem Sep.drop (hs : Sep B0 w0 Z w (t :: l)) : Sep B0 w0 Z w l :=
  ⟨hs.ext, hs.zlt, fun k s hk => hs.ok (k + 1) s (by simpa using hk), fun j k s u hj hk hne => hs.apart (j + 1) (k + 1) s u (by simpa using hj) (by simpa using hk) (by omega)⟩
/-- Whatever parts are wanted, each once, in whatever order. -/
theorem Sep.pick (hs : Sep B0 w0 Z w l) (ks : List Nat) (hn : (ks.all fun k => Nat.blt k l.length) = true) (hu : ks.Nodup) {l' : List It} (e : ks.map (fun k => l.getD k ⟨[], [], fun _ _ => True⟩) = l') : Sep B0 w0 Z w l' := by
  subst e
  have get : ∀ (j : Nat) (t : It), (ks.map (fun k => l.getD k ⟨[], [], fun _ _ => True⟩))[j]? = some t → ∃ k, ks[j]? = some k ∧ l[k]? = some t := by
    intro j t h
    rw [List.getElem?_map] at h
    cases hk : ks[j]? with
    | none => rw [hk] at h; cases h
    | some k =>
      rw [hk] at h; simp only [Option.map_some, Option.some.injEq] at h
      have hlt : k < l.length := by
        rw [List.all_eq_true] at hn
        exact blt_lt (hn k (List.mem_of_getElem? hk))
      refine ⟨k, rfl, ?_⟩
      rw [List.getElem?_eq_getElem hlt, ← h, List.getD_eq_getElem?_getD, List.getElem?_eq_getElem hlt]; rfl
  refine ⟨hs.ext, hs.zlt, fun j t h => ?_, fun i j s t hi hj hne => ?_⟩
  · obtain ⟨k, _, h⟩ := get j t h; exact hs.ok k t h
  · obtain ⟨k1, a1, b1⟩ := get i s hi
    obtain ⟨k2, a2, b2⟩ := get j t hj
    refine hs.apart k1 k2 s t b1 b2 fun e => hne ?_
    subst e
    have hi' : i < ks.length := by rcases Nat.lt_or_ge i ks.length with h | h; exact h; rw [List.getElem?_eq_none h] at a1; cases a1
    have hj' : j < ks.length := by rcases Nat.lt_or_ge j ks.length with h | h; exact h; rw [List.getElem?_eq_none h] at a2; cases a2
    rw [List.getElem?_eq_getElem hi'] at a1
    rw [List.getElem?_eq_getElem hj'] at a2
    exact (List.getElem_inj hu).1 ((Option.some.inj a1).trans (Option.some.inj a2).symm)
/-- A part that nobody turns from now on. -/
theorem Sep.freeze (hs : Sep B0 w0 Z w l) (k : Nat) (hk : l[k]? = some t) (h : t'.P (fun b => Z b ∨ b ∈ t.F) w) (st : t'.Stab) (hF : t'.F = []) (hO : t'.O = []) : Sep B0 w0 (fun b => Z b ∨ b ∈ t.F) w (l.set k t') := by
  have hkl : k < l.length := by
    rcases Nat.lt_or_ge k l.length with h | h
    · exact h
    · rw [List.getElem?_eq_none h] at hk; cases hk
  refine ⟨hs.ext, fun b hb => ?_, fun j s hj => ?_, fun i j s u hi hj hne => ?_⟩
  · rcases hb with h | h
    · exact hs.zlt b h
    · exact (hs.ok k t hk).lt b h
  · by_cases hjk : j = k
    · subst hjk
      rw [List.getElem?_set_self hkl] at hj; cases hj
      exact ⟨h, st, fun b hb => (by rw [hF] at hb; cases hb), fun b hb => (by rw [hF] at hb; cases hb), fun b hb => (by rw [hF] at hb; cases hb), fun b hb => (by rw [hO] at hb; cases hb)⟩
    · rw [List.getElem?_set_ne (Ne.symm hjk)] at hj
      have o := hs.ok j s hj
      refine ⟨o.stab Z _ [] w w o.holds (Ext.refl _ _) (fun b hb => (by cases hb)) (fun b hb => .inl hb), o.stab, o.lt, fun b hb hz => ?_, o.org, o.org0⟩
      rcases hz with h | h
      · exact o.notZ b hb h
      · exact hs.apart j k s t hj hk hjk b hb h
  · by_cases hik : i = k
    · subst hik
      rw [List.getElem?_set_self hkl] at hi; cases hi
      intro b hb; rw [hF] at hb; cases hb
    · rw [List.getElem?_set_ne (Ne.symm hik)] at hi
      by_cases hjk : j = k
      · subst hjk
        rw [List.getElem?_set_self hkl] at hj; cases hj
        intro b _ hb; rw [hF] at hb; cases hb
      · rw [List.getElem?_set_ne (Ne.symm hjk)] at hj
        exact hs.apart i j s u hi hj hne
/-- Two parts turn. -/
theorem Sep.upd2 (hs : Sep B0 w0 Z w l) (k j : Nat) (hk : l[k]? = some t) (hj : l[j]? = some s) (hkj : Nat.beq k j = false) (e : Ext (t.F ++ s.F) w w') (h : t'.P Z w') (h' : s'.P Z w') (st : t'.Stab) (st' : s'.Stab)
    (hF : ∀ b ∈ t'.F, (b ∈ t.F ∨ w.heap.size ≤ b) ∧ b < w'.heap.size) (hF' : ∀ b ∈ s'.F, (b ∈ s.F ∨ w.heap.size ≤ b) ∧ b < w'.heap.size) (ha : ∀ b ∈ t'.F, b ∉ s'.F) (hO : t'.O = t.O) (hO' : s'.O = s.O) : Sep B0 w0 Z w' ((l.set k t').set j s') := by
  have hne : k ≠ j := fun e => by rw [e, Nat.beq_refl] at hkj; cases hkj
  have okt := hs.ok k t hk
  have oks := hs.ok j s hj
  have hsz := hs.ext.size
  have lt_of : ∀ {k : Nat} {t : It}, l[k]? = some t → k < l.length := fun {k t} hk => by
    rcases Nat.lt_or_ge k l.length with h | h
    · exact h
    · rw [List.getElem?_eq_none h] at hk; cases hk
  have hkl := lt_of hk
  have hjl := lt_of hj
  have get : ∀ i u, ((l.set k t').set j s')[i]? = some u → (i = k ∧ u = t') ∨ (i = j ∧ u = s') ∨ (i ≠ k ∧ i ≠ j ∧ l[i]? = some u) := by
    intro i u hi
    by_cases h1 : i = j
    · subst h1; rw [List.getElem?_set_self (by simpa using hjl)] at hi; cases hi; exact .inr (.inl ⟨rfl, rfl⟩)
    · rw [List.getElem?_set_ne (Ne.symm h1)] at hi
      by_cases h2 : i = k
      · subst h2; rw [List.getElem?_set_self hkl] at hi; cases hi; exact .inl ⟨rfl, rfl⟩
      · rw [List.getElem?_set_ne (Ne.symm h2)] at hi; exact .inr (.inr ⟨h2, h1, hi⟩)
  have nz : ∀ {t t' : It} {k : Nat}, l[k]? = some t → (∀ b ∈ t'.F, (b ∈ t.F ∨ w.heap.size ≤ b) ∧ b < w'.heap.size) → ∀ b ∈ t'.F, ¬ Z b := fun {t t' k} hk hF b hb hz => by
    rcases (hF b hb).1 with h | h
    · exact (hs.ok k t hk).notZ b h hz
    · have := hs.zlt b hz; omega
  have og : ∀ {t t' : It} {k : Nat}, l[k]? = some t → (∀ b ∈ t'.F, (b ∈ t.F ∨ w.heap.size ≤ b) ∧ b < w'.heap.size) → ∀ b ∈ t'.F, b ∈ t.O ∨ w0.heap.size ≤ b := fun {t t' k} hk hF b hb => by
    rcases (hF b hb).1 with h | h
    · exact (hs.ok k t hk).org b h
    · exact .inr (by omega)
  have apo : ∀ {t t' : It} {k : Nat}, l[k]? = some t → (∀ b ∈ t'.F, (b ∈ t.F ∨ w.heap.size ≤ b) ∧ b < w'.heap.size) → ∀ i u, l[i]? = some u → i ≠ k → ∀ b ∈ t'.F, b ∉ u.F := fun {t t' k} hk hF i u hi hik b hb hu => by
    rcases (hF b hb).1 with h | h
    · exact hs.apart k i t u hk hi (Ne.symm hik) b h hu
    · have := (hs.ok i u hi).lt b hu; omega
  refine ⟨hs.ext.trans e (fun x hx => .inl hx) (fun x hx => ?_), fun b hb => by have := hs.zlt b hb; have := e.size; omega, fun i u hi => ?_, fun i i' u u' hi hi' hii => ?_⟩
  · rcases List.mem_append.1 hx with hx | hx
    · exact (okt.org x hx).imp (okt.org0 x) id
    · exact (oks.org x hx).imp (oks.org0 x) id
  · rcases get i u hi with ⟨_, rfl⟩ | ⟨_, rfl⟩ | ⟨h1, h2, h3⟩
    · exact ⟨h, st, fun b hb => (hF b hb).2, nz hk hF, by rw [hO]; exact og hk hF, by rw [hO]; exact okt.org0⟩
    · exact ⟨h', st', fun b hb => (hF' b hb).2, nz hj hF', by rw [hO']; exact og hj hF', by rw [hO']; exact oks.org0⟩
    · have o := hs.ok i u h3
      refine ⟨o.stab Z Z _ w w' o.holds e (fun b hb hb' => ?_) (fun _ h => h), o.stab, fun b hb => by have := o.lt b hb; have := e.size; omega, o.notZ, o.org, o.org0⟩
      rcases List.mem_append.1 hb with hb | hb
      · rcases hb' with h | h
        · exact absurd h (hs.apart k i t u hk h3 (Ne.symm h1) b hb)
        · exact absurd h (okt.notZ b hb)
      · rcases hb' with h | h
        · exact absurd h (hs.apart j i s u hj h3 (Ne.symm h2) b hb)
        · exact absurd h (oks.notZ b hb)
  · rcases get i u hi with ⟨e1, rfl⟩ | ⟨e1, rfl⟩ | ⟨h1, h2, h3⟩
    · rcases get i' u' hi' with ⟨e2, rfl⟩ | ⟨e2, rfl⟩ | ⟨h1', h2', h3'⟩
      · omega
      · exact ha
      · exact apo hk hF i' u' h3' h1'
    · rcases get i' u' hi' with ⟨e2, rfl⟩ | ⟨e2, rfl⟩ | ⟨h1', h2', h3'⟩
      · exact fun b hb hb' => ha b hb' hb
      · omega
      · exact apo hj hF' i' u' h3' h2'
    · rcases get i' u' hi' with ⟨e2, rfl⟩ | ⟨e2, rfl⟩ | ⟨h1', h2', h3'⟩
      · exact fun b hb hb' => apo hk hF i u h3 h1 b hb' hb
      · exact fun b hb hb' => apo hj hF' i u h3 h2 b hb' hb
      · exact hs.apart i i' u u' h3 h3' hii
end
end Go.Wl
end
section
namespace Go.Wl
open Go Go.Wk

/-- A slice of the call's own: nil, or the head of a row. 'bs': the row's block. -/
def Ac {α : Type} (r : Rd α) (Z : Nat → Prop) (w : World) (v : Value) (l : List α) (bs : List Nat) : Prop :=
  (v = .slice none 0 0 ∧ l = [] ∧ bs = []) ∨
  ∃ b cap C T, v = .slice (some ⟨b, 0, none⟩) l.length cap ∧ bs = [b] ∧ Own w b T C ∧ C.length = cap * r.sz ∧ l.length ≤ cap ∧
    ∀ i (h : i < l.length), ∃ c, c.length = r.sz ∧ (∀ j, j < r.sz → C[i * r.sz + j]? = c[j]?) ∧ r.rd Z w c l[i]
/-- What is copied from: a slice whose elements read. -/
def Src {α : Type} (r : Rd α) (Z : Nat → Prop) (w : World) (v : Value) (xs : List α) : Prop :=
  ∃ A cap, v = .slice A xs.length cap ∧ ∃ cs : List (List Value), cs.length = xs.length ∧ (∀ i (h : i < xs.length) (h' : i < cs.length), r.rd Z w cs[i] xs[i]) ∧ (xs = [] ∨ ∃ b o, A = some ⟨b, o, none⟩ ∧ Cells w b o cs.flatten)
section
variable {α : Type} {r : Rd α} {Z Z' : Nat → Prop} {B bs : List Nat} {w w' : World} {v : Value} {l : List α}
theorem Ac.nil : Ac r Z w (.slice none 0 0) [] [] := .inl ⟨rfl, rfl, rfl⟩
theorem Ac.val (h : Ac r Z w v l bs) : ∃ A cap, v = .slice A l.length cap := by
  rcases h with ⟨rfl, rfl, rfl⟩ | ⟨b, cap, C, T, rfl, _⟩
  · exact ⟨none, 0, rfl⟩
  · exact ⟨_, _, rfl⟩
theorem Ac.lt (h : Ac r Z w v l bs) : ∀ b ∈ bs, b < w.heap.size := by
  rcases h with ⟨rfl, rfl, rfl⟩ | ⟨b, cap, C, T, rfl, rfl, ho, _⟩
  · simp
  · intro x hx; simp at hx; subst hx; exact ho.lt
theorem Ac.stab (h : Ac r Z w v l bs) (e : Ext B w w') (hB : ∀ b ∈ B, (b ∈ bs ∨ Z b) → w.heap.size ≤ b) (hZ : ∀ b, Z b → Z' b) : Ac r Z' w' v l bs := by
  rcases h with h | ⟨b, cap, C, T, hv, hb, ho, hC, hl, hc⟩
  · exact .inl h
  · have hlt := ho.lt
    refine .inr ⟨b, cap, C, T, hv, hb, ho.ext e (fun hm => by have := hB b hm (.inl (by simp [hb])); omega), hC, hl, fun i hi => ?_⟩
    obtain ⟨c, h1, h2, h3⟩ := hc i hi
    exact ⟨c, h1, h2, r.mono h3 e (fun x hx hz => hB x hx (.inr hz)) (fun x hx _ => hZ x hx)⟩
theorem Ac.rd (h : Ac r Z w v l bs) (hl : l.length ≤ 9223372036854775807) : (dSlice r).rd (fun b => Z b ∨ b ∈ bs) w [v] l := by
  rcases h with ⟨rfl, rfl, rfl⟩ | ⟨b, cap, C, T, rfl, rfl, ho, hC, hcap, hc⟩
  · exact dSlice_nil
  · refine ⟨hl, _, _, rfl, ⟨(fun h => by cases h), hcap⟩, fun i hi => ?_⟩
    obtain ⟨c, h1, h2, h3⟩ := hc i hi
    exact ⟨b, 0, c, rfl, .inr (by simp), ⟨_, _, _, ho, fun j hj => by
      have := h2 j (by omega)
      simpa using this⟩, r.weak h3 (fun x hx _ => .inl hx)⟩
end
section
variable {α : Type} {r : Rd α} {Z : Nat → Prop} {w : World} {v : Value} {xs : List α}
theorem Src.data (h : (dSlice r).rd Z w [v] xs) : Src r Z w v xs := by
  obtain ⟨A, cap, rfl⟩ := dSlice_val h
  refine ⟨A, cap, rfl, ?_⟩
  by_cases hne : xs = []
  · subst hne; exact ⟨[], rfl, by simp, .inl rfl⟩
  · have hpos : 0 < xs.length := List.length_pos_iff.2 hne
    obtain ⟨b, o, c0, hA, _, _, _⟩ := dSlice_at h hpos
    have h' : ∀ i, i < xs.length → ∃ c, Cells w b (o + i * r.sz) c ∧ ∃ hi : i < xs.length, r.rd Z w c xs[i] := fun i hi => by
      obtain ⟨b', o', c, hA', _, hc, hr⟩ := dSlice_at h hi
      rw [hA] at hA'; cases hA'
      exact ⟨c, hc, hi, hr⟩
    obtain ⟨cs, hcl, hcs⟩ := choose_list xs.length h'
    have hsz : ∀ c ∈ cs, c.length = r.sz := fun c hc => by
      obtain ⟨i, hi, rfl⟩ := List.getElem_of_mem hc
      obtain ⟨_, _, hr⟩ := hcs i hi
      exact r.len hr
    refine ⟨cs, hcl, fun i hi hi' => ?_, .inr ⟨b, o, hA, ?_⟩⟩
    · obtain ⟨_, _, hr⟩ := hcs i hi'; exact hr
    · obtain ⟨⟨C, T, z, hh, _⟩, _⟩ := hcs 0 (by omega)
      refine ⟨C, T, z, hh, fun j hj => ?_⟩
      rw [flat_len hsz] at hj
      have hsz0 : 0 < r.sz := by rcases Nat.eq_zero_or_pos r.sz with h | h; rw [h] at hj; simp at hj; exact h
      have hjq : j / r.sz < cs.length := Nat.div_lt_of_lt_mul (by rw [Nat.mul_comm]; exact hj)
      have hjr : j % r.sz < r.sz := Nat.mod_lt _ hsz0
      have hjd : j / r.sz * r.sz + j % r.sz = j := by rw [Nat.mul_comm]; exact Nat.div_add_mod j r.sz
      obtain ⟨⟨C', T', z', hh', hc'⟩, _, hr⟩ := hcs (j / r.sz) hjq
      rw [hh] at hh'; cases hh'
      have e1 := hc' (j % r.sz) (by rw [r.len hr]; exact hjr)
      have e2 := flat_get hsz (j / r.sz) (j % r.sz) hjr
      rw [hjd] at e2
      rw [e2, List.getElem?_eq_getElem hjq]
      simp only [Option.bind_some]
      rw [← e1]; congr 1; omega
/-- The elements' cells of a slice of the call's own. -/
theorem Ac.rows {bs : List Nat} {b cap : Nat} {C : List Value} {T : TypeId} (ho : Own w b T C) (hc : ∀ i (h : i < xs.length), ∃ c, c.length = r.sz ∧ (∀ j, j < r.sz → C[i * r.sz + j]? = c[j]?) ∧ r.rd Z w c xs[i]) :
    ∃ cs : List (List Value), cs.length = xs.length ∧ (∀ i (h : i < xs.length) (h' : i < cs.length), r.rd Z w cs[i] xs[i]) ∧ Cells w b 0 cs.flatten := by
  have h' : ∀ i, i < xs.length → ∃ c : List Value, c.length = r.sz ∧ (∀ j, j < r.sz → C[i * r.sz + j]? = c[j]?) ∧ ∃ hi : i < xs.length, r.rd Z w c xs[i] := fun i hi => by
    obtain ⟨c, h1, h2, h3⟩ := hc i hi; exact ⟨c, h1, h2, hi, h3⟩
  obtain ⟨os, hol, hos⟩ := choose_list xs.length h'
  have hsz : ∀ c ∈ os, c.length = r.sz := fun c hc => by
    obtain ⟨i, hi, rfl⟩ := List.getElem_of_mem hc
    exact (hos i hi).1
  refine ⟨os, hol, fun i hi hi' => (hos i hi').2.2.2, _, _, _, ho, fun j hj => ?_⟩
  rw [flat_len hsz] at hj
  have hsz0 : 0 < r.sz := by rcases Nat.eq_zero_or_pos r.sz with h | h; rw [h] at hj; simp at hj; exact h
  have hjq : j / r.sz < os.length := Nat.div_lt_of_lt_mul (by rw [Nat.mul_comm]; exact hj)
  have hjr : j % r.sz < r.sz := Nat.mod_lt _ hsz0
  have hjd : j / r.sz * r.sz + j % r.sz = j := by rw [Nat.mul_comm]; exact Nat.div_add_mod j r.sz
  have e1 := (hos (j / r.sz) hjq).2.1 (j % r.sz) hjr
  have e2 := flat_get hsz (j / r.sz) (j % r.sz) hjr
  rw [hjd] at e2 e1
  rw [e2, List.getElem?_eq_getElem hjq]
  simpa using e1
theorem Src.ac {bs : List Nat} (h : Ac r Z w v xs bs) : Src r Z w v xs := by
  rcases h with ⟨rfl, rfl, rfl⟩ | ⟨b, cap, C, T, rfl, rfl, ho, hC, hcap, hc⟩
  · exact ⟨none, 0, rfl, [], rfl, by simp, .inl rfl⟩
  · obtain ⟨cs, h1, h2, h3⟩ := Ac.rows (bs := [b]) (cap := cap) ho hc
    exact ⟨_, _, rfl, cs, h1, h2, .inr ⟨b, 0, rfl, h3⟩⟩
end
/-- Rows of cells that read ars the elements of a list. -/
def AllRd {α : Type} (r : Rd α) (Z : Nat → Prop) (w : World) : List (List Value) → List α → Prop
  | [], [] => True
  | c :: cs, x :: xs => r.rd Z w c x ∧ AllRd r Z w cs xs
  | _, _ => False
theorem AllRd.get {α : Type} {r : Rd α} {Z : Nat → Prop} {w : World} : ∀ {cs : List (List Value)} {xs : List α}, AllRd r Z w cs xs → cs.length = xs.length ∧ ∀ i (h : i < xs.length) (h' : i < cs.length), r.rd Z w cs[i] xs[i]
  | [], [], _ => ⟨rfl, fun i h => by simp at h⟩
  | c :: cs, x :: xs, ⟨h1, h2⟩ => by
    obtain ⟨a, b⟩ := AllRd.get h2
    refine ⟨by simp [a], fun i h h' => ?_⟩
    cases i with
    | zero => exact h1
    | succ i => simpa using b i (by simpa using h) (by simpa using h')
theorem AllRd.rep {α : Type} {r : Rd α} {Z : Nat → Prop} {w : World} {c : List Value} {x : α} (h : r.rd Z w c x) : ∀ n, AllRd r Z w (List.replicate n c) (List.replicate n x)
  | 0 => trivial
  | n + 1 => ⟨h, AllRd.rep h n⟩
theorem Ac.lit {α : Type} {r : Rd α} {Z : Nat → Prop} {w : World} {cs : List (List Value)} {l : List α} {b : Nat} {T : TypeId} {C : List Value} (ho : Own w b T C) (hC : C = cs.flatten) (h : AllRd r Z w cs l) : Ac r Z w (.slice (some ⟨b, 0, none⟩) l.length l.length) l [b] := by
  subst hC
  obtain ⟨h1, h2⟩ := h.get
  have hsz : ∀ c ∈ cs, c.length = r.sz := fun c hc => by
    obtain ⟨i, hi, rfl⟩ := List.getElem_of_mem hc
    exact r.len (h2 i (by omega) hi)
  refine .inr ⟨b, l.length, _, T, rfl, rfl, ho, by rw [flat_len hsz, h1], Nat.le_refl _, fun i hi => ?_⟩
  have hi' : i < cs.length := by omega
  refine ⟨cs[i], hsz _ (List.getElem_mem _), fun j hj => ?_, h2 i hi hi'⟩
  rw [flat_get hsz i j hj, List.getElem?_eq_getElem hi']; rfl

/-! ### The parts -/
abbrev iOwn (b : Nat) (T : TypeId) (cs : List Value) (O : List Nat) : It := ⟨[b], O, fun _ w => Own w b T cs⟩
abbrev iMap {κ : Type} (ky : Key κ) (b : Nat) (L : List (κ × Value)) (O : List Nat) : It := ⟨[b], O, fun _ w => MapAt ky w b L⟩
abbrev iIter {κ : Type} (ky : Key κ) (it b : Nat) (L D : List (κ × Value)) (O : List Nat) : It := ⟨[it, b], O, fun _ w => Iter ky w it b L D⟩
abbrev iData {α : Type} (r : Rd α) (cs : List Value) (x : α) : It := ⟨[], [], fun Z w => r.rd Z w cs x⟩
abbrev iAc {α : Type} (r : Rd α) (v : Value) (l : List α) (bs O : List Nat) : It := ⟨bs, O, fun Z w => Ac r Z w v l bs⟩
/-- A thing that lies in some blocks. -/
structure Ob (α : Type) where
  is : (Nat → Prop) → World → α → List Nat → Prop
  stab : ∀ {x F}, It.Stab ⟨F, [], fun Z w => is Z w x F⟩
  lt : ∀ {Z w x F}, is Z w x F → ∀ b ∈ F, b < w.heap.size
abbrev iOb {α : Type} (o : Ob α) (x : α) (F O : List Nat) : It := ⟨F, O, fun Z w => o.is Z w x F⟩
section
variable {b it : Nat} {T : TypeId} {cs : List Value} {O bs : List Nat} {v : Value} {α κ : Type} {r : Rd α} {l : List α} {x : α} {ky : Key κ} {L D : List (κ × Value)}
theorem sOwn : (iOwn b T cs O).Stab := fun Z Z' B w w' h e hB _ => h.ext e (fun hm => by have := hB b hm (.inl (by simp)); have := Own.lt h; omega)
theorem sMap : (iMap ky b L O).Stab := fun Z Z' B w w' h e hB _ => h.ext e (fun hm => by have := hB b hm (.inl (by simp)); have := MapAt.lt h; omega)
theorem sIter : (iIter ky it b L D O).Stab := fun Z Z' B w w' h e hB _ => Iter.ext h e (fun hm => by have := hB b hm (.inl (by simp)); have := MapAt.lt (Iter.map h); omega) (fun hm => by have := hB it hm (.inl (by simp)); have := Iter.lt h; omega)
theorem sData : (iData r cs x).Stab := fun Z Z' B w w' h e hB hZ => r.mono h e (fun b hb hz => hB b hb (.inr hz)) (fun b hb _ => hZ b hb)
theorem sAc : (iAc r v l bs O).Stab := fun Z Z' B w w' h e hB hZ => Ac.stab h e hB hZ
theorem sOb {o : Ob α} {F : List Nat} : (iOb o x F O).Stab := fun Z Z' B w w' h e hB hZ => o.stab Z Z' B w w' h e hB hZ
end
section
variable {P : Program} {α : Type} {r : Rd α} {Z : Nat → Prop} {bs : List Nat} {w : World} {v : Value} {l : List α} {T E : TypeId} {info : TypeInfo} {zv : Value}
theorem firstCells_run {sz : Nat} {A : Option Addr} {cap k : Nat} {cs : List (List Value)} (hl : cs.length = k) (hs : ∀ c ∈ cs, c.length = sz) (h : k = 0 ∨ ∃ b o, A = some ⟨b, o, none⟩ ∧ Cells w b o cs.flatten) :
    (Builtin.firstCells sz k (.slice A k cap)).run P w = .ok cs.flatten.toArray w := by
  cases A with
  | none =>
    rcases h with h | ⟨b, o, h, _⟩
    · subst h; have : cs = [] := List.eq_nil_of_length_eq_zero hl; subst this; simp [Builtin.firstCells, Sem.run, pure]
    · cases h
  | some a =>
    rcases h with h | ⟨b, o, h, hc⟩
    · subst h; have : cs = [] := List.eq_nil_of_length_eq_zero hl; subst this; simp [Builtin.firstCells, loadCells, loadCellsFrom, Sem.run, pure]
    · cases h
      have := loadCells_run (P := P) hc
      rw [flat_len hs, hl] at this
      simpa [Builtin.firstCells] using this
/-- append, whichever way it goes. -/
theorem append_run {xs : List α} {xv : Value} (hT : ∀ w, (underlying T).run P w = .ok (.slice E) w) (hI : ∀ w, (typeInfo E).run P w = .ok info w) (hE : ∀ w, (sizeOf E).run P w = .ok r.sz w) (hz : ∀ w, (zeroValue E).run P w = .ok zv w) (hzs : zv.cells.size = r.sz)
    (ha : Ac r Z w v l bs) (hx : Src r Z w xv xs) (hnz : ∀ b ∈ bs, ¬ Z b) (hb : (l.length + xs.length) * info.bytes ≤ 140737488355328) (hb1 : 1 ≤ info.bytes) :
    ∀ w1, Sim w w1 → ∃ v' w2 w', (Builtin.append_ #[T, T] T #[v, xv]).run P w1 = .ok v' w2 ∧ Sim w' w2 ∧ ∃ bs', Ac r Z w' v' (l ++ xs) bs' ∧ Ext bs w w' ∧ (∀ b ∈ bs', b ∈ bs ∨ w.heap.size ≤ b) := by
  intro w1 hs
  obtain ⟨kk, rfl⟩ := hs
  obtain ⟨A, cap, rfl⟩ := ha.val
  obtain ⟨B, xcap, rfl, cs, hcl, hcr0, hrow⟩ := hx
  have hcr : ∀ i (h : i < xs.length) (h' : i < cs.length), r.rd Z w cs[i] xs[i] := hcr0
  have hcs : ∀ c ∈ cs, c.length = r.sz := fun c hc => by
    obtain ⟨i, hi, rfl⟩ := List.getElem_of_mem hc
    exact r.len (hcr i (by omega) hi)
  have hrow' : xs.length = 0 ∨ ∃ b o, B = some ⟨b, o, none⟩ ∧ Cells { w with drawn := kk } b o cs.flatten := by
    rcases hrow with h | ⟨b, o, h1, h2⟩
    · exact .inl (by simp [h])
    · exact .inr ⟨b, o, h1, h2.sim ⟨kk, rfl⟩⟩
  have hnew : (Builtin.firstCells r.sz xs.length (.slice B xs.length xcap)).run P { w with drawn := kk } = .ok cs.flatten.toArray { w with drawn := kk } := firstCells_run hcl hcs hrow'
  by_cases hfit : l.length + xs.length ≤ cap
  · -- there is room
    rcases ha with ⟨hv, rfl, rfl⟩ | ⟨b, cap', C, T', hv, rfl, ho, hC, hcap, hc⟩
    · simp at hv
      obtain ⟨rfl, rfl⟩ := hv
      have hx0 : xs = [] := List.eq_nil_of_length_eq_zero (by have : ([] : List α).length + xs.length ≤ 0 := hfit; simp at this; simp [this])
      subst hx0
      refine ⟨.slice none 0 0, { w with drawn := kk }, w, ?_, ⟨kk, rfl⟩, [], Ac.nil, Ext.refl _ _, by simp⟩
      simp only [Builtin.append_, hT, hE, Builtin.lenOf, Sem.run_bind, Result.andThen_ok, Sem.run_pure, List.getElem?_toArray, List.getElem?_cons_zero, List.getElem?_cons_succ, Bool.false_eq_true, if_false, Bool.not_false, if_true]
      rw [if_pos hfit]
      simp only [Sem.run_bind, hnew, Result.andThen_ok, Sem.run_pure]; rfl
    · simp at hv
      obtain ⟨rfl, rfl⟩ := hv
      have hfl := flat_len hcs
      have hpl : ∀ u ∈ cs.flatten, plain1 u = true := by
        intro u hu
        obtain ⟨c, hc1, hc2⟩ := List.mem_flatten.1 hu
        obtain ⟨i, hi, rfl⟩ := List.getElem_of_mem hc1
        have := r.plain (hcr i (by omega) hi)
        rw [List.all_eq_true] at this
        exact this u hc2
      have hroom : l.length * r.sz + 0 + cs.flatten.length ≤ C.length := by
        rw [hfl, hC, hcl, Nat.add_zero, ← Nat.add_mul]; exact Nat.mul_le_mul_right _ hfit
      obtain ⟨w', hr, ho', he, hsz, hk⟩ := storeCells_run (P := P) cs.flatten (l.length * r.sz) 0 C w ho hroom hpl
      refine ⟨.slice (some ⟨b, 0, none⟩) (l.length + xs.length) cap, { w' with drawn := kk }, w', ?_, ⟨kk, rfl⟩, [b], ?_, he, by simp⟩
      · have e : (Addr.add ⟨b, 0, none⟩ (l.length * r.sz)) = ⟨b, l.length * r.sz, none⟩ := by
          unfold Addr.add; split
          · rename_i h; rw [h]
          · simp
        simp only [Builtin.append_, hT, hE, Builtin.lenOf, Sem.run_bind, Result.andThen_ok, Sem.run_pure, List.getElem?_toArray, List.getElem?_cons_zero, List.getElem?_cons_succ, Bool.false_eq_true, if_false, Bool.not_false, if_true]
        rw [if_pos hfit]
        simp only [Sem.run_bind, hnew, Result.andThen_ok, Sem.run_pure, e, hk kk]
      · refine .inr ⟨b, cap, splice C (l.length * r.sz + 0) cs.flatten, T', by simp, rfl, ho', by rw [splice_length, hC], by simpa using hfit, fun i hi => ?_⟩
        have hget := fun k => splice_get cs.flatten C (l.length * r.sz + 0) k hroom
        by_cases hil : i < l.length
        · obtain ⟨c, h1, h2, h3⟩ := hc i hil
          refine ⟨c, h1, fun j hj => ?_, ?_⟩
          · have hlt : i * r.sz + j < l.length * r.sz := by
              have : (i + 1) * r.sz ≤ l.length * r.sz := Nat.mul_le_mul_right _ hil
              rw [Nat.add_mul] at this; omega
            rw [hget, if_neg (by omega)]; exact h2 j hj
          · rw [List.getElem_append_left hil]
            exact r.mono h3 he (fun x hx hz => absurd hz (hnz x hx)) (fun x hx _ => hx)
        · have hix : i - l.length < xs.length := by simp at hi; omega
          have hic : i - l.length < cs.length := by omega
          refine ⟨cs[i - l.length], hcs _ (List.getElem_mem _), fun j hj => ?_, ?_⟩
          · have e1 : i * r.sz + j - (l.length * r.sz + 0) = (i - l.length) * r.sz + j := by
              rw [Nat.sub_mul]; have : l.length * r.sz ≤ i * r.sz := Nat.mul_le_mul_right _ (by omega); omega
            have hlt : (i - l.length) * r.sz + j < cs.flatten.length := by
              rw [hfl]
              have : (i - l.length + 1) * r.sz ≤ cs.length * r.sz := Nat.mul_le_mul_right _ hic
              rw [Nat.add_mul] at this; omega
            have hge : l.length * r.sz ≤ i * r.sz := Nat.mul_le_mul_right _ (by omega)
            rw [hget, if_pos (by rw [Nat.sub_mul] at hlt; omega), e1, flat_get hcs _ _ hj, List.getElem?_eq_getElem hic]; rfl
          · rw [List.getElem_append_right (by omega)]
            exact r.mono (hcr _ hix hic) he (fun x hx hz => absurd hz (hnz x hx)) (fun x hx _ => hx)
  · -- there is none
    have hneed : ¬ l.length + xs.length ≤ cap := hfit
    have hns := Wk.nextslicecap_le (need := l.length + xs.length) (cap := cap) (by omega)
    have hns' : ¬ (Builtin.nextslicecap (l.length + xs.length) cap * info.bytes > 2 ^ 48) := by
      have := Nat.mul_le_mul_right info.bytes hns
      have e : (2 : Nat) ^ 48 = 281474976710656 := by decide
      rw [Nat.mul_assoc] at this; omega
    have hlen : l.length + xs.length ≤ 140737488355328 := by
      have := Nat.mul_le_mul_left (l.length + xs.length) hb1; omega
    have hold : ∃ os : List (List Value), os.length = l.length ∧ (∀ c ∈ os, c.length = r.sz) ∧ (∀ i (h : i < l.length) (h' : i < os.length), r.rd Z w os[i] l[i]) ∧ (Builtin.firstCells r.sz l.length (.slice A l.length cap)).run P { w with drawn := kk + 1 } = .ok os.flatten.toArray { w with drawn := kk + 1 } := by
      rcases ha with ⟨hv, rfl, rfl⟩ | ⟨b, cap', C, T', hv, rfl, ho, hC, hcap, hc⟩
      · simp at hv
        obtain ⟨rfl, rfl⟩ := hv
        exact ⟨[], rfl, by simp, by simp, by simp [Builtin.firstCells, Sem.run, pure]⟩
      · simp at hv
        obtain ⟨rfl, rfl⟩ := hv
        have h' : ∀ i, i < l.length → ∃ c : List Value, c.length = r.sz ∧ (∀ j, j < r.sz → C[i * r.sz + j]? = c[j]?) ∧ ∃ hi : i < l.length, r.rd Z w c l[i] := fun i hi => by
          obtain ⟨c, h1, h2, h3⟩ := hc i hi; exact ⟨c, h1, h2, hi, h3⟩
        obtain ⟨os, hol, hos⟩ := choose_list l.length h'
        have hsz : ∀ c ∈ os, c.length = r.sz := fun c hc => by
          obtain ⟨i, hi, rfl⟩ := List.getElem_of_mem hc
          exact (hos i hi).1
        refine ⟨os, hol, hsz, fun i hi hi' => (hos i hi').2.2.2, firstCells_run hol hsz (.inr ⟨b, 0, rfl, _, _, _, ho.sim ⟨kk + 1, rfl⟩, fun j hj => ?_⟩)⟩
        rw [flat_len hsz] at hj
        have hsz0 : 0 < r.sz := by rcases Nat.eq_zero_or_pos r.sz with h | h; rw [h] at hj; simp at hj; exact h
        have hjq : j / r.sz < os.length := Nat.div_lt_of_lt_mul (by rw [Nat.mul_comm]; exact hj)
        have hjr : j % r.sz < r.sz := Nat.mod_lt _ hsz0
        have hjd : j / r.sz * r.sz + j % r.sz = j := by rw [Nat.mul_comm]; exact Nat.div_add_mod j r.sz
        have e1 := (hos (j / r.sz) hjq).2.1 (j % r.sz) hjr
        have e2 := flat_get hsz (j / r.sz) (j % r.sz) hjr
        rw [hjd] at e2 e1
        rw [e2, List.getElem?_eq_getElem hjq]
        simpa using e1
    obtain ⟨os, hol, hos, hor, holdr⟩ := hold
    have hnew1 : (Builtin.firstCells r.sz xs.length (.slice B xs.length xcap)).run P { w with drawn := kk + 1 } = .ok cs.flatten.toArray { w with drawn := kk + 1 } := firstCells_run hcl hcs (by
      rcases hrow with h | ⟨b, o, h1, h2⟩
      · exact .inl (by simp [h])
      · exact .inr ⟨b, o, h1, h2.sim ⟨kk + 1, rfl⟩⟩)
    let nc := (Question.appendCap (l.length + xs.length) cap E).cut (w.tape kk (Question.appendCap (l.length + xs.length) cap E))
    have hnc : l.length + xs.length ≤ nc := by show _ ≤ _ + _ % _; omega
    let row := os.flatten.toArray ++ cs.flatten.toArray ++ Builtin.zeroCells zv.cells (nc - (l.length + xs.length))
    refine ⟨.slice (some ⟨w.heap.size, 0, none⟩) (l.length + xs.length) nc, { w with drawn := kk + 1, heap := w.heap.push (.cells row E) }, { w with heap := w.heap.push (.cells row E) }, ?_, ⟨kk + 1, rfl⟩, [w.heap.size], ?_, (Ext.push w _).mono (by simp), by simp⟩
    · have hch : (choose (.appendCap (l.length + xs.length) cap E)).run P { w with drawn := kk } = .ok nc { w with drawn := kk + 1 } := by
        simp [choose, Sem.run, Question.forced, nc]
      have hroom : ∀ m (w : World), (askRoom m).run P w = .ok () w := fun m w => by unfold askRoom; split <;> simp [mark, Sem.run, pure]
      have hnl : ¬ ((l.length : Int) + (xs.length : Int) > 9223372036854775807 ∧ (false = true ∨ info.bytes = 0)) := by omega
      simp only [Builtin.append_, hT, hE, Builtin.lenOf, Sem.run_bind, Result.andThen_ok, Sem.run_pure, List.getElem?_toArray, List.getElem?_cons_zero, List.getElem?_cons_succ, Bool.false_eq_true, if_false, Bool.not_false, if_true]
      rw [if_neg hfit]
      simp only [Bool.false_eq_true, if_false, Sem.run_bind, hI, Result.andThen_ok, false_or]
      rw [if_neg (by intro h; have := h.2; omega)]
      simp only [Sem.run_bind, hI, Result.andThen_ok]
      rw [if_neg hns']
      simp only [Sem.run_bind, Sem.run_pure, hch, hI, hroom, holdr, hnew1, hz, Result.andThen_ok, newRow, newObj, Sem.run]
      rfl
    · have hlo := flat_len hos
      have hlc := flat_len hcs
      refine .inr ⟨w.heap.size, nc, row.toList, E, by simp, rfl, by simp [Own], ?_, by simpa using hnc, fun i hi => ?_⟩
      · simp only [row, Array.toList_append, List.length_append, Array.length_toList, List.size_toArray, hlo, hlc, zeroCells_len, hzs, hol, hcl]
        rw [← Nat.add_mul, ← Nat.add_mul]; congr 1; omega
      · have hrow : row.toList = os.flatten ++ (cs.flatten ++ (Builtin.zeroCells zv.cells (nc - (l.length + xs.length))).toList) := by simp [row]
        rw [hrow]
        by_cases hil : i < l.length
        · have hio : i < os.length := by omega
          refine ⟨os[i], hos _ (List.getElem_mem _), fun j hj => ?_, ?_⟩
          · have hlt : i * r.sz + j < os.flatten.length := by
              rw [hlo]; have : (i + 1) * r.sz ≤ os.length * r.sz := Nat.mul_le_mul_right _ hio
              rw [Nat.add_mul] at this; omega
            rw [List.getElem?_append_left hlt, flat_get hos _ _ hj, List.getElem?_eq_getElem hio]; rfl
          · rw [List.getElem_append_left hil]
            exact r.mono (hor i hil hio) (Ext.push w _) (fun x hx => by cases hx) (fun x hx _ => hx)
        · have hix : i - l.length < xs.length := by simp at hi; omega
          have hic : i - l.length < cs.length := by omega
          refine ⟨cs[i - l.length], hcs _ (List.getElem_mem _), fun j hj => ?_, ?_⟩
          · have hge : l.length * r.sz ≤ i * r.sz := Nat.mul_le_mul_right _ (by omega)
            have e1 : i * r.sz + j - os.flatten.length = (i - l.length) * r.sz + j := by rw [hlo, hol, Nat.sub_mul]; omega
            have hlt : (i - l.length) * r.sz + j < cs.flatten.length := by
              rw [hlc]; have : (i - l.length + 1) * r.sz ≤ cs.length * r.sz := Nat.mul_le_mul_right _ hic
              rw [Nat.add_mul] at this; omega
            rw [List.getElem?_append_right (by rw [hlo, hol]; omega), e1, List.getElem?_append_left hlt, flat_get hcs _ _ hj, List.getElem?_eq_getElem hic]; rfl
          · rw [List.getElem_append_right (by omega)]
            exact r.mono (hcr _ hix hic) (Ext.push w _) (fun x hx => by cases hx) (fun x hx _ => hx)

end
end Go.Wl
end
section
namespace Go.Wl
open Go Go.Wk

/-! ### Cells at an address -/
def CellsA (w : World) (a : Addr) (cs : List Value) : Prop := a.spot = none ∧ Cells w a.block a.off cs
theorem eA_spot (A : Option Addr) (q : Nat) : (eA A q).spot = none := by cases A with
  | none => rfl
  | some a => obtain ⟨b, o, s⟩ := a; rfl
section
variable {α β : Type} {r : Rd α} {s : Rd β} {D : Nat → Prop} {w : World} {A : Option Addr} {nn cap : Nat} {l : List α}
theorem dSlice_n (h : (dSlice r).rd D w [.slice A nn cap] l) : l.length = nn := by
  obtain ⟨_, A', cap', e, _⟩ := h
  simp at e; exact e.2.1.symm
/-- A part of an element. -/
theorem cell_ix [Inhabited α] {o q sz : Nat} {i : Int} {g : α → β} (h : (dSlice r).rd D w [.slice A nn cap] l) (sub : Sub r o s g) (hsz : r.sz = sz) (hq : q = i.toNat * sz + o) (h0 : 0 ≤ i) (h1 : i < nn) :
    ∃ c, CellsA w (eA A q) c ∧ s.rd D w c (g (ix l i)) := by
  subst hsz; subst hq
  have hn := dSlice_n h
  subst hn
  have hi : i.toNat < l.length := by omega
  obtain ⟨b, o', c, rfl, _, hc, hr⟩ := dSlice_at h hi
  have hl := r.len hr
  have hs := sub.1
  refine ⟨(c.drop o).take s.sz, ⟨rfl, ?_⟩, by rw [ix_get hi]; exact sub.2 hr⟩
  obtain ⟨C, T, z, hh, hcc⟩ := hc
  refine ⟨C, T, z, hh, fun j hj => ?_⟩
  simp only [List.length_take, List.length_drop] at hj
  have := hcc (o + j) (by omega)
  rw [List.getElem?_take, if_pos (by omega), List.getElem?_drop, ← this]
  show C[o' + (i.toNat * r.sz + o) + j]? = _
  congr 1; omega
end

section
variable {P : Program} {m : Bool} {n : Nat} {ops : List Oper} {Q : Exit → Fr → World → Prop} {rest : List Oper} {f : Fr} {w w0 : World} {d : Nat} {Z D : Nat → Prop} {B0 : List Nat} {L : List It}
variable {ty T T' T2 E : TypeId} {pos : String} {after : Array Edge} {x y z : Operand} {k : IntKind} {v zv : Value} {i : Int} {p : Bool}
variable {α β : Type} {r : Rd α} {s : Rd β} {A : Option Addr} {nn cap q sz b : Nat} {l : List α} {cs O bs : List Nat}

theorem Z_index (h : (dSlice r).rd D w [.slice A nn cap] l) (hT : ∀ w, (underlying T).run P w = .ok (.slice E) w) (hE : ∀ w, (sizeOf E).run P w = .ok sz w) (hsz : r.sz = sz) (hx : ev f x = .slice A nn cap) (hy : ev f y = .int k i)
    (h0 : 0 ≤ i) (h1 : i < nn) (hn : Nat.blt d n = true) (K : WL P m n ops Q rest (upd f d (.pointer (some (eA A (i.toNat * sz))))) w) :
    WL P m n ops Q (⟨some d, .indexAddr T x y, ty, pos, after, none⟩ :: rest) f w := by
  have hl := dSlice_n h
  subst hl
  obtain ⟨b, o, c, rfl, _, _, _⟩ := dSlice_at h (show i.toNat < l.length by omega)
  refine WL_val rfl rfl hn (v := .pointer (some ⟨b, o + i.toNat * sz, none⟩)) (fun w1 hs => ?_) K
  simp only [execOp, hx, hy, Sem.run_bind, run_indexAddr hT hE h0 h1]
  rfl
theorem Z_field {fi : Nat} {fs : Array Field} {fd : Field} {mm : Nat} (hT : ∀ w, (underlying T).run P w = .ok (.struct fs) w) (hf : fs[fi]? = some fd) (hz : ∀ w, (sizeOf fd.type).run P w = .ok (mm + 1) w) (hx : ev f x = .pointer (some (eA A q))) (hn : Nat.blt d n = true)
    (K : WL P m n ops Q rest (upd f d (.pointer (some (eA A (q + fd.offset))))) w) : WL P m n ops Q (⟨some d, .fieldAddr T x fi, ty, pos, after, none⟩ :: rest) f w :=
  WL_val rfl rfl hn (v := .pointer (some (eA A (q + fd.offset)))) (fun w1 hs => by
    simp [execOp, hx, Instr.fieldAt, Instr.sureAddr, fieldPlace, hT, hf, hz, go_sem, eA_add]) K
theorem Z_load {a : Addr} (hA : ∀ w, (isAgg T).run P w = .ok false w) (hx : ev f x = .pointer (some a)) (hc : CellsA w a [v]) (hn : Nat.blt d n = true) (K : WL P m n ops Q rest (upd f d v) w) :
    WL P m n ops Q (⟨some d, .load T x, ty, pos, after, none⟩ :: rest) f w := by
  obtain ⟨b, o, s⟩ := a
  obtain ⟨h1, h2⟩ := hc
  simp only at h1 h2; subst h1
  exact S_load1 hA hx h2 hn K
theorem Z_loadAgg {a : Addr} {mm : Nat} {cs : List Value} (hA : ∀ w, (isAgg T).run P w = .ok true w) (hz : ∀ w, (sizeOf T).run P w = .ok mm w) (hl : cs.length = mm) (hx : ev f x = .pointer (some a)) (hc : CellsA w a cs) (hn : Nat.blt d n = true)
    (K : WL P m n ops Q rest (upd f d (.agg cs.toArray)) w) : WL P m n ops Q (⟨some d, .load T x, ty, pos, after, none⟩ :: rest) f w := by
  obtain ⟨b, o, s⟩ := a
  obtain ⟨h1, h2⟩ := hc
  simp only at h1 h2; subst h1
  exact S_loadAgg hA hz hl hx h2 hn K

/-! ### Boxes -/
theorem Z_alloc (hs : Sep B0 w0 Z w L) (hz : ∀ w, (zeroValue T).run P w = .ok zv w) (hn : Nat.blt d n = true) (K : ∀ b w', Sep B0 w0 Z w' (iOwn b T zv.cells.toList [] :: L) → WL P false n ops Q rest (upd f d (.pointer (some ⟨b, 0, none⟩))) w') :
    WL P false n ops Q (⟨some d, .alloc T, ty, pos, after, none⟩ :: rest) f w :=
  S_alloc hz hn fun b w' e h1 h2 ho => K b w' (hs.add e ho sOwn (fun x hx => by simp at hx; subst hx; omega) rfl)
theorem Z_box (hs : Sep B0 w0 Z w L) (hn : Nat.blt d n = true) (K : ∀ b w', Sep B0 w0 Z w' (iOwn b T (ev f x).cells.toList [] :: L) → WL P false n ops Q rest (upd f d (.pointer (some ⟨b, 0, none⟩))) w') :
    WL P false n ops Q (⟨some d, .box T x, ty, pos, after, none⟩ :: rest) f w :=
  S_box hn fun b w' e h1 h2 ho => K b w' (hs.add e ho sOwn (fun x hx => by simp at hx; subst hx; omega) rfl)
theorem Z_store {o mm : Nat} {cs c : List Value} (hs : Sep B0 w0 Z w L) (j : Nat) (hj : L[j]? = some (iOwn b E cs O)) (hz : ∀ w, (sizeOf T).run P w = .ok mm w) (hx : ev f x = .pointer (some ⟨b, o, none⟩)) (hc : (ev f y).cells.toList = c) (hm : c.length = mm) (hl : o + mm ≤ cs.length) (hp : c.all plain1 = true)
    (K : ∀ w', Sep B0 w0 Z w' (L.set j (iOwn b E (splice cs o c) O)) → WL P false n ops Q rest f w') :
    WL P false n ops Q (⟨none, .store T x y, ty, pos, after, none⟩ :: rest) f w :=
  S_store hz hx hc hm (hs.at j hj) hl hp fun w' e h1 ho => K w' (hs.upd j hj e ho sOwn (fun x hx => ⟨.inl hx, by have := hs.lt j hj x hx; have := e.size; omega⟩) rfl)

/-! ### Slices of the call's own -/
theorem Z_append {xs al : List α} {info : TypeInfo} (hs : Sep B0 w0 Z w L) (j : Nat) (hj : L[j]? = some (iAc r (ev f x) al bs O)) (hx : Src r Z w (ev f y) xs)
    (hT : ∀ w, (underlying T).run P w = .ok (.slice E) w) (hI : ∀ w, (typeInfo E).run P w = .ok info w) (hE : ∀ w, (sizeOf E).run P w = .ok r.sz w) (hz : ∀ w, (zeroValue E).run P w = .ok zv w) (hzs : zv.cells.size = r.sz)
    (hb : (al.length + xs.length) * info.bytes ≤ 140737488355328) (hb1 : 1 ≤ info.bytes) (hn : Nat.blt d n = true)
    (K : ∀ A cap bs' w', Sep B0 w0 Z w' (L.set j (iAc r (.slice A (al ++ xs).length cap) (al ++ xs) bs' O)) → WL P false n ops Q rest (upd f d (.slice A (al ++ xs).length cap)) w') :
    WL P false n ops Q (⟨some d, .call ⟨.builtin .append, #[x, y], #[T, T]⟩, T, pos, after, none⟩ :: rest) f w :=
  WL_valW rfl rfl hn fun w1 hw => by
    obtain ⟨v', w2, w', hr, hs', bs', h1, h2, h3⟩ := append_run hT hI hE hz hzs (hs.at j hj) hx (hs.nz j hj) hb hb1 w1 hw
    obtain ⟨A, cap, rfl⟩ := h1.val
    refine ⟨_, w2, w', ?_, hs', K A cap bs' w' (hs.upd j hj h2 h1 sAc (fun b hb => ⟨h3 b hb, h1.lt b hb⟩) rfl)⟩
    simp only [execOp, resolve, invoke, builtin, Sem.run_bind, Sem.run_pure, Result.andThen_ok]
    have : (#[x, y] : Array Operand).map (ev f) = #[ev f x, ev f y] := by simp
    rw [this, hr]; rfl
theorem Z_buildSlice {len : Nat} {ps : Array (Nat × Operand)} {vs : List (Nat × Value)} {css : List (List Value)} {al : List α} (hs : Sep B0 w0 Z w L) (hT : ∀ w, (underlying T).run P w = .ok (.slice E) w) (hE : ∀ w, (sizeOf E).run P w = .ok sz w) (hz : ∀ w, (zeroValue E).run P w = .ok zv w)
    (hv : ps.toList.map (fun p => (p.1, ev f p.2)) = vs) (hlen : vs.length = len) (hord : inOrder 0 vs = true) (hsz : vs.all (fun p => Nat.beq p.2.cells.size sz) = true) (hcs : (vs.flatMap fun p => p.2.cells.toList) = css.flatten) (hsmall : Nat.ble (len * sz) 16777216 = true) (hal : al.length = len) (hr : AllRd r Z w css al) (hn : Nat.blt d n = true)
    (K : ∀ b w', Sep B0 w0 Z w' (iAc r (.slice (some ⟨b, 0, none⟩) len len) al [b] [] :: L) → WL P false n ops Q rest (upd f d (.slice (some ⟨b, 0, none⟩) len len)) w') :
    WL P false n ops Q (⟨some d, .buildSlice T len ps, ty, pos, after, none⟩ :: rest) f w :=
  S_buildSlice hT hE hz hv hlen hord hsz hcs hsmall hn fun b w' e h1 h2 ho => by
    have all : ∀ {cs : List (List Value)} {xs : List α}, AllRd r Z w cs xs → AllRd r Z w' cs xs := by
      intro cs
      induction cs with
      | nil => intro xs h; cases xs <;> exact h
      | cons c cs ih => intro xs h; cases xs with
        | nil => exact h
        | cons x xs => exact ⟨r.ext h.1 e, ih h.2⟩
    have ha := Ac.lit ho rfl (all hr)
    rw [hal] at ha
    exact K b w' (hs.add e ha sAc (fun x hx => by simp at hx; subst hx; omega) rfl)
theorem flat_rep {c : List Value} {k sz : Nat} (h : c.length = sz) (hp : 0 < sz) : (List.replicate k c).flatten = (List.range (k * sz)).map (fun i => c.getD (i % sz) default) := by
  apply List.ext_getElem?
  intro i
  have hsz : ∀ x ∈ List.replicate k c, x.length = sz := fun x hx => by rw [List.eq_of_mem_replicate hx]; exact h
  by_cases hi : i < k * sz
  · have e := flat_get hsz (i / sz) (i % sz) (Nat.mod_lt _ hp)
    rw [Nat.mul_comm (i / sz), Nat.div_add_mod] at e
    have hq : i / sz < k := Nat.div_lt_of_lt_mul (by rw [Nat.mul_comm]; exact hi)
    have hm : i % sz < c.length := by rw [h]; exact Nat.mod_lt _ hp
    rw [e, List.getElem?_replicate, if_pos hq, Option.bind_some, List.getElem?_map, List.getElem?_range hi]
    simp [List.getD_eq_getElem?_getD, hm]
  · rw [List.getElem?_eq_none (by rw [flat_len hsz, List.length_replicate]; omega), List.getElem?_eq_none (by simp; omega)]
theorem Z_makeSlice {a : Int} {info : TypeInfo} {zc : List Value} {zx : α} (hs : Sep B0 w0 Z w L) (hT : ∀ w, (underlying T).run P w = .ok (.slice E) w) (hI : ∀ w, (typeInfo E).run P w = .ok info w) (hE : ∀ w, (sizeOf E).run P w = .ok sz w) (hz : ∀ w, (zeroValue E).run P w = .ok zv w)
    (hzc : zv.cells = zc.toArray) (hsz : r.sz = sz) (hpos : 0 < sz) (hzr : ∀ Z w, r.rd Z w zc zx)
    (hx : ev f x = .int .i64 a) (hy : ev f y = .int .i64 a) (h0 : 0 ≤ a) (h1 : info.bytes * a ≤ 140737488355328) (h2 : a ≤ 9223372036854775807) (hn : Nat.blt d n = true)
    (K : ∀ b w', Sep B0 w0 Z w' (iAc r (.slice (some ⟨b, 0, none⟩) a.toNat a.toNat) (List.replicate a.toNat zx) [b] [] :: L) → WL P false n ops Q rest (upd f d (.slice (some ⟨b, 0, none⟩) a.toNat a.toNat)) w') :
    WL P false n ops Q (⟨some d, .makeSlice T x y, ty, pos, after, none⟩ :: rest) f w := by
  have hzl : zc.length = sz := by have := r.len (hzr Z w); omega
  refine S_new (mk := fun b => .slice (some ⟨b, 0, none⟩) a.toNat a.toNat) (e := E) (cs := (List.replicate a.toNat zc).flatten.toArray) rfl rfl hn (fun w1 => ?_) (fun b w' e h1 h2 ho => ?_)
  · have hw : IntKind.i64.wrap a = a := wrap64_id ⟨by omega, h2⟩
    have hpow : (2 : Int) ^ 48 = 281474976710656 := by decide
    have hroom : ∀ m (w : World), (askRoom m).run P w = .ok () w := fun m w => by unfold askRoom; split <;> simp [mark, Sem.run, pure]
    simp only [execOp, Instr.makeSlice, hx, hy, asInt, asIntOf, Sem.run_bind, Sem.run_pure, hT, hI, Result.andThen_ok, hw]
    rw [if_neg (by rw [hpow]; simp; omega)]
    simp only [Sem.run_bind, hroom, Result.andThen_ok, hE]
    by_cases hz0 : a.toNat = 0
    · simp only [hz0, Nat.zero_mul, if_true, Sem.run_bind, Sem.run_pure, Result.andThen_ok, newRow, newObj, Sem.run]
      have : ((Array.range 0).map fun x => (#[] : Array Value)[x % (#[] : Array Value).size]!) = (List.replicate 0 zc).flatten.toArray := by simp
      rw [this]
    · have hne : ¬ a.toNat * sz = 0 := by
        intro h; rcases Nat.mul_eq_zero.1 h with h | h <;> omega
      simp only [hne, if_false, Sem.run_bind, Sem.run_pure, hz, Result.andThen_ok, newRow, newObj, Sem.run]
      have : (Array.range (a.toNat * sz)).map (fun i => zv.cells[i % zv.cells.size]!) = (List.replicate a.toNat zc).flatten.toArray := by
        rw [hzc, flat_rep hzl hpos]
        apply Array.ext'
        simp only [Array.toList_map, Array.toList_range, List.size_toArray, hzl]
        apply List.map_congr_left
        intro i _
        simp [List.getD_eq_getElem?_getD]
      rw [this]
  · have ho' : Own w' b E (List.replicate a.toNat zc).flatten := by simpa using ho
    have ha := Ac.lit ho' rfl (AllRd.rep (hzr Z w') a.toNat)
    rw [List.length_replicate] at ha
    exact K b w' (hs.add e ha sAc (fun x hx => by simp at hx; subst hx; omega) rfl)
/-- An element, or a part of it, is stored. -/
theorem Ac.put {o : Nat} {al : List α} {c : List Value} {e : α} {w1 : World} (h : Ac r Z w (.slice A nn cap) al bs) (hi : 0 ≤ i ∧ i < nn) (hcs : ∀ c0, r.rd Z w c0 (al.getD i.toNat e) → c0.length = r.sz → o + c.length ≤ r.sz ∧ r.rd Z w (splice c0 o c) e) (hp : c.all plain1 = true) (hnz : ∀ b ∈ bs, ¬ Z b) :
    ∃ b T C, A = some ⟨b, 0, none⟩ ∧ bs = [b] ∧ Own w b T C ∧ i.toNat * r.sz + o + c.length ≤ C.length ∧ ∀ w', Ext [b] w w' → Own w' b T (splice C (i.toNat * r.sz + o) c) → Ac r Z w' (.slice A nn cap) (al.set i.toNat e) bs := by
  rcases h with ⟨h1, rfl, rfl⟩ | ⟨b, cap', C, T, hv, rfl, ho, hC, hle, hc⟩
  · simp at h1; omega
  · simp at hv
    obtain ⟨rfl, rfl, rfl⟩ := hv
    have hil : i.toNat < al.length := by omega
    obtain ⟨c0, g1, g2, g3⟩ := hc i.toNat hil
    obtain ⟨k1, k2⟩ := hcs c0 (by rw [List.getD_eq_getElem?_getD, List.getElem?_eq_getElem hil]; exact g3) g1
    have hroom : i.toNat * r.sz + o + c.length ≤ C.length := by
      have : (i.toNat + 1) * r.sz ≤ cap * r.sz := Nat.mul_le_mul_right _ (by omega)
      rw [Nat.add_mul] at this; omega
    refine ⟨b, T, C, rfl, rfl, ho, hroom, fun w' e' ho' => .inr ⟨b, cap, _, T, by simp, rfl, ho', by rw [splice_length, hC], by simpa using hle, fun j hj => ?_⟩⟩
    have hget := fun q => splice_get c C (i.toNat * r.sz + o) q hroom
    by_cases hji : j = i.toNat
    · subst hji
      refine ⟨splice c0 o c, by rw [splice_length, g1], fun q hq => ?_, ?_⟩
      · rw [hget, splice_get c c0 o q (by omega)]
        by_cases h1 : o ≤ q ∧ q < o + c.length
        · rw [if_pos (by omega), if_pos h1]; congr 1; omega
        · rw [if_neg (by omega), if_neg h1]; exact g2 q hq
      · rw [List.getElem_set_self]; exact r.mono k2 e' (fun x hx hz => absurd hz (hnz x hx)) (fun x hx _ => hx)
    · have hj' : j < al.length := by simpa using hj
      obtain ⟨c1, f1, f2, f3⟩ := hc j hj'
      refine ⟨c1, f1, fun q hq => ?_, ?_⟩
      · rw [hget, if_neg]
        · exact f2 q hq
        · rintro ⟨a1, a2⟩
          rcases Nat.lt_or_gt_of_ne hji with h | h
          · have : (j + 1) * r.sz ≤ i.toNat * r.sz := Nat.mul_le_mul_right _ h
            rw [Nat.add_mul] at this; omega
          · have : (i.toNat + 1) * r.sz ≤ j * r.sz := Nat.mul_le_mul_right _ h
            rw [Nat.add_mul] at this; omega
      · rw [List.getElem_set_ne (Ne.symm hji)]; exact r.mono f3 e' (fun x hx hz => absurd hz (hnz x hx)) (fun x hx _ => hx)
theorem Z_storeEl {o mm : Nat} {al : List α} {c : List Value} {e : α} (hs : Sep B0 w0 Z w L) (j : Nat) (hj : L[j]? = some (iAc r (.slice A nn cap) al bs O)) (hz : ∀ w, (sizeOf T).run P w = .ok mm w) (hx : ev f x = .pointer (some (eA A q))) (hsz : r.sz = sz) (hq : q = i.toNat * sz + o)
    (hc : (ev f y).cells.toList = c) (hm : c.length = mm) (h0 : 0 ≤ i) (h1 : i < nn) (hcs : ∀ c0, r.rd Z w c0 (al.getD i.toNat e) → c0.length = r.sz → o + c.length ≤ r.sz ∧ r.rd Z w (splice c0 o c) e) (hp : c.all plain1 = true)
    (K : ∀ w', Sep B0 w0 Z w' (L.set j (iAc r (.slice A nn cap) (al.set i.toNat e) bs O)) → WL P false n ops Q rest f w') :
    WL P false n ops Q (⟨none, .store T x y, ty, pos, after, none⟩ :: rest) f w := by
  subst hsz; subst hq
  obtain ⟨b, T1, C, rfl, rfl, ho, hroom, hk⟩ := Ac.put (w1 := w) (hs.at j hj) ⟨h0, h1⟩ hcs hp (hs.nz j hj)
  refine S_store hz (o := i.toNat * r.sz + o) (by rw [hx]; simp [eA]) hc hm ho (by omega) hp fun w' e' _ ho' => K w' (hs.upd j hj e' (hk w' e' ho') sAc (fun x hx => ⟨.inl hx, by have := hs.lt j hj x hx; have := e'.size; omega⟩) rfl)

/-! ### Calls -/
theorem S_call1 {X : Type} {val : X → Value} {R : X → World → Prop} {Kf : FuncId} {xs : Array Operand} {Ts : Array TypeId} {args : List Value} (hK : ∀ ars w, (callFunc Kf ars).run P w = .ok (.enter Kf ars) w) (ha : xs.toList.map (ev f) = args)
    (hc : CallR P Kf args w (fun v w' => ∃ x, v = val x ∧ R x w')) (hn : Nat.blt d n = true) (K : ∀ x w', R x w' → WL P false n ops Q rest (upd f d (val x)) w') : WL P false n ops Q (⟨some d, .call ⟨.value (.func Kf), xs, Ts⟩, ty, pos, after, none⟩ :: rest) f w :=
  S_call hK ha hc hn (fun _ _ ⟨x, h1, h2⟩ => by rw [h1]; exact K x _ h2)
theorem S_call2 {X Y : Type} {val : X → Y → Value} {R : X → Y → World → Prop} {Kf : FuncId} {xs : Array Operand} {Ts : Array TypeId} {args : List Value} (hK : ∀ ars w, (callFunc Kf ars).run P w = .ok (.enter Kf ars) w) (ha : xs.toList.map (ev f) = args)
    (hc : CallR P Kf args w (fun v w' => ∃ x y, v = val x y ∧ R x y w')) (hn : Nat.blt d n = true) (K : ∀ x y w', R x y w' → WL P false n ops Q rest (upd f d (val x y)) w') : WL P false n ops Q (⟨some d, .call ⟨.value (.func Kf), xs, Ts⟩, ty, pos, after, none⟩ :: rest) f w :=
  S_call hK ha hc hn (fun _ _ ⟨x, y, h1, h2⟩ => by rw [h1]; exact K x y _ h2)
theorem S_call3 {X Y U : Type} {val : X → Y → U → Value} {R : X → Y → U → World → Prop} {Kf : FuncId} {xs : Array Operand} {Ts : Array TypeId} {args : List Value} (hK : ∀ ars w, (callFunc Kf ars).run P w = .ok (.enter Kf ars) w) (ha : xs.toList.map (ev f) = args)
    (hc : CallR P Kf args w (fun v w' => ∃ x y u, v = val x y u ∧ R x y u w')) (hn : Nat.blt d n = true) (K : ∀ x y u w', R x y u w' → WL P false n ops Q rest (upd f d (val x y u)) w') : WL P false n ops Q (⟨some d, .call ⟨.value (.func Kf), xs, Ts⟩, ty, pos, after, none⟩ :: rest) f w :=
  S_call hK ha hc hn (fun _ _ ⟨x, y, u, h1, h2⟩ => by rw [h1]; exact K x y u _ h2)
theorem S_call4 {X Y U V : Type} {val : X → Y → U → V → Value} {R : X → Y → U → V → World → Prop} {Kf : FuncId} {xs : Array Operand} {Ts : Array TypeId} {args : List Value} (hK : ∀ ars w, (callFunc Kf ars).run P w = .ok (.enter Kf ars) w) (ha : xs.toList.map (ev f) = args)
    (hc : CallR P Kf args w (fun v w' => ∃ x y u t, v = val x y u t ∧ R x y u t w')) (hn : Nat.blt d n = true) (K : ∀ x y u t w', R x y u t w' → WL P false n ops Q rest (upd f d (val x y u t)) w') : WL P false n ops Q (⟨some d, .call ⟨.value (.func Kf), xs, Ts⟩, ty, pos, after, none⟩ :: rest) f w :=
  S_call hK ha hc hn (fun _ _ ⟨x, y, u, t, h1, h2⟩ => by rw [h1]; exact K x y u t _ h2)

/-! ### Pointers, errors -/
theorem S_nilCheck {a : Addr} (hx : ev f x = .pointer (some a)) (hn : Nat.blt d n = true) (K : WL P m n ops Q rest (upd f d (.pointer (some a))) w) : WL P m n ops Q (⟨some d, .nilCheck x, ty, pos, after, none⟩ :: rest) f w :=
  WL_val rfl rfl hn (v := .pointer (some a)) (fun _ _ => by simp [execOp, hx, go_sem]) K
theorem eqP_nil1 {e : TypeId} (hT : ∀ w, (underlying T).run P w = .ok (.pointer e) w) {a : Addr} (w : World) : (Op.equal T (.pointer (some a)) (.pointer none)).run P w = .ok false w := by
  have h : ∀ d, (Op.equalIn (d + 1) T (.pointer (some a)) (.pointer none)).run P w = .ok false w := fun d => by
    unfold Op.equalIn; rw [Sem.run_bind, hT, Result.andThen_ok]; rfl
  exact h 9999
theorem eqP_nil0 {e : TypeId} (hT : ∀ w, (underlying T).run P w = .ok (.pointer e) w) (w : World) : (Op.equal T (.pointer none) (.pointer none)).run P w = .ok true w := by
  have h : ∀ d, (Op.equalIn (d + 1) T (.pointer none) (.pointer none)).run P w = .ok true w := fun d => by
    unfold Op.equalIn; rw [Sem.run_bind, hT, Result.andThen_ok]; rfl
  exact h 9999
theorem S_eqlP {e : TypeId} {a : Addr} (hT : ∀ w, (underlying T).run P w = .ok (.pointer e) w) (hx : ev f x = .pointer (some a)) (hn : Nat.blt d n = true) (K : WL P m n ops Q rest (upd f d (.bool false)) w) :
    WL P m n ops Q (⟨some d, .binOp .eql T x (.const (.pointer none)) T', ty, pos, after, none⟩ :: rest) f w :=
  WL_val rfl rfl hn (v := .bool false) (fun w1 _ => by
    have hy : ev f (.const (.pointer none)) = Value.pointer none := rfl
    simp [execOp, hx, hy, eqGuard, binOp, go_sem, eqP_nil1 hT]) K
theorem S_eqlP0 {e : TypeId} (hT : ∀ w, (underlying T).run P w = .ok (.pointer e) w) (hx : ev f x = .pointer none) (hn : Nat.blt d n = true) (K : WL P m n ops Q rest (upd f d (.bool true)) w) :
    WL P m n ops Q (⟨some d, .binOp .eql T x (.const (.pointer none)) T', ty, pos, after, none⟩ :: rest) f w :=
  WL_val rfl rfl hn (v := .bool true) (fun w1 _ => by
    have hy : ev f (.const (.pointer none)) = Value.pointer none := rfl
    simp [execOp, hx, hy, eqGuard, binOp, go_sem, eqP_nil0 hT]) K
theorem S_neqP {e : TypeId} {a : Addr} (hT : ∀ w, (underlying T).run P w = .ok (.pointer e) w) (hx : ev f x = .pointer (some a)) (hn : Nat.blt d n = true) (K : WL P m n ops Q rest (upd f d (.bool true)) w) :
    WL P m n ops Q (⟨some d, .binOp .neq T x (.const (.pointer none)) T', ty, pos, after, none⟩ :: rest) f w :=
  WL_val rfl rfl hn (v := .bool true) (fun w1 _ => by
    have hy : ev f (.const (.pointer none)) = Value.pointer none := rfl
    simp [execOp, hx, hy, eqGuard, binOp, go_sem, eqP_nil1 hT]) K
theorem S_neqP0 {e : TypeId} (hT : ∀ w, (underlying T).run P w = .ok (.pointer e) w) (hx : ev f x = .pointer none) (hn : Nat.blt d n = true) (K : WL P m n ops Q rest (upd f d (.bool false)) w) :
    WL P m n ops Q (⟨some d, .binOp .neq T x (.const (.pointer none)) T', ty, pos, after, none⟩ :: rest) f w :=
  WL_val rfl rfl hn (v := .bool false) (fun w1 _ => by
    have hy : ev f (.const (.pointer none)) = Value.pointer none := rfl
    simp [execOp, hx, hy, eqGuard, binOp, go_sem, eqP_nil0 hT]) K
/-- A slice compared with nil. -/
theorem eqL_nil1 {e : TypeId} {a : Addr} (hT : ∀ w, (underlying T).run P w = .ok (.slice e) w) (w : World) : (Op.equal T (.slice (some a) nn cap) (.slice none 0 0)).run P w = .ok false w := by
  have h : ∀ d, (Op.equalIn (d + 1) T (.slice (some a) nn cap) (.slice none 0 0)).run P w = .ok false w := fun d => by
    unfold Op.equalIn; rw [Sem.run_bind, hT, Result.andThen_ok]; rfl
  exact h 9999
theorem eqL_nil0 {e : TypeId} (hT : ∀ w, (underlying T).run P w = .ok (.slice e) w) (w : World) : (Op.equal T (.slice none nn cap) (.slice none 0 0)).run P w = .ok true w := by
  have h : ∀ d, (Op.equalIn (d + 1) T (.slice none nn cap) (.slice none 0 0)).run P w = .ok true w := fun d => by
    unfold Op.equalIn; rw [Sem.run_bind, hT, Result.andThen_ok]; rfl
  exact h 9999
theorem S_eqlL {e : TypeId} (hT : ∀ w, (underlying T).run P w = .ok (.slice e) w) (hx : ev f x = .slice A nn cap) (hn : Nat.blt d n = true) (K : WL P m n ops Q rest (upd f d (.bool A.isNone)) w) :
    WL P m n ops Q (⟨some d, .binOp .eql T x (.const (.slice none 0 0)) T', ty, pos, after, none⟩ :: rest) f w :=
  WL_val rfl rfl hn (v := .bool A.isNone) (fun w1 _ => by
    have hy : ev f (.const (.slice none 0 0)) = Value.slice none 0 0 := rfl
    cases A with
    | none => simp [execOp, hx, hy, eqGuard, binOp, go_sem, eqL_nil0 hT]
    | some a => simp [execOp, hx, hy, eqGuard, binOp, go_sem, eqL_nil1 hT]) K
/-- An error by its number; 0: none. -/
noncomputable def errv (T : TypeId) (e : Int) : Value := @ite Value (e = 0) (Classical.propDecidable _) .nilIface (.iface T (.int .i64 e))
theorem errv_0 {T : TypeId} : Value.nilIface = errv T 0 := by rw [errv, if_pos rfl]
theorem S_neqE {ms : Array (String × TypeId)} {Te : TypeId} {e : Int} (hT : ∀ w, (underlying T).run P w = .ok (.interface ms) w) (hx : ev f x = errv Te e) (hn : Nat.blt d n = true) (K : WL P m n ops Q rest (upd f d (.bool (decide (e ≠ 0)))) w) :
    WL P m n ops Q (⟨some d, .binOp .neq T x (.const .nilIface) T', ty, pos, after, none⟩ :: rest) f w := by
  by_cases h : e = 0
  · subst h
    rw [decide_eq_false (by simp)] at K
    exact S_neqN0 hT (hx.trans errv_0.symm) hn K
  · have hx' : ev f x = .iface Te (.int .i64 e) := by rw [hx, errv, if_neg h]
    refine S_neqN hT hx' hn ?_
    rw [decide_eq_true h] at K; exact K
theorem S_eqlE {ms : Array (String × TypeId)} {Te : TypeId} {e : Int} (hT : ∀ w, (underlying T).run P w = .ok (.interface ms) w) (hx : ev f x = errv Te e) (hn : Nat.blt d n = true) (K : WL P m n ops Q rest (upd f d (.bool (decide (e = 0)))) w) :
    WL P m n ops Q (⟨some d, .binOp .eql T x (.const .nilIface) T', ty, pos, after, none⟩ :: rest) f w := by
  by_cases h : e = 0
  · subst h
    rw [decide_eq_true rfl] at K
    exact S_eqlN0 hT (hx.trans errv_0.symm) hn K
  · have hx' : ev f x = .iface Te (.int .i64 e) := by rw [hx, errv, if_neg h]
    refine S_eqlN hT hx' hn ?_
    rw [decide_eq_false h] at K; exact K
theorem errv_ne {T : TypeId} {e : Int} (h : e ≠ 0) : Value.iface T (.int .i64 e) = errv T e := by rw [errv, if_neg h]
end
end Go.Wl
end
section
namespace Go.Wl
open Go Go.Wk

def setD (D : Nat → Bool) (i : Nat) : Nat → Bool := fun j => bif Nat.beq j i then true else D j
def setV (V : Nat → Value) (i : Nat) (v : Value) : Nat → Value := fun j => bif Nat.beq j i then v else V j
theorem setD_self {D : Nat → Bool} {i : Nat} : setD D i i = true := by unfold setD; rw [Nat.beq_refl]; rfl
theorem setD_ne {D : Nat → Bool} {i j : Nat} (h : j ≠ i) : setD D i j = D j := by unfold setD; rw [beq_ne h]; rfl
theorem setV_self {V : Nat → Value} {i : Nat} {v : Value} : setV V i v i = v := by unfold setV; rw [Nat.beq_refl]; rfl
theorem setV_ne {V : Nat → Value} {i j : Nat} {v : Value} (h : j ≠ i) : setV V i v j = V j := by unfold setV; rw [beq_ne h]; rfl
abbrev JP := (Nat → Bool) → (Nat → Value) → World → Prop
section
variable {P : Program} {n : Nat} {l : List Oper} {Q : Exit → Fr → World → Prop} {f0 : Fr}
/-- What is shown of one operation. -/
def OneJ (P : Program) (n : Nat) (l : List Oper) (ms : List Nat) (J : JP) (f0 : Fr) (i : Nat) (o : Oper) : Prop :=
  ∀ D V g w, J D V w → D i = false → (∀ j, (ms.getD i 0).testBit j = true → D j = true) → (∀ j, (ms.getD j 0).testBit i = true → D j = false) → (∀ j t, D j = true → dstAt l j = some t → g t = V j) → (∀ t, keptOk ms i t l 0 = true → g t = f0 t) →
    WL P false n l (fun e g' w' => e = .normal ∧ ∃ v, g' = putF g o.dst v ∧ J (setD D i) (setV V i v) w') [o] g w
inductive StepsJ (P : Program) (n : Nat) (l : List Oper) (ms : List Nat) (J : JP) (f0 : Fr) : Nat → List Oper → Prop
  | nil {i : Nat} : StepsJ P n l ms J f0 i []
  | cons {i : Nat} {o : Oper} {r : List Oper} : OneJ P n l ms J f0 i o → StepsJ P n l ms J f0 (i + 1) r → StepsJ P n l ms J f0 i (o :: r)
theorem StepsJ.get {ms : List Nat} {J : JP} {k : Nat} {r : List Oper} (h : StepsJ P n l ms J f0 k r) : ∀ x o, r[x]? = some o → OneJ P n l ms J f0 (k + x) o := by
  induction h with
  | nil => intro x o h; simp at h
  | @cons i o r h _ ih => intro x o' ho; cases x with
    | zero => simp at ho; subst ho; exact h
    | succ x =>
      have := ih x o' (by simpa using ho)
      rwa [show i + 1 + x = i + (x + 1) by omega] at this
structure InvJ (l : List Oper) (J : JP) (f0 : Fr) (L : Array Bool) (V : Nat → Value) (g : Fr) (w : World) : Prop where
  size : L.size = l.length
  inv : J (fun j => L.getD j false) V w
  done : ∀ j t, L[j]? = some true → dstAt l j = some t → g t = V j
  kept : ∀ t, (∀ j, L[j]? = some true → dstAt l j ≠ some t) → g t = f0 t
  closed : ∀ (j : Nat) (o : Oper), L[j]? = some true → l[j]? = some o → ∀ e ∈ o.after, Region.binds .any e = true → L[e.on]? = some true
theorem InvJ.old {J : JP} {L : Array Bool} {V : Nat → Value} {g : Fr} {w : World} (h : InvJ l J f0 L V g w) : Inv l (fun _ => True) (fun _ _ _ => True) f0 L g w :=
  ⟨h.size, trivial, fun _ _ _ _ => trivial, h.kept, h.closed⟩
theorem getD_true {L : Array Bool} {j : Nat} (h : L.getD j false = true) : L[j]? = some true := by
  rw [Array.getD_eq_getD_getElem?] at h
  cases hL : L[j]? with
  | none => rw [hL] at h; cases h
  | some b => rw [hL] at h; simp at h; rw [h]
theorem W_region_J {id : Nat} {w : World} (J : JP) (S : List Nat) (hm : P.follows .mixedOrders = true) (ha : (afterOk l && dstsU l [] && dstIn S n l) = true)
    (ms : List Nat) (hms : masks l = ms) (h0 : ∀ V, J (fun _ => false) V w) (step : StepsJ P n l ms J f0 0 l)
    (fin : ∀ D V g w', (∀ j, Nat.blt j l.length = true → D j = true) → J D V w' → (∀ j t, Nat.blt j l.length = true → dstAt l j = some t → g t = V j) → (∀ t, S.elem t = false → g t = f0 t) → ∃ L, Live g L ∧ ∀ g', Q .normal (updAll g' L) w') :
    W P n (.region id l.toArray true) Q f0 w := by
  subst hms
  rw [Bool.and_eq_true, Bool.and_eq_true] at ha
  obtain ⟨⟨ha, hu⟩, hin⟩ := ha
  obtain ⟨_, huniq⟩ := dstsU_all hu
  have hlt := dstIn_all hin
  have main : ∀ (fuel : Nat) (L : Array Bool) (a : Act) (V : Nat → Value) (g : Fr) (w' w1 : World), count L = fuel → Is a g n → Sim w' w1 → InvJ l J f0 L V g w' → wpAny P .any l.toArray (lift n Q) fuel L a w1 := by
    have finish : ∀ (L : Array Bool) (a : Act) (V : Nat → Value) (g : Fr) (w' w1 : World), Is a g n → Sim w' w1 → InvJ l J f0 L V g w' → (∀ i, i < l.length → L[i]? = some true) → lift n Q .normal a w1 := by
      intro L a V g w' w1 hg hs hinv hall
      have ⟨L', h1, h2⟩ := fin _ V g w' (fun j hj => by rw [Array.getD_eq_getD_getElem?, hall j (blt_lt hj)]; rfl) hinv.inv (fun j t hj hjt => hinv.done j t (hall j (blt_lt hj)) hjt) (fun t ht => hinv.kept t fun j _ hj => by have := (hlt j t hj).1; rw [this] at ht; cases ht)
      have h3 := h2 g
      rw [h1.eq] at h3
      exact ⟨g, w', hg, hs, h3⟩
    intro fuel
    induction fuel with
    | zero =>
      intro L a V g w' w1 hc hg hs hinv
      have hall : ∀ i, i < l.length → L[i]? = some true := by
        intro i hi
        cases hL : L[i]? with
        | none => rw [Array.getElem?_eq_none_iff, hinv.size] at hL; omega
        | some b => cases b with
          | true => rfl
          | false => have := count_set hL; omega
      refine ⟨?_, finish L a V g w' w1 hg hs hinv hall⟩
      cases hr : Region.ready .any l.toArray L with
      | nil => rfl
      | cons i r =>
        have hm : i ∈ Region.ready .any l.toArray L := by rw [hr]; simp
        obtain ⟨o, ho, h1, _⟩ := ready_iff.1 hm
        have hlt : i < l.length := by
          rcases Nat.lt_or_ge i l.length with h | h
          · exact h
          · rw [List.getElem?_eq_none h] at ho; cases ho
        simp [hall i hlt] at h1
    | succ fuel ih =>
      intro L a V g w' w1 hc hg hs hinv
      refine ⟨fun hr => finish L a V g w' w1 hg hs hinv (all_listed ha hinv.size hr), fun i hi => ?_⟩
      obtain ⟨o, ho, h1, h2⟩ := ready_iff.1 hi
      have hil : i < l.length := by
        rcases Nat.lt_or_ge i l.length with h | h
        · exact h
        · rw [List.getElem?_eq_none h] at ho; cases ho
      have hiL : i < L.size := by rw [hinv.size]; exact hil
      have hLi : L[i]? = some false := by
        simp [hiL] at h1 ⊢
        exact h1
      have hdeps : ∀ e ∈ o.after, Region.binds .any e = true → L[e.on]? = some true := fun e he hb => by
        have := h2 e he hb
        cases hx : L[e.on]? with
        | none => simp [hx] at this
        | some b => simp [hx] at this; rw [this]
      have hone := step.get i o ho
      rw [Nat.zero_add] at hone
      have hone := hone (fun j => L.getD j false) V g w' hinv.inv (by rw [Array.getD_eq_getD_getElem?, hLi]; rfl)
        (fun j hb => by
          have := (masks_dep i j hb).listed hinv.old fun o' ho' => by rw [ho] at ho'; cases ho'; exact hdeps
          rw [Array.getD_eq_getD_getElem?, this]; rfl)
        (fun j hb => by
          cases hx : L.getD j false with
          | false => rfl
          | true =>
            exfalso
            have hj := getD_true hx
            have := (masks_dep j i hb).listed hinv.old fun o' ho' e he hbe => hinv.closed j o' hj ho' e he hbe
            rw [hLi] at this; cases this)
        (fun j t hj hjt => hinv.done j t (getD_true hj) hjt)
        (fun t hk => hinv.kept t fun j hj hjt => by
          rcases keptOk_spec (l := l) (k := 0) (by simp) hk j (Nat.zero_le _) hjt with e | hb
          · subst e; rw [hLi] at hj; cases hj
          · have := (masks_dep j i hb).listed hinv.old fun o' ho' e he hbe => hinv.closed j o' hj ho' e he hbe
            rw [hLi] at this; cases this)
      refine wpOp_WL ho hg hs (S := fun g' w2 => ∃ v, g' = putF g o.dst v ∧ J (setD (fun j => L.getD j false) i) (setV V i v) w2) hone ?_
      rintro g' w2 a' w3 ⟨v, rfl, hv⟩ hg' hs'
      have hdo : dstAt l i = o.dst := dstAt_some ho
      have hget : ∀ j, (L.setIfInBounds i true)[j]? = some true → j = i ∨ L[j]? = some true := by
        intro j hj
        by_cases hji : j = i
        · exact .inl hji
        · rw [Array.getElem?_setIfInBounds_ne (Ne.symm hji)] at hj; exact .inr hj
      have hgo : ∀ t, o.dst ≠ some t → putF g o.dst v t = g t := by
        intro t ht
        unfold putF
        cases hdd : o.dst with
        | none => rfl
        | some u => simp only; rw [upd_eq, if_neg (fun e => ht (by rw [hdd, e]))]
      have hDD : setD (fun j => L.getD j false) i = fun j => (L.setIfInBounds i true).getD j false := by
        funext j
        by_cases hji : j = i
        · subst hji; rw [setD_self, Array.getD_eq_getD_getElem?, Array.getElem?_setIfInBounds_self_of_lt hiL]; rfl
        · rw [setD_ne hji, Array.getD_eq_getD_getElem?, Array.getD_eq_getD_getElem?, Array.getElem?_setIfInBounds_ne (Ne.symm hji)]
      rw [hDD] at hv
      refine ih _ a' (setV V i v) (putF g o.dst v) w2 w3 (by have := count_set hLi; omega) hg' hs' ⟨by simp [hinv.size], hv, fun j t hj hjt => ?_, fun t ht => ?_, fun j p hj hp e he hb => ?_⟩
      · rcases hget j hj with e | hj'
        · rw [e] at hjt ⊢
          rw [setV_self]; rw [hdo] at hjt; unfold putF; simp only [hjt]; rw [upd_eq, if_pos rfl]
        · have hji : j ≠ i := fun e => by rw [e, hLi] at hj'; cases hj'
          have hne : o.dst ≠ some t := fun e => hji (huniq j i t hjt (hdo.trans e))
          rw [hgo t hne, setV_ne hji]; exact hinv.done j t hj' hjt
      · have hne : o.dst ≠ some t := fun e => ht i (by rw [Array.getElem?_setIfInBounds_self_of_lt hiL]) (hdo.trans e)
        rw [hgo t hne]
        refine hinv.kept t fun j hj => ht j ?_
        by_cases hji : j = i
        · subst hji; rw [hLi] at hj; cases hj
        · rw [Array.getElem?_setIfInBounds_ne (Ne.symm hji)]; exact hj
      · have mark : L[e.on]? = some true → (L.setIfInBounds i true)[e.on]? = some true := fun h => by
          by_cases hei : e.on = i
          · rw [hei, Array.getElem?_setIfInBounds_self_of_lt hiL]
          · rw [Array.getElem?_setIfInBounds_ne (Ne.symm hei)]; exact h
        rcases hget j hj with rfl | hj'
        · rw [ho] at hp; cases hp; exact mark (hdeps e he hb)
        · exact mark (hinv.closed j p hj' hp e he hb)
  intro a w1 hf hs
  have hrep : ∀ j, (Array.replicate l.toArray.size false)[j]? ≠ some true := fun j h => by
    rw [Array.getElem?_replicate] at h; split at h <;> cases h
  refine wp_region_any hm (main _ _ a (fun _ => undef) f0 w _ ?_ hf (hs.trans (Sim.drawn _ _)) ⟨by simp, ?_, fun j t hj => absurd hj (hrep j), fun _ _ => rfl, fun j o hj => absurd hj (hrep j)⟩)
  · simp [count]
  · have : (fun j => (Array.replicate l.toArray.size false).getD j false) = fun _ => false := by
      funext j
      cases h : (Array.replicate l.toArray.size false).getD j false with
      | false => rfl
      | true => exact absurd (getD_true h) (hrep j)
    rw [this]; exact h0 _
end
end Go.Wl
namespace Go.Wl
open Go Go.Wk
/-- No part. -/
abbrev iNil : It := ⟨[], [], fun _ _ => True⟩
theorem Sep.nilA {B0 : List Nat} {w0 w : World} {Z : Nat → Prop} {l : List It} (hs : Sep B0 w0 Z w l) : Sep B0 w0 Z w (iNil :: l) := hs.fact trivial (fun _ _ _ _ _ _ _ _ _ => trivial) rfl rfl
section
variable {α β : Type} {r : Rd α} {s : Rd β} {Z : Nat → Prop} {w : World} {A : Option Addr} {nn cap : Nat} {l : List α} {bs : List Nat}
/-- A part of an element of a slice of the call's own. -/
theorem cell_ac [Inhabited α] {o q sz : Nat} {i : Int} {g : α → β} (h : Ac r Z w (.slice A nn cap) l bs) (sub : Sub r o s g) (hsz : r.sz = sz) (hq : q = i.toNat * sz + o) (h0 : 0 ≤ i) (h1 : i < nn) :
    ∃ c, CellsA w (eA A q) c ∧ s.rd Z w c (g (ix l i)) := by
  subst hsz; subst hq
  rcases h with ⟨e, rfl, rfl⟩ | ⟨b, cap', C, T, hv, rfl, ho, hC, hle, hc⟩
  · simp at e; omega
  · simp at hv
    obtain ⟨rfl, rfl, rfl⟩ := hv
    have hi : i.toNat < l.length := by omega
    obtain ⟨c, g1, g2, g3⟩ := hc i.toNat hi
    have hs := sub.1
    refine ⟨(c.drop o).take s.sz, ⟨rfl, _, _, _, ho, fun j hj => ?_⟩, by rw [ix_get hi]; exact sub.2 g3⟩
    simp only [List.length_take, List.length_drop] at hj
    have := g2 (o + j) (by omega)
    rw [List.getElem?_take, if_pos (by omega), List.getElem?_drop, ← this]
    show C.toArray[0 + (i.toNat * r.sz + o) + j]? = _
    simp only [List.getElem?_toArray]
    congr 1; omega
theorem Ac.len (h : Ac r Z w (.slice A nn cap) l bs) : l.length = nn := by
  obtain ⟨A', cap', e⟩ := h.val
  simp at e; exact e.2.1.symm
section
variable {P : Program} {m : Bool} {n : Nat} {ops : List Oper} {Q : Exit → Fr → World → Prop} {rest : List Oper} {f : Fr} {d sz : Nat} {ty T E : TypeId} {pos : String} {after : Array Edge} {x y : Operand} {k : IntKind} {i : Int}
theorem Z_indexAc (h : Ac r Z w (.slice A nn cap) l bs) (hT : ∀ w, (underlying T).run P w = .ok (.slice E) w) (hE : ∀ w, (sizeOf E).run P w = .ok sz w) (hx : ev f x = .slice A nn cap) (hy : ev f y = .int k i)
    (h0 : 0 ≤ i) (h1 : i < nn) (hn : Nat.blt d n = true) (K : WL P m n ops Q rest (upd f d (.pointer (some (eA A (i.toNat * sz))))) w) :
    WL P m n ops Q (⟨some d, .indexAddr T x y, ty, pos, after, none⟩ :: rest) f w := by
  rcases h with ⟨e, rfl, rfl⟩ | ⟨b, cap', C, T, hv, rfl, ho, hC, hle, hc⟩
  · simp at e; omega
  · simp at hv
    obtain ⟨rfl, rfl, rfl⟩ := hv
    refine WL_val rfl rfl hn (v := .pointer (some ⟨b, 0 + i.toNat * sz, none⟩)) (fun w1 hs => ?_) K
    simp only [execOp, hx, hy, Sem.run_bind, run_indexAddr hT hE h0 h1]
    rfl
end
/-- What an element's cells are, ars they are stored. -/
theorem st_int {x : Int} (h : InI x) (c0 : List Value) (hc : c0.length = 1) : 0 + [Value.int .i64 x].length ≤ 1 ∧ dInt.rd Z w (splice c0 0 [Value.int .i64 x]) x := by
  cases c0 with
  | nil => simp at hc
  | cons v r => cases r with
    | nil => exact ⟨by simp, rfl, h⟩
    | cons u r => simp at hc
theorem st_bool {x : Bool} (c0 : List Value) (hc : c0.length = 1) : 0 + [Value.bool x].length ≤ 1 ∧ dBool.rd Z w (splice c0 0 [Value.bool x]) x := by
  cases c0 with
  | nil => simp at hc
  | cons v r => cases r with
    | nil => exact ⟨by simp, rfl⟩
    | cons u r => simp at hc
theorem st_byte {x : UInt8} (c0 : List Value) (hc : c0.length = 1) : 0 + [bv x].length ≤ 1 ∧ dByte.rd Z w (splice c0 0 [bv x]) x := by
  cases c0 with
  | nil => simp at hc
  | cons v r => cases r with
    | nil => exact ⟨by simp, rfl⟩
    | cons u r => simp at hc
theorem st_str {x : Str} (h : x.length ≤ 9223372036854775807) (c0 : List Value) (hc : c0.length = 1) : 0 + [sv x].length ≤ 1 ∧ dStr.rd Z w (splice c0 0 [sv x]) x := by
  cases c0 with
  | nil => simp at hc
  | cons v r => cases r with
    | nil => exact ⟨by simp, rfl, h⟩
    | cons u r => simp at hc
end
/-- What becomes of the blocks of a thing in a call. -/
def Turn (w w' : World) (F F' : List Nat) : Prop := Ext F w w' ∧ ∀ b ∈ F', b ∈ F ∨ w.heap.size ≤ b
theorem Sep.turn {B0 : List Nat} {w0 w w' : World} {Z : Nat → Prop} {l : List It} {α : Type} {o : Ob α} {x x' : α} {F F' O : List Nat} (hs : Sep B0 w0 Z w l) (k : Nat) (hk : l[k]? = some (iOb o x F O)) (h : o.is Z w' x' F') (t : Turn w w' F F') :
    Sep B0 w0 Z w' (l.set k (iOb o x' F' O)) := hs.upd k hk t.1 h sOb (fun b hb => ⟨t.2 b hb, o.lt h b hb⟩) rfl
/-- A thing that a call makes. -/
theorem Sep.made {B0 : List Nat} {w0 w w' : World} {Z : Nat → Prop} {l : List It} {α : Type} {o : Ob α} {x : α} {F : List Nat} (hs : Sep B0 w0 Z w l) (e : Ext [] w w') (h : o.is Z w' x F) (hF : ∀ b ∈ F, w.heap.size ≤ b) :
    Sep B0 w0 Z w' (iOb o x F [] :: l) := hs.add e h sOb (fun b hb => ⟨hF b hb, o.lt h b hb⟩) rfl
/-- A slice that a call makes. -/
theorem Sep.madeAc {B0 : List Nat} {w0 w w' : World} {Z : Nat → Prop} {l : List It} {α : Type} {r : Rd α} {v : Value} {x : List α} {bs : List Nat} (hs : Sep B0 w0 Z w l) (e : Ext [] w w') (h : Ac r Z w' v x bs) (hF : ∀ b ∈ bs, w.heap.size ≤ b) :
    Sep B0 w0 Z w' (iAc r v x bs [] :: l) := hs.add e h sAc (fun b hb => ⟨hF b hb, h.lt b hb⟩) rfl
/-- A part taken apart. -/
theorem Sep.split {B0 : List Nat} {w0 w : World} {Z : Nat → Prop} {l ts : List It} {t : It} (hs : Sep B0 w0 Z w (t :: l)) (h : ∀ u ∈ ts, u.P Z w ∧ u.Stab ∧ (∀ b ∈ u.F, b ∈ t.F) ∧ u.O = t.O) (ha : ts.Pairwise (fun a b => ∀ x ∈ a.F, x ∉ b.F)) : Sep B0 w0 Z w (ts ++ l) := by
  have ok := hs.ok 0 t rfl
  have get : ∀ (j : Nat) (u : It), (ts ++ l)[j]? = some u → (j < ts.length ∧ ts[j]? = some u ∧ u ∈ ts) ∨ (ts.length ≤ j ∧ l[j - ts.length]? = some u) := by
    intro j u hj
    by_cases h1 : j < ts.length
    · rw [List.getElem?_append_left h1] at hj; exact .inl ⟨h1, hj, List.mem_of_getElem? hj⟩
    · rw [List.getElem?_append_right (by omega)] at hj; exact .inr ⟨by omega, hj⟩
  have pw := List.pairwise_iff_getElem.1 ha
  refine ⟨hs.ext, hs.zlt, fun j u hj => ?_, fun i j a b hi hj hne => ?_⟩
  · rcases get j u hj with ⟨_, _, hm⟩ | ⟨h1, h2⟩
    · obtain ⟨p, st, hF, hO⟩ := h u hm
      exact ⟨p, st, fun b hb => ok.lt b (hF b hb), fun b hb => ok.notZ b (hF b hb), fun b hb => by rw [hO]; exact ok.org b (hF b hb), by rw [hO]; exact ok.org0⟩
    · exact hs.ok (j - ts.length + 1) u (by simpa using h2)
  · rcases get i a hi with ⟨i1, i2, im⟩ | ⟨i1, i2⟩
    · rcases get j b hj with ⟨j1, j2, jm⟩ | ⟨j1, j2⟩
      · rw [List.getElem?_eq_getElem i1] at i2; rw [List.getElem?_eq_getElem j1] at j2
        cases i2; cases j2
        rcases Nat.lt_or_gt_of_ne hne with hlt | hlt
        · exact pw i j i1 j1 hlt
        · exact fun x hx hx' => pw j i j1 i1 hlt x hx' hx
      · exact fun x hx => hs.apart 0 (j - ts.length + 1) t b rfl (by simpa using j2) (by omega) x ((h a im).2.2.1 x hx)
    · rcases get j b hj with ⟨j1, j2, jm⟩ | ⟨j1, j2⟩
      · exact fun x hx hx' => hs.apart (i - ts.length + 1) 0 a t (by simpa using i2) rfl (by omega) x hx ((h b jm).2.2.1 x hx')
      · exact hs.apart (i - ts.length + 1) (j - ts.length + 1) a b (by simpa using i2) (by simpa using j2) (by omega)
/-- The call's own things at first. -/
theorem Sep.one {w0 : World} {Z : Nat → Prop} {α : Type} {o : Ob α} {x : α} {F : List Nat} (h : o.is Z w0 x F) (zlt : ∀ b, Z b → b < w0.heap.size) (hZ : ∀ b ∈ F, ¬ Z b) : Sep F w0 Z w0 [iOb o x F F] :=
  Sep.give (Sep.nil zlt) h sOb (o.lt h) hZ rfl (fun b hb => hb) (fun k s hk => by simp at hk)
theorem W_loopE {P : Program} {n : Nat} {c : Code} {Q : Exit → Fr → World → Prop} {f : Fr} {w : World} (I : Nat → Fr → World → Prop) (h0 : ∃ m, I m f w)
    (round : ∀ m f w, I m f w → W P n c (thenQ (fun f' w' => ∃ m', m' < m ∧ I m' f' w') Q) f w) : W P n (.loop c) Q f w := by
  obtain ⟨m, h0⟩ := h0
  exact W_loop I m h0 round
end Go.Wl
end
section
namespace Go.Wl
open Go Go.Wk

/-! ### Maps ars lists of pairs -/
def emap {κ α : Type} (enc : α → Value) (L : List (κ × α)) : List (κ × Value) := L.map fun p => (p.1, enc p.2)
theorem emap_keys {κ α : Type} {enc : α → Value} {L : List (κ × α)} : (emap enc L).map (·.1) = L.map (·.1) := by simp [emap]
section
variable {κ α : Type} [DecidableEq κ]
def aget : List (κ × α) → κ → Option α
  | [], _ => none
  | p :: r, k => if k = p.1 then some p.2 else aget r k
def aput : List (κ × α) → κ → α → List (κ × α)
  | [], k, v => [(k, v)]
  | p :: r, k, v => if k = p.1 then (k, v) :: r else p :: aput r k v
def adel (L : List (κ × α)) (k : κ) : List (κ × α) := L.filter fun p => ¬ k = p.1
theorem aget_put {L : List (κ × α)} {k j : κ} {v : α} : aget (aput L k v) j = if j = k then some v else aget L j := by
  induction L with
  | nil => by_cases h : j = k <;> simp [aput, aget, h]
  | cons p r ih =>
    simp only [aput]
    by_cases hk : k = p.1
    · rw [if_pos hk]
      by_cases hj : j = k
      · simp [aget, hj]
      · simp [aget, hj, ← hk]
    · rw [if_neg hk]
      simp only [aget, ih]
      by_cases hj : j = p.1
      · rw [if_pos hj, if_pos hj, if_neg (fun e => hk (by rw [← e]; exact hj))]
      · rw [if_neg hj, if_neg hj]
theorem aget_del {L : List (κ × α)} {k j : κ} : aget (adel L k) j = if j = k then none else aget L j := by
  induction L with
  | nil => simp [adel, aget]
  | cons p r ih =>
    unfold adel at ih ⊢
    by_cases hk : k = p.1
    · rw [List.filter_cons_of_neg (by simp [hk]), ih]
      by_cases hj : j = k
      · rw [if_pos hj, if_pos hj]
      · rw [if_neg hj, if_neg hj]; simp only [aget]; rw [if_neg (by rw [← hk]; exact hj)]
    · rw [List.filter_cons_of_pos (by simp [hk])]
      simp only [aget, ih]
      by_cases hj : j = p.1
      · rw [if_pos hj, if_pos hj, if_neg (fun e => hk (by rw [← e]; exact hj))]
      · rw [if_neg hj, if_neg hj]
theorem aget_mem {L : List (κ × α)} {k : κ} : (aget L k).isSome = true ↔ k ∈ L.map (·.1) := by
  induction L with
  | nil => simp [aget]
  | cons p r ih =>
    simp only [aget]
    by_cases hk : k = p.1
    · simp [hk]
    · rw [if_neg hk, ih]; simp [hk]
theorem aget_of_mem {L : List (κ × α)} (h : (L.map (·.1)).Nodup) {k : κ} {v : α} (hm : (k, v) ∈ L) : aget L k = some v := by
  induction L with
  | nil => cases hm
  | cons p r ih =>
    simp only [List.map_cons, List.nodup_cons] at h
    simp only [aget]
    rcases List.mem_cons.1 hm with rfl | hm
    · simp
    · rw [if_neg (fun e => h.1 (by rw [← e]; exact List.mem_map.2 ⟨(k, v), hm, rfl⟩))]
      exact ih h.2 hm
theorem aput_nodup {L : List (κ × α)} {k : κ} {v : α} (h : (L.map (·.1)).Nodup) : ((aput L k v).map (·.1)).Nodup := by
  have keys : ∀ (L : List (κ × α)) x, x ∈ (aput L k v).map (·.1) → x = k ∨ x ∈ L.map (·.1) := by
    intro L
    induction L with
    | nil => intro x hx; simp [aput] at hx; exact .inl hx
    | cons p r ih =>
      intro x hx
      simp only [aput] at hx
      by_cases hk : k = p.1
      · rw [if_pos hk] at hx; simp only [List.map_cons, List.mem_cons] at hx ⊢
        rcases hx with h | h
        · exact .inl h
        · exact .inr (.inr h)
      · rw [if_neg hk] at hx; simp only [List.map_cons, List.mem_cons] at hx ⊢
        rcases hx with h | h
        · exact .inr (.inl h)
        · rcases ih x h with h | h
          · exact .inl h
          · exact .inr (.inr h)
  induction L with
  | nil => simp [aput]
  | cons p r ih =>
    simp only [List.map_cons, List.nodup_cons] at h
    simp only [aput]
    by_cases hk : k = p.1
    · rw [if_pos hk]; simp only [List.map_cons, List.nodup_cons]; rw [hk]; exact h
    · rw [if_neg hk]; simp only [List.map_cons, List.nodup_cons]
      exact ⟨fun hm => by rcases keys r p.1 hm with e | e; exact hk e.symm; exact h.1 e, ih h.2⟩
theorem adel_nodup {L : List (κ × α)} {k : κ} (h : (L.map (·.1)).Nodup) : ((adel L k).map (·.1)).Nodup := by
  unfold adel
  exact List.Sublist.nodup (List.Sublist.map _ List.filter_sublist) h
variable {enc : α → Value} {L : List (κ × α)} {k : κ} {v : α}
theorem emap_get : getL (emap enc L) k = (aget L k).map enc := by
  induction L with
  | nil => rfl
  | cons p r ih => simp only [emap, List.map_cons, getL, aget]; split
                   · rfl
                   · exact ih
theorem emap_put : putL (emap enc L) k (enc v) = emap enc (aput L k v) := by
  induction L with
  | nil => rfl
  | cons p r ih =>
    simp only [emap, List.map_cons, putL, aput]
    by_cases h : k = p.1
    · rw [if_pos h, if_pos h]; rfl
    · rw [if_neg h, if_neg h, List.map_cons]; exact congrArg _ ih
theorem emap_del : delL (emap enc L) k = emap enc (adel L k) := by
  unfold delL emap adel
  rw [List.filter_map]; rfl
end

abbrev av (s : Str) : Value := .agg (s.map bv).toArray
section
variable {P : Program} {m : Bool} {n : Nat} {ops : List Oper} {Q : Exit → Fr → World → Prop} {rest : List Oper} {f : Fr} {w w0 : World} {d : Nat} {Z D : Nat → Prop} {B0 : List Nat} {L : List It}
variable {ty T T' T2 E Kt : TypeId} {pos : String} {after : Array Edge} {x y z : Operand} {k : IntKind} {v zv : Value} {i : Int} {p : Bool}
variable {α β κ : Type} {r : Rd α} {A : Option Addr} {nn cap q sz b it : Nat} {O bs : List Nat} {s t : Str} {c : UInt8} {ky : Key κ} {enc : α → Value} {am : List (κ × α)} {key : κ}

/-! ### Maps -/
theorem Z_makeMap (ky : Key κ) (enc : α → Value) (hs : Sep B0 w0 Z w L) (hn : Nat.blt d n = true) (K : ∀ b w', Sep B0 w0 Z w' (iMap ky b (emap enc []) [] :: L) → WL P false n ops Q rest (upd f d (.map (some b))) w') :
    WL P false n ops Q (⟨some d, .makeMap T none, ty, pos, after, none⟩ :: rest) f w :=
  S_makeMap hn fun b w' e h1 h2 hm => K b w' (hs.add e hm sMap (fun x hx => by simp at hx; subst hx; omega) rfl)
theorem Z_mapUpdate [DecidableEq κ] {vv : α} (hs : Sep B0 w0 Z w L) (j : Nat) (hj : L[j]? = some (iMap ky b (emap enc am) O)) (hT : ∀ w, (underlying T).run P w = .ok (.map Kt E) w) (hK : ∀ w, (underlying Kt).run P w = .ok ky.kind w) (hx : ev f x = .map (some b)) (hy : ev f y = ky.enc key) (hv : ev f z = enc vv)
    (K : ∀ w', Sep B0 w0 Z w' (L.set j (iMap ky b (emap enc (aput am key vv)) O)) → WL P false n ops Q rest f w') : WL P false n ops Q (⟨none, .mapUpdate T x y z, ty, pos, after, none⟩ :: rest) f w :=
  S_mapUpdate hT hK hx hy hv (hs.at j hj) fun w' e h1 hm => K w' (hs.upd j hj e (by rw [← emap_put]; exact hm) sMap (fun x hx => ⟨.inl hx, by have := hs.lt j hj x hx; have := e.size; omega⟩) rfl)
theorem Z_insert [DecidableEq κ] {vv : α} (hs : Sep B0 w0 Z w L) (j : Nat) (hj : L[j]? = some (iMap ky b (emap enc am) O)) (hT : ∀ w, (underlying T).run P w = .ok (.map Kt E) w) (hK : ∀ w, (underlying Kt).run P w = .ok ky.kind w) (hx : ev f x = .map (some b)) (hy : ev f y = ky.enc key) (hv : ev f z = enc vv)
    (K : ∀ w', Sep B0 w0 Z w' (L.set j (iMap ky b (emap enc (aput am key vv)) O)) → WL P false n ops Q rest f w') : WL P false n ops Q (⟨none, .insert T x y z, ty, pos, after, none⟩ :: rest) f w :=
  S_insert hT hK hx hy hv (hs.at j hj) fun w' e h1 hm => K w' (hs.upd j hj e (by rw [← emap_put]; exact hm) sMap (fun x hx => ⟨.inl hx, by have := hs.lt j hj x hx; have := e.size; omega⟩) rfl)
theorem Z_delete [DecidableEq κ] (hs : Sep B0 w0 Z w L) (j : Nat) (hj : L[j]? = some (iMap ky b (emap enc am) O)) (hT : ∀ w, (underlying T).run P w = .ok (.map Kt E) w) (hK : ∀ w, (underlying Kt).run P w = .ok ky.kind w) (hx : ev f x = .map (some b)) (hy : ev f y = ky.enc key)
    (K : ∀ w', Sep B0 w0 Z w' (L.set j (iMap ky b (emap enc (adel am key)) O)) → WL P false n ops Q rest f w') : WL P false n ops Q (⟨none, .call ⟨.builtin .delete, #[x, y], #[T, Kt]⟩, ty, pos, after, none⟩ :: rest) f w :=
  S_delete hT hK hx hy (hs.at j hj) fun w' e h1 hm => K w' (hs.upd j hj e (by rw [← emap_del]; exact hm) sMap (fun x hx => ⟨.inl hx, by have := hs.lt j hj x hx; have := e.size; omega⟩) rfl)
theorem Z_lookup [DecidableEq κ] {z0 : α} (h : MapAt ky w b (emap enc am)) (hT : ∀ w, (underlying T).run P w = .ok (.map Kt E) w) (hK : ∀ w, (underlying Kt).run P w = .ok ky.kind w) (hz : ∀ w, (zeroValue E).run P w = .ok zv w) (hz0 : zv = enc z0) (hx : ev f x = .map (some b)) (hy : ev f y = ky.enc key)
    (hn : Nat.blt d n = true) (K : WL P m n ops Q rest (upd f d (enc ((aget am key).getD z0))) w) : WL P m n ops Q (⟨some d, .lookup T x y false, ty, pos, after, none⟩ :: rest) f w :=
  S_lookup hT hK hz hx hy h (by rw [emap_get, hz0]; cases aget am key <;> rfl) hn K
theorem Z_lookupOk [DecidableEq κ] {z0 : α} (h : MapAt ky w b (emap enc am)) (hT : ∀ w, (underlying T).run P w = .ok (.map Kt E) w) (hK : ∀ w, (underlying Kt).run P w = .ok ky.kind w) (hz : ∀ w, (zeroValue E).run P w = .ok zv w) (hz0 : zv = enc z0) (hx : ev f x = .map (some b)) (hy : ev f y = ky.enc key)
    (hn : Nat.blt d n = true) (K : WL P m n ops Q rest (upd f d (.tuple #[enc ((aget am key).getD z0), .bool (aget am key).isSome])) w) : WL P m n ops Q (⟨some d, .lookup T x y true, ty, pos, after, none⟩ :: rest) f w :=
  S_lookupOk hT hK hz hx hy h (by rw [emap_get, hz0]; cases aget am key <;> rfl) (by rw [emap_get]; cases aget am key <;> rfl) hn K
/-- Ranging: the part of the map becomes one of map and iterator. -/
theorem Z_range (hs : Sep B0 w0 Z w L) (j : Nat) (hj : L[j]? = some (iMap ky b (emap enc am) O)) (hT : ∀ w, (underlying T).run P w = .ok (.map Kt E) w) (hx : ev f x = .map (some b)) (hn : Nat.blt d n = true)
    (K : ∀ it w', Sep B0 w0 Z w' (L.set j (iIter ky it b (emap enc am) (emap enc []) O)) → WL P false n ops Q rest (upd f d (.pointer (some ⟨it, 0, none⟩))) w') :
    WL P false n ops Q (⟨some d, .range T x, ty, pos, after, none⟩ :: rest) f w :=
  S_range hT hx (hs.at j hj) hn fun it w' e h1 h2 hi => K it w' (hs.upd j hj (e.mono (fun x hx => by cases hx)) hi sIter (fun x hx => by
    have hb : b < w.heap.size := hs.lt j hj b (by simp)
    simp only [List.mem_cons, List.not_mem_nil, or_false] at hx ⊢
    rcases hx with rfl | rfl
    · exact ⟨.inr (by omega), by omega⟩
    · exact ⟨.inl rfl, by omega⟩) rfl)
theorem Z_next [DecidableEq κ] {dm : List (κ × α)} {N : TypeId} (hs : Sep B0 w0 Z w L) (j : Nat) (hj : L[j]? = some (iIter ky it b (emap enc am) (emap enc dm) O)) (hx : ev f x = .pointer (some ⟨it, 0, none⟩)) (hn : Nat.blt d n = true)
    (K1 : ∀ k v w', (k, v) ∈ am → k ∉ dm.map (·.1) → Sep B0 w0 Z w' (L.set j (iIter ky it b (emap enc am) (emap enc (dm ++ [(k, v)])) O)) → WL P false n ops Q rest (upd f d (.tuple #[.bool true, ky.enc k, enc v])) w')
    (K2 : (∀ k, k ∈ am.map (·.1) → k ∈ dm.map (·.1)) → WL P false n ops Q rest (upd f d (.tuple #[.bool false])) w) :
    WL P false n ops Q (⟨some d, .next x false, N, pos, after, none⟩ :: rest) f w := by
  refine S_next hx (hs.at j hj) hn ?_ ?_
  · intro k v w' hm _ hk e h1 hi
    obtain ⟨⟨k', v'⟩, hm', e'⟩ := List.mem_map.1 hm
    simp only [Prod.mk.injEq] at e'
    obtain ⟨rfl, rfl⟩ := e'
    rw [emap_keys] at hk
    refine K1 k' v' w' hm' hk (hs.upd j hj (e.mono (fun x hx => .inl (by simp at hx ⊢; exact .inl hx))) (by simpa [emap] using hi) sIter (fun x hx => ⟨.inl hx, by have := hs.lt j hj x hx; have := e.size; omega⟩) rfl)
  · intro h
    refine K2 fun k hk => ?_
    obtain ⟨⟨k', v'⟩, hm, rfl⟩ := List.mem_map.1 hk
    have := h (k', enc v') (List.mem_map.2 ⟨(k', v'), hm, rfl⟩)
    obtain ⟨⟨k2, v2⟩, h2, e⟩ := List.mem_map.1 this
    simp only [Prod.mk.injEq] at e
    exact List.mem_map.2 ⟨(k2, v2), h2, e.1⟩
theorem Z_entry {dm : List (κ × α)} {kk : κ} {vv : α} (h : Iter ky w it b (emap enc am) (emap enc (dm ++ [(kk, vv)]))) (hx : ev f x = .pointer (some ⟨it, 0, none⟩)) (hn : Nat.blt d n = true)
    (K : WL P m n ops Q rest (upd f d (.tuple #[ky.enc kk, enc vv])) w) : WL P m n ops Q (⟨some d, .entry x, ty, pos, after, none⟩ :: rest) f w :=
  S_entry hx (D := emap enc dm) (by simpa [emap] using h) hn K
/-- The ranging is over. -/
theorem Sep.unIter (hs : Sep B0 w0 Z w L) (j : Nat) {dm : List (κ × α)} (hj : L[j]? = some (iIter ky it b (emap enc am) (emap enc dm) O)) : Sep B0 w0 Z w (L.set j (iMap ky b (emap enc am) O)) :=
  hs.upd j hj (Ext.refl _ _) (Iter.map (hs.at j hj)) sMap (fun x hx => ⟨.inl (by simp at hx ⊢; exact .inr hx), hs.lt j hj x (by simp at hx ⊢; exact .inr hx)⟩) rfl
theorem MapAt.keys {dm : List (κ × α)} (h : MapAt ky w b (emap enc dm)) : (dm.map (·.1)).Nodup := by have := MapAt.nodup h; rwa [emap_keys] at this

/-! ### Strings -/
theorem S_lenT (hT : ∀ w, (underlying T).run P w = .ok .string w) (hx : ev f x = sv s) (hn : Nat.blt d n = true) (K : WL P m n ops Q rest (upd f d (.int .i64 s.length)) w) :
    WL P m n ops Q (⟨some d, .call ⟨.builtin .len, #[x], #[T]⟩, ty, pos, after, none⟩ :: rest) f w :=
  S_lenS hT hx hn (by rw [sv_size]; exact K)
theorem S_indexT (hT : ∀ w, (underlying T).run P w = .ok .string w) (hx : ev f x = sv s) (hy : ev f y = .int k i) (h0 : 0 ≤ i) (h1 : i < s.length) (hn : Nat.blt d n = true) (K : WL P m n ops Q rest (upd f d (bv (ix s i))) w) :
    WL P m n ops Q (⟨some d, .index T x y, ty, pos, after, none⟩ :: rest) f w :=
  WL_val rfl rfl hn (v := bv (ix s i)) (fun _ _ => by
    have hi : i.toNat < s.length := by omega
    have e : (⟨s.toArray⟩ : ByteArray)[i.toNat]? = some (ix s i) := by
      rw [ix_get hi]
      have h' : i.toNat < (⟨s.toArray⟩ : ByteArray).size := by rw [sv_size]; exact hi
      rw [getElem?_pos (⟨s.toArray⟩ : ByteArray) i.toNat h']
      rfl
    simp [execOp, hx, hy, sv, Instr.index, asIntOf, hT, go_sem, h0, e, bv]) K
theorem ba_extract {s : Str} {a b : Nat} (h : a ≤ b) (h2 : b ≤ s.length) : (⟨s.toArray⟩ : ByteArray).extract a b = ⟨((s.take b).drop a).toArray⟩ := by
  apply ByteArray.ext
  apply Array.ext'
  simp [ByteArray.data_extract, List.drop_take]
theorem S_sliceT {lo hi : Option Operand} {a e : Int} (hT : ∀ w, (underlying T).run P w = .ok .string w) (hx : ev f x = sv s) (hlo : match lo with | some o => ev f o = .int .i64 a | none => a = 0) (hhi : match hi with | some o => ev f o = .int .i64 e | none => e = s.length) (h0 : 0 ≤ a ∧ a ≤ e ∧ e ≤ s.length) (hn : Nat.blt d n = true)
    (K : WL P m n ops Q rest (upd f d (sv ((s.take e.toNat).drop a.toNat))) w) : WL P m n ops Q (⟨some d, .slice T x lo hi none, ty, pos, after, none⟩ :: rest) f w :=
  WL_val rfl rfl hn (v := sv ((s.take e.toNat).drop a.toNat)) (fun _ _ => by
    have hx' := ba_extract (s := s) (a := a.toNat) (b := e.toNat) (by omega) (by omega)
    have hz := sv_size s
    cases lo with
    | none =>
      simp only at hlo; subst hlo
      cases hi with
      | none =>
        simp only at hhi; subst hhi
        simp only [sv] at hx ⊢
        simp [execOp, hx, Instr.sliceAt, Instr.slice, Instr.sliceBounds, hT, go_sem] at hx' ⊢
        try exact hx'
      | some o2 =>
        simp only at hhi
        simp only [sv] at hx ⊢
        simp [execOp, hx, hhi, Instr.sliceAt, Instr.slice, Instr.sliceBounds, Instr.sliceBound, asIntOf, hT, go_sem, h0] at hx' ⊢
        try exact hx'
    | some o1 =>
      simp only at hlo
      cases hi with
      | none =>
        simp only at hhi; subst hhi
        simp only [sv] at hx ⊢
        simp [execOp, hx, hlo, Instr.sliceAt, Instr.slice, Instr.sliceBounds, Instr.sliceBound, asIntOf, hT, go_sem, h0] at hx' ⊢
        try exact hx'
      | some o2 =>
        simp only at hhi
        simp only [sv] at hx ⊢
        simp [execOp, hx, hlo, hhi, Instr.sliceAt, Instr.slice, Instr.sliceBounds, Instr.sliceBound, asIntOf, hT, go_sem, h0, show e ≤ (s.length : Int) from h0.2.2, show 0 ≤ e by omega, Int.toNat_of_nonneg (show 0 ≤ e by omega)] at hx' ⊢
        try exact hx') K
end
end Go.Wl
end
section
namespace Go.Wl
open Go Go.Wk

/-- A variable that holds an array of bytes. -/
abbrev iAr (b : Nat) (T : TypeId) (s : Str) (O : List Nat) : It := ⟨[b], O, fun _ w => Own w b T (s.map bv)⟩
theorem sAr {b : Nat} {T : TypeId} {s : Str} {O : List Nat} : (iAr b T s O).Stab := fun Z Z' B w w' h e hB _ => h.ext e (fun hm => by have := hB b hm (.inl (by simp)); have := Own.lt h; omega)
theorem bv_plain (s : Str) : (s.map bv).all plain1 = true := by simp [bv, plain1]
theorem av_cells (s : Str) : (av s).cells.toList = s.map bv := by simp [Value.cells]
theorem dArr_splice {n : Nat} {Z : Nat → Prop} {w : World} {s : Str} (hs : s.length = n) (c0 : List Value) (h : c0.length = n) : 0 + (s.map bv).length ≤ n ∧ (dArr n).rd Z w (splice c0 0 (s.map bv)) s := by
  refine ⟨by simp [hs], ?_⟩
  rw [splice_full (by simp [hs, h])]
  exact ⟨rfl, hs⟩
theorem Ac.ofAr {Z : Nat → Prop} {w : World} {b : Nat} {T : TypeId} {s : Str} (h : Own w b T (s.map bv)) : Ac dByte Z w (.slice (some ⟨b, 0, none⟩) s.length s.length) s [b] :=
  .inr ⟨b, s.length, _, T, rfl, rfl, h, by simp [dByte], Nat.le_refl _, fun i hi => ⟨[bv s[i]], rfl, fun j hj => by
    have : j = 0 := by simp [dByte] at hj; omega
    subst this
    simp [dByte, hi], rfl⟩⟩
theorem Sep.arAc {B0 : List Nat} {w0 w : World} {Z : Nat → Prop} {L : List It} {b nn : Nat} {T : TypeId} {s : Str} {O : List Nat} (hs : Sep B0 w0 Z w L) (j : Nat) (hj : L[j]? = some (iAr b T s O)) (hn : s.length = nn) : Sep B0 w0 Z w (L.set j (iAc dByte (.slice (some ⟨b, 0, none⟩) nn nn) s [b] O)) := by
  subst hn
  exact hs.upd j hj (Ext.refl _ _) (Ac.ofAr (hs.at j hj)) sAc (fun x hx => ⟨.inl hx, hs.lt j hj x hx⟩) rfl
theorem Ac.n {α : Type} {r : Rd α} {Z : Nat → Prop} {w : World} {A : Option Addr} {nn cap : Nat} {l : List α} {bs : List Nat} (h : Ac r Z w (.slice A nn cap) l bs) : l.length = nn := by
  obtain ⟨A', cap', e⟩ := h.val
  simp at e; exact e.2.1.symm
theorem bytes_run {P : Program} (s : Str) : ∀ (acc : ByteArray) (w : World), (forIn (m := Sem) (s.map bv) acc (fun (c : Value) (t : ByteArray) => match c with | .int .u8 n => pure (ForInStep.yield (t.push (UInt8.ofNat n.toNat))) | _ => do stuck "bytesToString: byte expected"; pure (ForInStep.yield t))).run P w = .ok (acc ++ ⟨s.toArray⟩) w := by
  induction s with
  | nil =>
    intro acc w
    have : acc ++ (⟨#[]⟩ : ByteArray) = acc := by apply ByteArray.ext; simp
    simp [go_sem, this]
  | cons c r ih =>
    intro acc w
    simp only [List.map_cons, List.forIn_cons, Sem.run_bind]
    have e : UInt8.ofNat ((c.toNat : Int).toNat) = c := by simp
    have h1 : ((match bv c with | .int .u8 n => pure (ForInStep.yield (acc.push (UInt8.ofNat n.toNat))) | _ => do stuck "bytesToString: byte expected"; pure (ForInStep.yield acc) : Sem (ForInStep ByteArray))).run P w = .ok (.yield (acc.push c)) w := by
      simp only [bv, e]; rfl
    rw [h1, Result.andThen_ok]
    refine (ih (acc.push c) w).trans ?_
    congr 1
    apply ByteArray.ext
    simp
section
variable {P : Program} {m : Bool} {n : Nat} {ops : List Oper} {Q : Exit → Fr → World → Prop} {rest : List Oper} {f : Fr} {w w0 : World} {d : Nat} {Z D : Nat → Prop} {B0 : List Nat} {L : List It}
variable {ty T T' T2 E S : TypeId} {pos : String} {after : Array Edge} {x y z : Operand} {k : IntKind} {v zv : Value} {i : Int} {p : Bool}
variable {A : Option Addr} {nn cap q sz b : Nat} {O bs : List Nat} {s t : Str} {c : UInt8}
theorem Z_allocAr (hs : Sep B0 w0 Z w L) (hz : ∀ w, (zeroValue T).run P w = .ok zv w) (hz0 : zv = av s) (hn : Nat.blt d n = true) (K : ∀ b w', Sep B0 w0 Z w' (iAr b T s [] :: L) → WL P false n ops Q rest (upd f d (.pointer (some ⟨b, 0, none⟩))) w') :
    WL P false n ops Q (⟨some d, .alloc T, ty, pos, after, none⟩ :: rest) f w :=
  S_alloc hz hn fun b w' e h1 h2 ho => K b w' (hs.add e (by subst hz0; rw [av_cells] at ho; exact ho) sAr (fun x hx => by simp at hx; subst hx; omega) rfl)
theorem Z_storeAr (hs : Sep B0 w0 Z w L) (j : Nat) (hj : L[j]? = some (iAr b E s O)) (hz : ∀ w, (sizeOf T).run P w = .ok nn w) (hx : ev f x = .pointer (some ⟨b, 0, none⟩)) (hy : ev f y = av t) (h1 : s.length = nn) (h2 : t.length = nn)
    (K : ∀ w', Sep B0 w0 Z w' (L.set j (iAr b E t O)) → WL P false n ops Q rest f w') :
    WL P false n ops Q (⟨none, .store T x y, ty, pos, after, none⟩ :: rest) f w :=
  S_store hz hx (by rw [hy, av_cells]) (by simp [h2]) (hs.at j hj) (by simp [h1]) (bv_plain t) fun w' e _ ho => K w' (hs.upd j hj e (by rw [splice_full (by simp [h1, h2])] at ho; exact ho) sAr (fun x hx => ⟨.inl hx, by have := hs.lt j hj x hx; have := e.size; omega⟩) rfl)
theorem S_loadAr (hA : ∀ w, (isAgg T).run P w = .ok true w) (hz : ∀ w, (sizeOf T).run P w = .ok nn w) (ho : Own w b E (s.map bv)) (hl : s.length = nn) (hx : ev f x = .pointer (some ⟨b, 0, none⟩)) (hn : Nat.blt d n = true) (K : WL P m n ops Q rest (upd f d (av s)) w) :
    WL P m n ops Q (⟨some d, .load T x, ty, pos, after, none⟩ :: rest) f w :=
  S_loadAgg hA hz (by simp [hl]) hx ho.all hn K
/-- The first bytes of a slice ars an array. -/
theorem S_arrPtr (hT : ∀ w, (underlying T).run P w = .ok (.array nn E) w) (hx : ev f x = .slice A q cap) (hl : nn ≤ q) (hn : Nat.blt d n = true) (K : WL P m n ops Q rest (upd f d (.pointer A)) w) :
    WL P m n ops Q (⟨some d, .sliceToArrayPointer T x, ty, pos, after, none⟩ :: rest) f w :=
  WL_val rfl rfl hn (v := .pointer A) (fun _ _ => by simp [execOp, hx, Instr.arrayAt, hT, go_sem, Nat.not_lt.2 hl]) K
theorem S_loadArr (hA : ∀ w, (isAgg T).run P w = .ok true w) (hz : ∀ w, (sizeOf T).run P w = .ok nn w) (h : (dSlice dByte).rd D w [.slice A q cap] s) (hl : nn ≤ q) (hp : 0 < nn) (hx : ev f x = .pointer A) (hn : Nat.blt d n = true) (K : WL P m n ops Q rest (upd f d (av (s.take nn))) w) :
    WL P m n ops Q (⟨some d, .load T x, ty, pos, after, none⟩ :: rest) f w := by
  have hq := dSlice_n h
  subst hq
  obtain ⟨b, o, c0, rfl, _, ⟨C, T1, z, hh, _⟩, _⟩ := dSlice_at h (show 0 < s.length by omega)
  refine Z_loadAgg hA hz (cs := (s.take nn).map bv) (by simp; omega) hx ⟨rfl, C, T1, z, hh, fun j hj => ?_⟩ hn K
  simp only [List.length_map, List.length_take] at hj
  obtain ⟨b', o', c, hA', _, ⟨C', T', z', hh', hc'⟩, hr⟩ := dSlice_at h (show j < s.length by omega)
  simp only [Option.some.injEq, Addr.mk.injEq] at hA'
  obtain ⟨rfl, rfl, _⟩ := hA'
  rw [hh] at hh'; cases hh'
  have hr' : c = [bv s[j]] := hr
  subst hr'
  have := hc' 0 (by simp)
  simp only [dByte, Nat.mul_one, Nat.add_zero, List.getElem?_cons_zero] at this
  show C[o + j]? = _
  rw [this, List.getElem?_map, List.getElem?_take, if_pos (by omega), List.getElem?_eq_getElem (by omega)]; rfl
/-- All of an array's variable ars a slice, or its first bytes. -/
theorem S_sliceAr {hi : Option Operand} {e : Int} (hT : ∀ w, (underlying T).run P w = .ok (.array nn E) w) (hE : ∀ w, (sizeOf E).run P w = .ok 1 w) (hx : ev f x = .pointer (some (eA A q))) (hhi : match hi with | some o => ev f o = .int .i64 e | none => e = nn) (h0 : 0 ≤ e ∧ e ≤ nn) (hn : Nat.blt d n = true)
    (K : WL P m n ops Q rest (upd f d (.slice (some (eA A q)) e.toNat nn)) w) : WL P m n ops Q (⟨some d, .slice T x none hi none, ty, pos, after, none⟩ :: rest) f w :=
  WL_val rfl rfl hn (v := .slice (some (eA A q)) e.toNat nn) (fun _ _ => by
    have e0 : (eA A q).add 0 = eA A q := by rw [eA_add, Nat.add_zero]
    cases hi with
    | none =>
      simp only at hhi; subst hhi
      simp [execOp, hx, Instr.sliceAt, Instr.sureAddr, Instr.sliceBounds, hT, hE, go_sem, e0]
    | some o =>
      simp only at hhi
      simp [execOp, hx, hhi, Instr.sliceAt, Instr.sureAddr, Instr.sliceBounds, Instr.sliceBound, asIntOf, hT, hE, go_sem, h0, e0]) K
theorem S_sliceAr0 {hi : Option Operand} {e : Int} (hT : ∀ w, (underlying T).run P w = .ok (.array nn E) w) (hE : ∀ w, (sizeOf E).run P w = .ok 1 w) (hx : ev f x = .pointer (some ⟨b, 0, none⟩)) (hhi : match hi with | some o => ev f o = .int .i64 e | none => e = nn) (h0 : 0 ≤ e ∧ e ≤ nn) (hn : Nat.blt d n = true)
    (K : WL P m n ops Q rest (upd f d (.slice (some ⟨b, 0, none⟩) e.toNat nn)) w) : WL P m n ops Q (⟨some d, .slice T x none hi none, ty, pos, after, none⟩ :: rest) f w :=
  S_sliceAr (A := some ⟨b, 0, none⟩) (q := 0) hT hE hx hhi h0 hn K
theorem eA_own {A : Option Addr} {b : Nat} (h : A = some ⟨b, 0, none⟩) (q : Nat) : eA A q = ⟨b, q, none⟩ := by subst h; simp [eA]
/-- copy into the first bytes of a row, out of an array's variable. -/
theorem Z_copyRow {al : List Str} {T3 : TypeId} {e : Int} (hs : Sep B0 w0 Z w L) (j : Nat) (hj : L[j]? = some (iAc (dArr sz) (.slice A nn cap) al bs O)) (ho : Own w b S (s.map bv)) (hT : ∀ w, (underlying T).run P w = .ok (.slice E) w) (hE : ∀ w, (sizeOf E).run P w = .ok 1 w)
    (hx : ev f x = .slice (some (eA A q)) sz sz) (hq : q = i.toNat * sz) (hy : ev f y = .slice (some ⟨b, 0, none⟩) e.toNat sz) (h0 : 0 ≤ i) (h1 : i < nn) (hsl : s.length = sz) (he : 0 ≤ e ∧ e ≤ sz) (hn : Nat.blt d n = true)
    (K : ∀ w', Sep B0 w0 Z w' (L.set j (iAc (dArr sz) (.slice A nn cap) (al.set i.toNat (s.take e.toNat ++ (ix al i).drop e.toNat)) bs O)) → WL P false n ops Q rest (upd f d (.int .i64 e)) w') :
    WL P false n ops Q (⟨some d, .call ⟨.builtin .copy, #[x, y], #[T, T2]⟩, T3, pos, after, none⟩ :: rest) f w := by
  subst hq
  have hnl := Ac.n (hs.at j hj)
  have hlen : e.toNat ≤ s.length := by omega
  obtain ⟨b', T1, C, rfl, rfl, hown, hroom, hk⟩ := Ac.put (w1 := w) (o := 0) (c := (s.take e.toNat).map bv) (e := s.take e.toNat ++ (ix al i).drop e.toNat) (hs.at j hj) ⟨h0, h1⟩ (fun c0 hr hc0 => by
    have hget : ∀ dd, al.getD i.toNat dd = ix al i := fun dd => by rw [ix_get (by omega), List.getD_eq_getElem?_getD, List.getElem?_eq_getElem (by omega)]; rfl
    rw [hget] at hr
    obtain ⟨rfl, hl0⟩ := hr
    refine ⟨by simp [dArr]; omega, ?_, by simp [hl0]; omega⟩
    have hsp := splice_append ((s.take e.toNat).map bv) [] (((ix al i).take e.toNat).map bv) (((ix al i).drop e.toNat).map bv) (by simp; omega)
    rw [List.nil_append, ← List.map_append, List.take_append_drop] at hsp
    simp only [List.length_nil, List.nil_append] at hsp
    rw [hsp, List.map_append]) (bv_plain _) (hs.nz j hj)
  refine WL_valW rfl rfl hn fun w1 hw => ?_
  obtain ⟨kk, rfl⟩ := hw
  obtain ⟨w', hr, ho', he', hsz', hk'⟩ := storeCells_run (P := P) ((s.take e.toNat).map bv) (i.toNat * sz) 0 C w hown (by have := hroom; simp only [dArr] at this; omega) (by have := bv_plain (s.take e.toNat); rwa [List.all_eq_true] at this)
  refine ⟨.int .i64 e, { w' with drawn := kk }, w', ?_, ⟨kk, rfl⟩, K w' (hs.upd j hj he' (hk w' he' (by simpa [dArr] using ho')) sAc (fun x hx => ⟨.inl hx, by have := hs.lt j hj x hx; have := he'.size; omega⟩) rfl)⟩
  have hcells : Cells { w with drawn := kk } b 0 ((s.take e.toNat).map bv) := (ho.cells 0 _ ((s.drop e.toNat).map bv) (by rw [List.drop_zero, ← List.map_append, List.take_append_drop])).sim ⟨kk, rfl⟩
  have hload := loadCells_run (P := P) hcells
  have hl2 : ((s.take e.toNat).map bv).length = e.toNat := by simp; omega
  rw [hl2] at hload
  have : (#[x, y] : Array Operand).map (ev f) = #[ev f x, ev f y] := by simp
  simp only [execOp, resolve, invoke, builtin, Sem.run_bind, Sem.run_pure, Result.andThen_ok, this, hx, hy, Builtin.copy_, List.getElem?_toArray, List.getElem?_cons_zero, List.getElem?_cons_succ, hT, Builtin.lenOf, hE]
  have hmin : Nat.min e.toNat sz = e.toNat := by show min _ _ = _; omega
  simp only [hmin, Builtin.firstCells, Nat.mul_one, hload, Result.andThen_ok, List.toList_toArray]
  have ha : eA (some ⟨b', 0, none⟩) (i.toNat * sz) = ⟨b', i.toNat * sz, none⟩ := by simp [eA]
  rw [ha, hk' kk]
  simp [go_sem, goInt, Int.toNat_of_nonneg he.1]
/-- Bytes to a string. -/
theorem S_bytesStr {U : TypeId} (hS : ∀ w, (underlying S).run P w = .ok (.slice E) w) (hT : ∀ w, (underlying T).run P w = .ok .string w) (hE : ∀ w, (underlying E).run P w = .ok (.int .u8) w) (h : Src dByte Z w (ev f x) s) (hn : Nat.blt d n = true) (K : WL P m n ops Q rest (upd f d (sv s)) w) :
    WL P m n ops Q (⟨some d, .convert S T x, U, pos, after, none⟩ :: rest) f w :=
  WL_val rfl rfl hn (v := sv s) (fun w1 hs => by
    obtain ⟨A, cap, hv, cs, hcl, hcr, hrow⟩ := h
    have hflat : cs.flatten = s.map bv := by
      apply List.ext_getElem?
      intro j
      have hsz : ∀ c ∈ cs, c.length = 1 := fun c hc => by
        obtain ⟨i, hi, rfl⟩ := List.getElem_of_mem hc
        exact dByte.len (hcr i (by omega) hi)
      have e := flat_get hsz j 0 (by omega)
      simp only [Nat.mul_one, Nat.add_zero] at e
      rw [e, List.getElem?_map]
      by_cases hj : j < s.length
      · have hr : cs[j]'(by omega) = [bv s[j]] := hcr j hj (by omega)
        rw [List.getElem?_eq_getElem (by omega), hr, List.getElem?_eq_getElem hj]; rfl
      · rw [List.getElem?_eq_none (by omega), List.getElem?_eq_none (by omega)]; rfl
    simp only [execOp, hv, convert, Sem.run_bind, hS, hT, hE, Result.andThen_ok]
    have hfold := bytes_run (P := P) s ByteArray.empty w1
    rcases A with _ | a
    · rcases hrow with h0 | ⟨b, o, h0, _⟩
      · subst h0; simp [Conv.bytesToString, go_sem, sv]; rfl
      · cases h0
    · rcases hrow with h0 | ⟨b, o, h0, hc⟩
      · subst h0; simp [Conv.bytesToString, go_sem, sv, loadCells, loadCellsFrom]; rfl
      · simp at h0; subst h0
        have hload := loadCells_run (P := P) (hc.sim hs)
        rw [hflat, List.length_map] at hload
        simp only [Conv.bytesToString, Sem.run_bind, hload, Result.andThen_ok]
        have h2 : Sem.run P (forIn (List.map bv s).toArray ByteArray.empty fun c __s => match c with | Value.int IntKind.u8 n => pure (ForInStep.yield (__s.push (UInt8.ofNat n.toNat))) | x => do { stuck "bytesToString: byte expected"; pure (ForInStep.yield __s) }) w1 = .ok (ByteArray.empty ++ ⟨s.toArray⟩) w1 := by
          rw [List.forIn_toArray]; exact hfold
        refine Eq.trans (congrArg (fun r => (Result.andThen r fun a w' => Sem.run P (pure (Value.string a)) w').andThen fun a w' => Sem.run P (pure (Next.value a)) w') h2) ?_
        have : ByteArray.empty ++ (⟨s.toArray⟩ : ByteArray) = ⟨s.toArray⟩ := by apply ByteArray.ext; simp
        simp [go_sem, sv, this]) K
theorem S_convI {U : TypeId} {k2 : IntKind} {a : Int} {dk : TypeDesc} (hS : ∀ w, (underlying S).run P w = .ok dk w) (hT : ∀ w, (underlying T).run P w = .ok (.int k2) w) (hx : ev f x = .int k a) (hn : Nat.blt d n = true) (K : WL P m n ops Q rest (upd f d (.int k2 (k2.wrap a))) w) :
    WL P m n ops Q (⟨some d, .convert S T x, U, pos, after, none⟩ :: rest) f w :=
  WL_val rfl rfl hn (v := .int k2 (k2.wrap a)) (fun _ _ => by simp [execOp, hx, convert, hS, hT, Conv.intToInt, go_sem]) K
theorem u8_wrap (a : Int) : Value.int .u8 (IntKind.u8.wrap a) = bv (UInt8.ofInt a) := by
  unfold bv
  congr 1
  have h1 : IntKind.u8.wrap a = a % 256 := by simp [IntKind.wrap, IntKind.bits, IntKind.signed]
  rw [h1]
  have h2 : (UInt8.ofInt a).toNat = (a % 256).toNat := by
    simp [UInt8.ofInt, UInt8.toNat_ofNat']
    omega
  rw [h2]; omega
theorem S_convB {U : TypeId} {a : Int} {dk : TypeDesc} (hS : ∀ w, (underlying S).run P w = .ok dk w) (hT : ∀ w, (underlying T).run P w = .ok (.int .u8) w) (hx : ev f x = .int k a) (hn : Nat.blt d n = true) (K : WL P m n ops Q rest (upd f d (bv (UInt8.ofInt a))) w) :
    WL P m n ops Q (⟨some d, .convert S T x, U, pos, after, none⟩ :: rest) f w :=
  S_convI hS hT hx hn (by rw [u8_wrap]; exact K)
end
/-! ### Parts that a call only reads -/
abbrev iOwnF (b : Nat) (T : TypeId) (cs : List Value) : It := ⟨[], [], fun Z w => Z b ∧ Own w b T cs⟩
abbrev iMapF {κ : Type} (ky : Key κ) (b : Nat) (L : List (κ × Value)) : It := ⟨[], [], fun Z w => Z b ∧ MapAt ky w b L⟩
abbrev iAcF {α : Type} (r : Rd α) (v : Value) (l : List α) : It := ⟨[], [], fun Z w => ∃ bs, (∀ b ∈ bs, Z b) ∧ Ac r Z w v l bs⟩
theorem sOwnF {b : Nat} {T : TypeId} {cs : List Value} : (iOwnF b T cs).Stab := fun Z Z' B w w' h e hB hZ => ⟨hZ _ h.1, h.2.ext e (fun hm => by have := hB b hm (.inr h.1); have := Own.lt h.2; omega)⟩
theorem sMapF {κ : Type} {ky : Key κ} {b : Nat} {L : List (κ × Value)} : (iMapF ky b L).Stab := fun Z Z' B w w' h e hB hZ => ⟨hZ _ h.1, h.2.ext e (fun hm => by have := hB b hm (.inr h.1); have := MapAt.lt h.2; omega)⟩
theorem sAcF {α : Type} {r : Rd α} {v : Value} {l : List α} : (iAcF r v l).Stab := fun Z Z' B w w' ⟨bs, hb, h⟩ e hB hZ => ⟨bs, fun b hm => hZ b (hb b hm), h.stab e (fun b hm hz => hB b hm (.inr (hz.elim (hb b) id))) hZ⟩
/-- Ranging over a map that is only read. -/
abbrev iIterF {κ : Type} (ky : Key κ) (it b : Nat) (L D : List (κ × Value)) : It := ⟨[it], [], fun Z w => Z b ∧ Iter ky w it b L D⟩
theorem sIterF {κ : Type} {ky : Key κ} {it b : Nat} {L D : List (κ × Value)} : (iIterF ky it b L D).Stab := fun Z Z' B w w' h e hB hZ => ⟨hZ _ h.1, Iter.ext h.2 e (fun hm => by have := hB b hm (.inr h.1); have := MapAt.lt (Iter.map h.2); omega) (fun hm => by have := hB it hm (.inl (by simp)); have := Iter.lt h.2; omega)⟩
section
variable {P : Program} {n : Nat} {ops : List Oper} {Q : Exit → Fr → World → Prop} {rest : List Oper} {f : Fr} {w w0 : World} {d : Nat} {Z : Nat → Prop} {B0 : List Nat} {L : List It}
variable {ty T E Kt : TypeId} {pos : String} {after : Array Edge} {x y : Operand} {b it : Nat} {α κ : Type} {ky : Key κ} {enc : α → Value} {am : List (κ × α)}
theorem Z_rangeF (hs : Sep B0 w0 Z w L) (j : Nat) (hj : L[j]? = some (iMapF ky b (emap enc am))) (hT : ∀ w, (underlying T).run P w = .ok (.map Kt E) w) (hx : ev f x = .map (some b)) (hn : Nat.blt d n = true)
    (K : ∀ it w', Sep B0 w0 Z w' (iIterF ky it b (emap enc am) (emap enc []) :: L) → WL P false n ops Q rest (upd f d (.pointer (some ⟨it, 0, none⟩))) w') :
    WL P false n ops Q (⟨some d, .range T x, ty, pos, after, none⟩ :: rest) f w :=
  S_range hT hx (hs.at j hj).2 hn fun it w' e h1 h2 hi => K it w' (hs.add e ⟨(hs.at j hj).1, hi⟩ sIterF (fun x hx => by simp at hx; subst hx; omega) rfl)
theorem Z_nextF [DecidableEq κ] {dm : List (κ × α)} {N : TypeId} (hs : Sep B0 w0 Z w L) (j : Nat) (hj : L[j]? = some (iIterF ky it b (emap enc am) (emap enc dm))) (hx : ev f x = .pointer (some ⟨it, 0, none⟩)) (hn : Nat.blt d n = true)
    (K1 : ∀ k v w', (k, v) ∈ am → k ∉ dm.map (·.1) → Sep B0 w0 Z w' (L.set j (iIterF ky it b (emap enc am) (emap enc (dm ++ [(k, v)])))) → WL P false n ops Q rest (upd f d (.tuple #[.bool true, ky.enc k, enc v])) w')
    (K2 : (∀ k, k ∈ am.map (·.1) → k ∈ dm.map (·.1)) → WL P false n ops Q rest (upd f d (.tuple #[.bool false])) w) :
    WL P false n ops Q (⟨some d, .next x false, N, pos, after, none⟩ :: rest) f w := by
  refine S_next hx (hs.at j hj).2 hn ?_ ?_
  · intro k v w' hm _ hk e h1 hi
    obtain ⟨⟨k', v'⟩, hm', e'⟩ := List.mem_map.1 hm
    simp only [Prod.mk.injEq] at e'
    obtain ⟨rfl, rfl⟩ := e'
    rw [emap_keys] at hk
    refine K1 k' v' w' hm' hk (hs.upd j hj e ⟨(hs.at j hj).1, by simpa [emap] using hi⟩ sIterF (fun x hx => ⟨.inl hx, by have := hs.lt j hj x hx; have := e.size; omega⟩) rfl)
  · intro h
    refine K2 fun k hk => ?_
    obtain ⟨⟨k', v'⟩, hm, rfl⟩ := List.mem_map.1 hk
    have := h (k', enc v') (List.mem_map.2 ⟨(k', v'), hm, rfl⟩)
    obtain ⟨⟨k2, v2⟩, h2, e⟩ := List.mem_map.1 this
    simp only [Prod.mk.injEq] at e
    exact List.mem_map.2 ⟨(k2, v2), h2, e.1⟩
end
end Go.Wl
end
section
namespace Go.Wl
open Go Go.Wk

def srt (l : List Int) : List Int := l.mergeSort fun x y => decide (x ≤ y)
theorem srt_len (l : List Int) : (srt l).length = l.length := (List.mergeSort_perm l _).length_eq
theorem srt_mem {l : List Int} {x : Int} : x ∈ srt l ↔ x ∈ l := (List.mergeSort_perm l _).mem_iff
theorem srt_le (l : List Int) : (srt l).Pairwise (· ≤ ·) := by
  have h := List.pairwise_mergeSort (le := fun x y : Int => decide (x ≤ y)) (fun a b c h1 h2 => by simp at *; omega) (fun a b => by simp; omega) l
  exact h.imp fun h => by simpa using h
theorem srt_nodup {l : List Int} (h : l.Nodup) : (srt l).Nodup := (List.mergeSort_perm l _).nodup_iff.2 h
theorem srt_lt {l : List Int} (h : l.Nodup) : (srt l).Pairwise (· < ·) := by
  have h1 := srt_le l
  have h2 : (srt l).Pairwise (· ≠ ·) := srt_nodup h
  exact (h1.and h2).imp fun ⟨a, b⟩ => by omega

theorem sort_ac {P : Program} {K : FuncId} (hN : ∀ (p : Option Addr) (cap : Nat) (w : World), Calls P K #[.slice p 0 cap] w fun e w' => e = .returned (.tuple #[]) ∧ w' = w)
    (hS : ∀ (blk off cap : Nat) (zs : List Int) (w : World), Sort.Holds (Value.int .i64) w blk off zs.toArray → blk < w.heap.size → zs.length < 4611686018427387904 →
      Calls P K #[.slice (some ⟨blk, off, none⟩) zs.length cap] w fun e w' => e = .returned (.tuple #[]) ∧ ∃ n os, w' = Sort.grow (Sort.putRow (Value.int .i64) (Sort.ahead w n) blk off (zs.mergeSort fun x y => decide (x ≤ y)).toArray) os)
    {Z : Nat → Prop} {bs : List Nat} {w : World} {v : Value} {l : List Int} (h : Ac dInt Z w v l bs) (hl : l.length < 4611686018427387904) :
    CallR P K [v] w fun _ w' => Ac dInt Z w' v (srt l) bs ∧ Ext bs w w' := by
  intro w1 hs
  obtain ⟨k, rfl⟩ := hs
  rcases h with ⟨rfl, rfl, rfl⟩ | ⟨b, cap, C, T, rfl, rfl, ho, hC, hle, hc⟩
  · refine Calls.mono (hN none 0 _) ?_
    rintro e w2 ⟨rfl, rfl⟩
    exact ⟨_, w, rfl, ⟨k, rfl⟩, .inl ⟨rfl, by simp [srt], rfl⟩, Ext.refl _ _⟩
  · have hget : ∀ i (h : i < l.length), C[i]? = some (.int .i64 l[i]) ∧ InI l[i] := by
      intro i hi
      obtain ⟨c, h1, h2, h3⟩ := hc i hi
      have := h2 0 (by simp [dInt])
      simp only [dInt, Nat.mul_one, Nat.add_zero] at this h3
      rw [this, h3.1]; exact ⟨rfl, h3.2⟩
    have hlt := ho.lt
    refine Calls.mono (hS b 0 cap l { w with drawn := k } (fun j hj => ?_) hlt hl) ?_
    · have hj' : j < l.length := by simpa using hj
      constructor
      · simp only [World.cell?, show ({ w with drawn := k } : World).heap[b]? = _ from ho]
        simp [(hget j hj').1, hj']
      · simp [World.frozen?, show ({ w with drawn := k } : World).heap[b]? = _ from ho]
    · rintro e w2 ⟨rfl, n, os, rfl⟩
      have hh : (Sort.grow (Sort.putRow (Value.int .i64) (Sort.ahead w n) b 0 (srt l).toArray) os).heap[b]? = some (.cells (Sort.putCells (Value.int .i64) 0 (srt l).toArray C.toArray) T (0, 0)) := by
        rw [Sort.heap_grow_old _ _ (by simpa using hlt)]
        simp only [Sort.putRow, Sort.mapBlock, Sort.ahead, Array.getElem?_modify, if_true]
        rw [show w.heap[b]? = _ from ho]; rfl
      have hsz : C.length = cap := by simpa [dInt] using hC
      have ho' : Own (Sort.grow (Sort.putRow (Value.int .i64) (Sort.ahead w n) b 0 (srt l).toArray) os) b T (Sort.putCells (Value.int .i64) 0 (srt l).toArray C.toArray).toList := by
        show _ = _
        rw [hh]
      refine ⟨_, Sort.grow (Sort.putRow (Value.int .i64) (Sort.ahead w n) b 0 (srt l).toArray) os, rfl, ⟨k + n, rfl⟩, .inr ⟨b, cap, _, T, by rw [srt_len], rfl, ho', ?_, by rw [srt_len]; exact hle, ?_⟩, ⟨rfl, rfl, rfl, ?_, ?_⟩⟩
      · simp [Sort.putCells, dInt, hsz]
      · intro i hi
        have hi' : i < l.length := by rw [← srt_len]; exact hi
        refine ⟨[.int .i64 (srt l)[i]], rfl, fun j hj => ?_, rfl, ?_⟩
        · have : j = 0 := by simp [dInt] at hj; omega
          subst this
          have hci : i < C.length := by omega
          simp [Sort.putCells, dInt, Array.getElem?_mapIdx, hci, hi]
        · obtain ⟨j, hj, e⟩ := List.getElem_of_mem (srt_mem.1 (List.getElem_mem hi))
          rw [← e]; exact (hget j hj).2
      · simp [Sort.ahead]
      · intro x hx hn
        have hne : x ≠ b := by simpa using hn
        rw [Sort.heap_grow_old _ _ (by simpa using hx)]
        simp only [Sort.putRow, Sort.mapBlock, Sort.ahead, Array.getElem?_modify]
        rw [if_neg (Ne.symm hne)]
theorem Sep.sorted {B0 : List Nat} {w0 w w' : World} {Z : Nat → Prop} {L : List It} {v : Value} {l : List Int} {bs O : List Nat} (hs : Sep B0 w0 Z w L) (k : Nat) (hk : L[k]? = some (iAc dInt v l bs O)) (h : Ac dInt Z w' v (srt l) bs) (e : Ext bs w w') : Sep B0 w0 Z w' (L.set k (iAc dInt v (srt l) bs O)) :=
  hs.upd k hk e h sAc (fun b hb => ⟨.inl hb, h.lt b hb⟩) rfl
end Go.Wl
end
section
namespace Go.Wl
open Go Go.Wk

abbrev feetOf (ts : List It) : List Nat := ts.flatMap (·.F)
theorem pw_of_nodup : ∀ {ts : List It}, (feetOf ts).Nodup → ts.Pairwise (fun a b => ∀ x ∈ a.F, x ∉ b.F)
  | [], _ => List.Pairwise.nil
  | t :: ts, h => by
    have h : (t.F ++ feetOf ts).Nodup := h
    rw [List.nodup_append] at h
    refine List.Pairwise.cons (fun u hu x hx hx' => ?_) (pw_of_nodup h.2.1)
    exact h.2.2 x hx x (List.mem_flatMap.2 ⟨u, hu, hx'⟩) rfl
theorem nodup_of_pw : ∀ {ts : List It}, (∀ u ∈ ts, u.F.Nodup) → ts.Pairwise (fun a b => ∀ x ∈ a.F, x ∉ b.F) → (feetOf ts).Nodup
  | [], _, _ => List.nodup_nil
  | t :: ts, hn, hp => by
    show (t.F ++ feetOf ts).Nodup
    rw [List.nodup_append]
    cases hp with
    | cons h1 h2 =>
      refine ⟨hn t (by simp), nodup_of_pw (fun u hu => hn u (by simp [hu])) h2, fun a ha b hb e => ?_⟩
      subst e
      obtain ⟨u, hu, hx⟩ := List.mem_flatMap.1 hb
      exact h1 u hu a ha hx
section
variable {B0 : List Nat} {w0 w : World} {Z : Nat → Prop} {l ts r : List It} {t : It} {F : List Nat}
theorem Sep.openL (hs : Sep B0 w0 Z w (t :: l)) (ts : List It) (hF : t.F = feetOf ts) (hn : t.F.Nodup) (hp : ∀ u ∈ ts, u.P Z w ∧ u.Stab ∧ u.O = t.O) : Sep B0 w0 Z w (ts ++ l) :=
  Sep.split hs (fun u hu => ⟨(hp u hu).1, (hp u hu).2.1, fun b hb => by rw [hF]; exact List.mem_flatMap.2 ⟨u, hu, hb⟩, (hp u hu).2.2⟩) (pw_of_nodup (by rw [← hF]; exact hn))
theorem Sep.closeL (hs : Sep F w0 Z w (ts ++ r)) (hn : ∀ u ∈ ts, u.F.Nodup) : (feetOf ts).Nodup ∧ Turn w0 w F (feetOf ts) := by
  have get : ∀ (j : Nat) (u : It), ts[j]? = some u → (ts ++ r)[j]? = some u := fun j u h => by
    have : j < ts.length := by rcases Nat.lt_or_ge j ts.length with h' | h'; exact h'; rw [List.getElem?_eq_none h'] at h; cases h
    rw [List.getElem?_append_left this]; exact h
  refine ⟨nodup_of_pw hn (List.pairwise_iff_getElem.2 fun i j hi hj hij => hs.apart i j _ _ (get i _ (List.getElem?_eq_getElem hi)) (get j _ (List.getElem?_eq_getElem hj)) (by omega)), hs.ext, fun b hb => ?_⟩
  obtain ⟨u, hu, hx⟩ := List.mem_flatMap.1 hb
  obtain ⟨j, hj, rfl⟩ := List.getElem_of_mem hu
  have ok := hs.ok j _ (get j _ (List.getElem?_eq_getElem hj))
  exact (ok.org b hx).imp (ok.org0 b) id
/-- The parts at first, of several things that lie apart. -/
theorem Sep.giveL (zlt : ∀ b, Z b → b < w0.heap.size) (ts : List It) (hn : (feetOf ts).Nodup) (hp : ∀ u ∈ ts, u.P Z w0 ∧ u.Stab ∧ u.O = u.F ∧ ∀ b ∈ u.F, b < w0.heap.size ∧ ¬ Z b ∧ b ∈ B0) : Sep B0 w0 Z w0 ts :=
  ⟨Ext.refl _ _, zlt, fun k u hk => by
    obtain ⟨h1, h2, h3, h4⟩ := hp u (List.mem_of_getElem? hk)
    exact ⟨h1, h2, fun b hb => (h4 b hb).1, fun b hb => (h4 b hb).2.1, fun b hb => .inl (by rw [h3]; exact hb), fun b hb => (h4 b (by rw [← h3]; exact hb)).2.2⟩,
   fun j k s u hj hk hne => by
    have pw := List.pairwise_iff_getElem.1 (pw_of_nodup hn)
    have hj' : j < ts.length := by rcases Nat.lt_or_ge j ts.length with h' | h'; exact h'; rw [List.getElem?_eq_none h'] at hj; cases hj
    have hk' : k < ts.length := by rcases Nat.lt_or_ge k ts.length with h' | h'; exact h'; rw [List.getElem?_eq_none h'] at hk; cases hk
    rw [List.getElem?_eq_getElem hj'] at hj; rw [List.getElem?_eq_getElem hk'] at hk
    cases hj; cases hk
    rcases Nat.lt_or_gt_of_ne hne with h | h
    · exact pw j k hj' hk' h
    · exact fun b hb hb' => pw k j hk' hj' h b hb' hb⟩
end
theorem Ac.nd {α : Type} {r : Rd α} {Z : Nat → Prop} {w : World} {v : Value} {l : List α} {bs : List Nat} (h : Ac r Z w v l bs) : bs.Nodup := by
  rcases h with ⟨_, _, rfl⟩ | ⟨b, _, _, _, _, rfl, _⟩ <;> simp
theorem nd1 {b : Nat} : ([b] : List Nat).Nodup := by simp
/-- A thing that is only read. -/
abbrev iObF {α : Type} (o : Ob α) (x : α) (F : List Nat) : It := ⟨[], [], fun Z w => (∀ b ∈ F, Z b) ∧ o.is Z w x F⟩
theorem sObF {α : Type} {o : Ob α} {x : α} {F : List Nat} : (iObF o x F).Stab := fun Z Z' B w w' h e hB hZ => ⟨fun b hb => hZ b (h.1 b hb), o.stab Z Z' B w w' h.2 e (fun b hb hq => hB b hb (.inr (hq.elim (h.1 b) id))) hZ⟩
/-- A slice of the call's own that is let go: none in its place. -/
theorem Sep.nilAc {B0 : List Nat} {w0 w : World} {Z : Nat → Prop} {L : List It} {α : Type} {r : Rd α} {v : Value} {l : List α} {bs O : List Nat} (hs : Sep B0 w0 Z w L) (k : Nat) (hk : L[k]? = some (iAc r v l bs O)) : Sep B0 w0 Z w (L.set k (iAc r (.slice none 0 0) [] [] O)) :=
  hs.upd k hk (Ext.refl _ _) Ac.nil sAc (fun b hb => by cases hb) rfl
section
variable {P : Program} {m : Bool} {n : Nat} {ops : List Oper} {Q : Exit → Fr → World → Prop} {rest : List Oper} {f : Fr} {w : World} {d : Nat} {ty T : TypeId} {pos : String} {after : Array Edge} {x : Operand} {s : Str} {v v' : Value}
theorem S_sliceLo {lo : Operand} {a : Int} (hT : ∀ w, (underlying T).run P w = .ok .string w) (hx : ev f x = sv s) (hlo : ev f lo = .int .i64 a) (h0 : 0 ≤ a ∧ a ≤ s.length) (hn : Nat.blt d n = true)
    (K : WL P m n ops Q rest (upd f d (sv (s.drop a.toNat))) w) : WL P m n ops Q (⟨some d, .slice T x (some lo) none none, ty, pos, after, none⟩ :: rest) f w :=
  S_sliceT (a := a) (e := s.length) hT hx hlo rfl ⟨h0.1, h0.2, Int.le_refl _⟩ hn (by rw [show ((s.length : Nat) : Int).toNat = s.length from rfl, List.take_length]; exact K)
theorem S_sliceHi {hi : Operand} {e : Int} (hT : ∀ w, (underlying T).run P w = .ok .string w) (hx : ev f x = sv s) (hhi : ev f hi = .int .i64 e) (h0 : 0 ≤ e ∧ e ≤ s.length) (hn : Nat.blt d n = true)
    (K : WL P m n ops Q rest (upd f d (sv (s.take e.toNat))) w) : WL P m n ops Q (⟨some d, .slice T x none (some hi) none, ty, pos, after, none⟩ :: rest) f w :=
  S_sliceT (a := 0) (e := e) hT hx rfl hhi ⟨by omega, h0.1, h0.2⟩ hn K
/-- The value that was put, in other words. -/
theorem WL_conv (h : v = v') (K : WL P m n ops Q rest (upd f d v') w) : WL P m n ops Q rest (upd f d v) w := by rw [h]; exact K
end
section
variable {P : Program} {m : Bool} {n : Nat} {ops : List Oper} {Q : Exit → Fr → World → Prop} {rest : List Oper} {f : Fr} {w : World} {d : Nat} {ty T T' : TypeId} {pos : String} {after : Array Edge} {x y : Operand} {a b : UInt8}
theorem u8_add (a b : UInt8) : Value.int .u8 (IntKind.u8.wrap ((a.toNat : Int) + (b.toNat : Int))) = bv (a + b) := by
  rw [u8_wrap]
  congr 1
  apply UInt8.toNat_inj.1
  simp [UInt8.ofInt, UInt8.toNat_ofNat', UInt8.toNat_add]
  omega
theorem S_addB (hx : ev f x = bv a) (hy : ev f y = bv b) (hn : Nat.blt d n = true) (K : WL P m n ops Q rest (upd f d (bv (a + b))) w) :
    WL P m n ops Q (⟨some d, .binOp .add T x y T', ty, pos, after, none⟩ :: rest) f w :=
  S_addw hx hy hn (by rw [u8_add]; exact K)
end
/-- A call with two kinds of answers. -/
theorem S_callOr {P : Program} {n : Nat} {ops : List Oper} {Q : Exit → Fr → World → Prop} {rest : List Oper} {f : Fr} {w : World} {d : Nat} {ty : TypeId} {pos : String} {after : Array Edge} {X Y : Type} {v1 : X → Value} {v2 : Y → Value} {R1 : X → World → Prop} {R2 : Y → World → Prop} {Kf : FuncId} {xs : Array Operand} {Ts : Array TypeId} {args : List Value} (hK : ∀ ars w, (callFunc Kf ars).run P w = .ok (.enter Kf ars) w) (ha : xs.toList.map (ev f) = args)
    (hc : CallR P Kf args w (fun v w' => (∃ x, v = v1 x ∧ R1 x w') ∨ (∃ y, v = v2 y ∧ R2 y w'))) (hn : Nat.blt d n = true) (K1 : ∀ x w', R1 x w' → WL P false n ops Q rest (upd f d (v1 x)) w') (K2 : ∀ y w', R2 y w' → WL P false n ops Q rest (upd f d (v2 y)) w') :
    WL P false n ops Q (⟨some d, .call ⟨.value (.func Kf), xs, Ts⟩, ty, pos, after, none⟩ :: rest) f w :=
  S_call hK ha hc hn fun _ _ h => h.elim (fun ⟨x, h1, h2⟩ => by rw [h1]; exact K1 x _ h2) (fun ⟨y, h1, h2⟩ => by rw [h1]; exact K2 y _ h2)
/-- Parts taken ars one. -/
theorem Sep.join {B0 : List Nat} {w0 w : World} {Z : Nat → Prop} {l ts : List It} (hs : Sep B0 w0 Z w (ts ++ l)) (t : It) (hF : t.F = feetOf ts) (h : t.P Z w) (st : t.Stab) (hO : ∀ u ∈ ts, ∀ b ∈ u.O, b ∈ t.O) (h0 : ∀ b ∈ t.O, b ∈ B0) : Sep B0 w0 Z w (t :: l) := by
  have get : ∀ (j : Nat) (u : It), ts[j]? = some u → (ts ++ l)[j]? = some u := fun j u h => by
    have : j < ts.length := by rcases Nat.lt_or_ge j ts.length with h' | h'; exact h'; rw [List.getElem?_eq_none h'] at h; cases h
    rw [List.getElem?_append_left this]; exact h
  have getl : ∀ (j : Nat) (u : It), l[j]? = some u → (ts ++ l)[ts.length + j]? = some u := fun j u h => by
    rw [List.getElem?_append_right (by omega)]; rw [show ts.length + j - ts.length = j by omega]; exact h
  have of : ∀ b ∈ t.F, ∃ (j : Nat) (u : It), j < ts.length ∧ (ts ++ l)[j]? = some u ∧ u ∈ ts ∧ b ∈ u.F := fun b hb => by
    rw [hF] at hb
    obtain ⟨u, hu, hx⟩ := List.mem_flatMap.1 hb
    obtain ⟨j, hj, rfl⟩ := List.getElem_of_mem hu
    exact ⟨j, _, hj, get j _ (List.getElem?_eq_getElem hj), List.getElem_mem hj, hx⟩
  refine ⟨hs.ext, hs.zlt, fun k u hk => ?_, fun j k s u hj hk hne => ?_⟩
  · cases k with
    | zero =>
      simp at hk; subst hk
      refine ⟨h, st, fun b hb => ?_, fun b hb => ?_, fun b hb => ?_, h0⟩
      · obtain ⟨j, u, _, h1, _, h2⟩ := of b hb; exact (hs.ok j u h1).lt b h2
      · obtain ⟨j, u, _, h1, _, h2⟩ := of b hb; exact (hs.ok j u h1).notZ b h2
      · obtain ⟨j, u, _, h1, hm, h2⟩ := of b hb; exact ((hs.ok j u h1).org b h2).imp (hO u hm b) id
    | succ k => exact hs.ok _ u (getl k u (by simpa using hk))
  · cases j with
    | zero =>
      cases k with
      | zero => exact absurd rfl hne
      | succ k =>
        simp at hj hk; subst hj
        intro b hb hb'
        obtain ⟨i, v, hi, h1, _, h2⟩ := of b hb
        exact hs.apart i _ v u h1 (getl k u hk) (by omega) b h2 hb'
    | succ j =>
      cases k with
      | zero =>
        simp at hj hk; subst hk
        intro b hb hb'
        obtain ⟨i, v, hi, h1, _, h2⟩ := of b hb'
        exact hs.apart _ i s v (getl j s hj) h1 (by omega) b hb h2
      | succ k => exact hs.apart _ _ s u (getl j s (by simpa using hj)) (getl k u (by simpa using hk)) (by omega)
end Go.Wl
end
section
namespace Go.Wl
open Go Go.Wk Go.ChangeShapes Go.WideShapes Go.RowKit
def OpensD {α : Type} (P : Program) (t : TypeId) (r : Rd α) : Prop :=
  ∀ {H : Type} {enc : TypeId × Value → H} {fuel : Nat} {w : World} {sp : Nat → Bool} {cs : List Value} {x : DataW H × List MemPlace}, DataW.trod enc P w 0 sp true fuel t cs = some x → ∃ y, r.rd (fun _ => True) w cs y
section
variable {P : Program} {t e : TypeId}
theorem opensD_int (ht : P.underlying t = some (.int .i64)) : OpensD P t dInt := fun h => by
  obtain ⟨n, rfl, _, hw⟩ := DataW.trod_int ht h
  exact ⟨n, rfl, inI_wf hw⟩
theorem opensD_byte (ht : P.underlying t = some (.int .u8)) : OpensD P t dByte := fun h => by
  obtain ⟨y, e⟩ := opens_byte ht h
  exact ⟨y, e⟩
theorem opensD_bool (ht : P.underlying t = some .bool) : OpensD P t dBool := fun h => by
  obtain ⟨b, rfl, _⟩ := DataW.trod_bool ht h
  exact ⟨b, rfl⟩
theorem opensD_str (ht : P.underlying t = some .string) : OpensD P t dStr := fun h => by
  obtain ⟨y, e⟩ := opens_str ht h
  exact ⟨y, e⟩
theorem opensD_slice {α : Type} {r : Rd α} (ht : P.underlying t = some (.slice e)) (hsz : P.cellsOf e = r.sz) (hp : 0 < r.sz) (ho : OpensD P e r) : OpensD P t (dSlice r) := fun {H enc fuel w sp cs x} h => by
  rcases DataW.trod_slice ht h with ⟨rfl, _⟩ | ⟨a, len, cap, elems, rest, n, _, rfl, _, _, hlc, hcm, hel, hget, _⟩
  · exact ⟨[], dSlice_nil⟩
  · have each : ∀ i, i < len → ∃ c y, Cells w a.block (a.off + i * r.sz) c ∧ r.rd (fun _ => True) w c y ∧ a.spot = none := by
      intro i hi
      have h1 := hget i hi
      rw [List.getElem?_eq_getElem (by omega)] at h1
      simp only [Option.bind_eq_some_iff] at h1
      obtain ⟨c, hc, hx⟩ := h1
      obtain ⟨y, hy⟩ := ho hx
      rw [hsz] at hc
      have hc' := cells_of hp hc
      have hs0 : a.spot = none := by
        have h0 := hget 0 (by omega)
        rw [List.getElem?_eq_getElem (by omega)] at h0
        simp only [Option.bind_eq_some_iff] at h0
        obtain ⟨c0, hc0, _⟩ := h0
        rw [hsz] at hc0
        have := (cells_of hp hc0).1
        simpa [Addr.add] using this
      refine ⟨c, y, ?_, hy, hs0⟩
      have := hc'.2.2
      unfold Addr.add at this
      split at this
      · rename_i e0
        rw [e0]; exact this
      · exact this
    have each' : ∀ i : Fin len, ∃ y : α, ∃ c, Cells w a.block (a.off + i * r.sz) c ∧ r.rd (fun _ => True) w c y := fun i => by
      obtain ⟨c, y, h1, h2, _⟩ := each i i.2; exact ⟨y, c, h1, h2⟩
    have ⟨f, hf⟩ := Classical.axiomOfChoice each'
    refine ⟨List.ofFn f, ?_, some a, cap, by simp, ⟨fun h => (by cases h), by simpa using hlc⟩, fun i hi => ?_⟩
    · simp [maxLen] at hcm ⊢; omega
    · have hi' : i < len := by simpa using hi
      obtain ⟨c, h1, h2⟩ := hf ⟨i, hi'⟩
      obtain ⟨_, _, _, _, hs0⟩ := each i hi'
      refine ⟨a.block, a.off, c, ?_, trivial, h1, ?_⟩
      · obtain ⟨b, o, s⟩ := a; simp only at hs0; subst hs0; rfl
      · simpa using h2
theorem opensD_arg {α : Type} {r : Rd α} (ho : OpensD P t r) {H : Type} {enc : TypeId × Value → H} {w : World} {sp : Nat → Bool} {v : Value} {d : DataW H} {ps : List MemPlace} (hv : v.cells.toList = [v]) (h : DataW.Trod enc P w 0 sp true t v d ps) : ∃ y, r.rd (fun _ => True) w [v] y := by
  obtain ⟨n, h⟩ := h
  rw [hv] at h
  exact ho h
end
end Go.Wl
end
section
namespace Go.Rx
open Go Go.Wk Go.Wl

structure Ty1 where
  α : Type
  r : Rd α
  i : Inhabited α
structure Ob1 where
  β : Type
  ob : Nat → Ob β
structure Uni where
  tb : Nat → Ty1
  oj : Nat → Ob1
abbrev Uni.U (N : Uni) (t : Nat) : Type := (N.tb t).α
abbrev Uni.O (N : Uni) (k : Nat) : Type := (N.oj k).β
instance Uni.inh (N : Uni) (t : Nat) : Inhabited (N.U t) := (N.tb t).i
/-- An error, ars data. -/
inductive Err
  | nil
  | no (n : Int)
  | fault (a n : Int)
  | w (t : Nat) (s : Str) (e : Err)
  deriving DecidableEq, Inhabited
/-- What is known of a slot. -/
inductive SV (N : Uni) : Type
  | un
  | undef
  | int (k : IntKind) (x : Int)
  | byte (c : UInt8)
  | tt
  | ff
  | bl (p : Prop) (d : Decidable p)
  | str (s : Str)
  | con (v : Value)
  | nils
  | sl (t : Nat) (l : List (N.U t))
  | ref (id off : Nat)
  | acc (id : Nat)
  | el (id t : Nat) (i : Int) (off : Nat)
  | fel (t : Nat) (l : List (N.U t)) (i : Int) (off : Nat)
  | agg (vs : List (SV N))
  | tup (vs : List (SV N))
  | err (e : Err)
  | ifc (t : Nat) (v : SV N)
  | fn (K : Nat)
  | clo (K : Nat) (vs : List (SV N))
/-- What is known of a part of memory. -/
inductive Item (N : Uni) : Type
  | own (T : Nat) (cells : List (SV N))
  | ac (t : Nat) (l : List (N.U t))
  | fz (t : Nat) (l : List (N.U t))
  | ob (k fid : Nat) (x : N.O k)
abbrev Slots (N : Uni) := List (Nat × SV N)
abbrev Items (N : Uni) := List (Nat × Item N)
structure St (N : Uni) where
  slots : Slots N
  gs : List (Nat × Nat × Bool × SV N)
  items : Items N
  nx : Nat
section
variable {β : Type}
def lk : List (Nat × β) → Nat → Option β
  | [], _ => none
  | p :: r, j => bif Nat.beq p.1 j then some p.2 else lk r j
def rmv : List (Nat × β) → Nat → List (Nat × β)
  | [], _ => []
  | p :: r, j => bif Nat.beq p.1 j then r else p :: rmv r j
def upd1 : List (Nat × β) → Nat → β → List (Nat × β)
  | [], _, _ => []
  | p :: r, j, x => bif Nat.beq p.1 j then (p.1, x) :: r else p :: upd1 r j x
end
def cj : List Prop → Prop → Prop
  | [], r => r
  | p :: ps, r => p ∧ cj ps r
def im : List Prop → Prop → Prop
  | [], r => r
  | p :: ps, r => p → im ps r
variable {N : Uni}
def leaves : SV N → List (SV N)
  | .agg vs => vs
  | v => [v]
/-- A constant. -/
def cst0 : Value → SV N
  | .int k n => match k with | .u8 => .byte (UInt8.ofNat n.toNat) | k => .int k n
  | .bool b => match b with | true => .tt | false => .ff
  | .string b => .str b.data.toList
  | .slice none 0 0 => .nils
  | .nilIface => .err .nil
  | v => .con v
def okc : Value → Bool
  | .int k n => match k with | .i64 => decide (-9223372036854775808 ≤ n) && decide (n ≤ 9223372036854775807) | .u8 => decide (0 ≤ n) && decide (n < 256) | _ => true
  | .string b => Nat.ble b.data.toList.length 9223372036854775807
  | .agg _ => false
  | .tuple _ => false
  | _ => true
def cst1 (v : Value) : SV N := bif okc v then cst0 v else .un
def cst : Value → SV N
  | .agg cs => bif cs.toList.all okc then .agg (cs.toList.map cst0) else .un
  | v => cst1 v
/-- What an operation gives that turns nothing: what is to be shown, what is learnt, the value. -/
structure Q1 (N : Uni) where
  ob : List Prop
  hy : List Prop
  v : SV N
def q0 (v : SV N) : Option (Q1 N) := some ⟨[], [], v⟩
abbrev inK (k : IntKind) (x : Int) : Prop := k.min ≤ x ∧ x ≤ k.max
abbrev in64 (x : Int) : Prop := -9223372036854775808 ≤ x ∧ x ≤ 9223372036854775807
def bln (p : Prop) [d : Decidable p] : Option (Q1 N) := some ⟨[], [], .bl p d⟩
def binInt (op : BinOp) (k : IntKind) (a b : Int) : Option (Q1 N) :=
  match op with
  | .add => match k with | .i64 => some ⟨[in64 (a + b)], [], .int .i64 (a + b)⟩ | k => q0 (.int k (k.wrap (a + b)))
  | .sub => match k with | .i64 => some ⟨[in64 (a - b)], [], .int .i64 (a - b)⟩ | k => q0 (.int k (k.wrap (a - b)))
  | .mul => match k with | .i64 => some ⟨[in64 (a * b)], [], .int .i64 (a * b)⟩ | k => q0 (.int k (k.wrap (a * b)))
  | .quo => match k with | .i64 => some ⟨[b ≠ 0, in64 (a.tdiv b)], [], .int .i64 (a.tdiv b)⟩ | k => some ⟨[b ≠ 0], [], .int k (k.wrap (a.tdiv b))⟩
  | .rem => some ⟨[b ≠ 0], [], .int k (a.tmod b)⟩
  | .shr => some ⟨[0 ≤ b], [], .int k (a.fdiv (2 ^ min b.toNat k.bits))⟩
  | .shl => some ⟨[0 ≤ b], [], .int k (k.wrap (a * 2 ^ min b.toNat k.bits))⟩
  | .and => q0 (.int k (k.wrap (BitVec.ofInt k.bits a &&& BitVec.ofInt k.bits b).toNat))
  | .or => q0 (.int k (k.wrap (BitVec.ofInt k.bits a ||| BitVec.ofInt k.bits b).toNat))
  | .xor => q0 (.int k (k.wrap (BitVec.ofInt k.bits a ^^^ BitVec.ofInt k.bits b).toNat))
  | .eql => bln (a = b)
  | .neq => bln (a ≠ b)
  | .lss => bln (a < b)
  | .leq => bln (a ≤ b)
  | .gtr => bln (b < a)
  | .geq => bln (b ≤ a)
  | .andNot => none
def binByte (op : BinOp) (a b : UInt8) : Option (Q1 N) :=
  match op with
  | .add => q0 (.byte (a + b))
  | .sub => q0 (.byte (a - b))
  | .and => q0 (.byte (a &&& b))
  | .eql => bln (a = b)
  | .neq => bln (a ≠ b)
  | .lss => bln (a < b)
  | .leq => bln (a ≤ b)
  | .gtr => bln (b < a)
  | .geq => bln (b ≤ a)
  | _ => none
def binStr (op : BinOp) (a b : Str) : Option (Q1 N) :=
  match op with
  | .add => some ⟨[a.length + b.length ≤ 9223372036854775807], [], .str (a ++ b)⟩
  | .eql => bln (a = b)
  | .neq => bln (a ≠ b)
  | _ => none
def prop : SV N → Option ((p : Prop) ×' Decidable p)
  | .tt => some ⟨True, .isTrue trivial⟩
  | .ff => some ⟨False, .isFalse id⟩
  | .bl p d => some ⟨p, d⟩
  | _ => none
def isShift : BinOp → Bool
  | .shl => true
  | .shr => true
  | _ => false
def binNum (op : BinOp) (k k' : IntKind) (a b : Int) : Option (Q1 N) := bif isShift op then binInt op k a b else (if k = k' then binInt op k a b else none)
def binErr (op : BinOp) (a : Err) : Option (Q1 N) :=
  match op with
  | .eql => bln (a = .nil)
  | .neq => bln (a ≠ .nil)
  | _ => none
def binNil (op : BinOp) (z : Bool) : Option (Q1 N) :=
  match op with
  | .eql => q0 (bif z then .tt else .ff)
  | .neq => q0 (bif z then .ff else .tt)
  | _ => none
def binBool (op : BinOp) (p q : Prop) (_ : Decidable p) (_ : Decidable q) : Option (Q1 N) :=
  match op with
  | .eql => bln (p ↔ q)
  | .neq => bln (¬ (p ↔ q))
  | _ => none
end Go.Rx
end
section
namespace Go.Rx
open Go Go.Wk Go.Wl
structure Loc where
  b : Nat
  A : Option Addr
  n : Nat
  cap : Nat
  bs : List Nat
abbrev Env1 := Nat → Option Loc
/-- Where an error's value leads to: the types that tell it. -/
structure ErrT where
  no : Nat
  fp : Nat
  fs : Nat
  wr : Nat → Option Nat
/-- A value that wraps a number: a text and the number, the number alone, an error, nothing (the number is fixed then). -/
def wval (T : ErrT) (k : Nat) (s : Str) (n : Int) : Value := match k with
  | 0 => .agg #[sv s, .int .i64 n]
  | 1 => .agg #[.int .i64 n]
  | 2 => .agg #[.iface T.no (.int .i64 n)]
  | _ => .agg #[]
inductive RepE (T : ErrT) (Z : Nat → Prop) (w : World) : Value → Err → Prop
  | nil : RepE T Z w .nilIface .nil
  | no {n : Int} (h : InI n) : RepE T Z w (.iface T.no (.int .i64 n)) (.no n)
  | fault {b : Nat} {a n : Int} (hz : Z b) (ho : Own w b T.fs [.int .i64 a, .int .i64 n]) (ha : InI a) (hn : InI n) : RepE T Z w (.iface T.fp (.pointer (some ⟨b, 0, none⟩))) (.fault a n)
  | w {t k : Nat} {s : Str} {n : Int} (ht : T.wr t = some k) (hn : InI n) (hk : 3 ≤ k → n = (k : Int) - 3) : RepE T Z w (.iface t (wval T k s n)) (.w t s (.no n))
/-- A value is ars is known. -/
inductive Rep (N : Uni) (T : ErrT) (ρ : Env1) (Z : Nat → Prop) (w : World) : Value → SV N → Prop
  | un {v : Value} : Rep N T ρ Z w v .un
  | undef : Rep N T ρ Z w Go.undef .undef
  | int {k : IntKind} {x : Int} (h : k = .i64 → InI x) : Rep N T ρ Z w (.int k x) (.int k x)
  | byte {c : UInt8} : Rep N T ρ Z w (bv c) (.byte c)
  | tt : Rep N T ρ Z w (.bool true) .tt
  | ff : Rep N T ρ Z w (.bool false) .ff
  | bl {p : Prop} {d : Decidable p} : Rep N T ρ Z w (.bool (@decide p d)) (.bl p d)
  | str {s : Str} (h : s.length ≤ 9223372036854775807) : Rep N T ρ Z w (sv s) (.str s)
  | con {v : Value} (h : plain1 v = true) : Rep N T ρ Z w v (.con v)
  | nils : Rep N T ρ Z w (.slice none 0 0) .nils
  | sl {v : Value} {t : Nat} {l : List (N.U t)} (h : (dSlice (N.tb t).r).rd Z w [v] l) : Rep N T ρ Z w v (.sl t l)
  | ref {id off : Nat} {L : Loc} (h : ρ id = some L) : Rep N T ρ Z w (.pointer (some ⟨L.b, off, none⟩)) (.ref id off)
  | acc {id : Nat} {L : Loc} (h : ρ id = some L) : Rep N T ρ Z w (.slice L.A L.n L.cap) (.acc id)
  | el {id t off : Nat} {i : Int} {L : Loc} (h : ρ id = some L) (h0 : 0 ≤ i) (h1 : i < L.n) : Rep N T ρ Z w (.pointer (some (eA L.A (i.toNat * (N.tb t).r.sz + off)))) (.el id t i off)
  | fel {t off : Nat} {l : List (N.U t)} {i : Int} {A : Option Addr} {cap : Nat} (h : (dSlice (N.tb t).r).rd Z w [.slice A l.length cap] l) (h0 : 0 ≤ i) (h1 : i < l.length) : Rep N T ρ Z w (.pointer (some (eA A (i.toNat * (N.tb t).r.sz + off)))) (.fel t l i off)
  | agg0 : Rep N T ρ Z w (.agg #[]) (.agg [])
  | agg1 {v : Value} {cs : List Value} {s : SV N} {ss : List (SV N)} (h : Rep N T ρ Z w v s) (hp : plain1 v = true) (r : Rep N T ρ Z w (.agg cs.toArray) (.agg ss)) : Rep N T ρ Z w (.agg (v :: cs).toArray) (.agg (s :: ss))
  | tup0 : Rep N T ρ Z w (.tuple #[]) (.tup [])
  | tup1 {v : Value} {cs : List Value} {s : SV N} {ss : List (SV N)} (h : Rep N T ρ Z w v s) (r : Rep N T ρ Z w (.tuple cs.toArray) (.tup ss)) : Rep N T ρ Z w (.tuple (v :: cs).toArray) (.tup (s :: ss))
  | err {v : Value} {e : Err} (h : RepE T Z w v e) : Rep N T ρ Z w v (.err e)
  | ifc {t : Nat} {v : Value} {s : SV N} (h : Rep N T ρ Z w v s) : Rep N T ρ Z w (.iface t v) (.ifc t s)
  | fn {K : Nat} : Rep N T ρ Z w (.func (.func K) #[] #[]) (.fn K)
  | clo {K : Nat} {cs : List Value} {ss : List (SV N)} (r : Rep N T ρ Z w (.agg cs.toArray) (.agg ss)) : Rep N T ρ Z w (.func (.func K) #[] cs.toArray) (.clo K ss)
def RepL (N : Uni) (T : ErrT) (ρ : Env1) (Z : Nat → Prop) (w : World) (cs : List Value) (ss : List (SV N)) : Prop := Rep N T ρ Z w (.agg cs.toArray) (.agg ss)
section
variable {N : Uni} {T : ErrT} {ρ ρ' : Env1} {Z Z' : Nat → Prop} {w w' : World} {v : Value} {s : SV N} {cs : List Value} {ss : List (SV N)}
theorem RepL.nil : RepL N T ρ Z w [] [] := Rep.agg0
theorem toArray_inj {α : Type} {a b : List α} (h : a.toArray = b.toArray) : a = b := by simpa using h
theorem RepL.cons_inv (h : RepL N T ρ Z w cs (s :: ss)) : ∃ v r, cs = v :: r ∧ Rep N T ρ Z w v s ∧ plain1 v = true ∧ RepL N T ρ Z w r ss := by
  unfold RepL at h
  generalize e : Value.agg cs.toArray = a at h
  cases h with
  | agg1 h hp r => exact ⟨_, _, toArray_inj (by simpa using e), h, hp, r⟩
theorem RepL.nil_inv (h : RepL N T ρ Z w cs []) : cs = [] := by
  unfold RepL at h
  generalize e : Value.agg cs.toArray = a at h
  cases h with
  | agg0 => exact toArray_inj (by simpa using e)
theorem Rep.agg_inv (h : Rep N T ρ Z w v (.agg ss)) : ∃ cs : List Value, v = .agg cs.toArray ∧ RepL N T ρ Z w cs ss := by
  cases h with
  | agg0 => exact ⟨[], rfl, Rep.agg0⟩
  | agg1 h hp r => exact ⟨_, rfl, Rep.agg1 h hp r⟩
theorem Rep.tup_inv {ss : List (SV N)} (h : Rep N T ρ Z w v (.tup ss)) : ∃ cs : List Value, v = .tuple cs.toArray := by
  cases h with
  | tup0 => exact ⟨[], rfl⟩
  | tup1 h r => exact ⟨_, rfl⟩
theorem Rep.tup_cons {cs : List Value} (h : Rep N T ρ Z w (.tuple cs.toArray) (.tup (s :: ss))) : ∃ v r, cs = v :: r ∧ Rep N T ρ Z w v s ∧ Rep N T ρ Z w (.tuple r.toArray) (.tup ss) := by
  generalize e : Value.tuple cs.toArray = a at h
  cases h with
  | tup1 h r => exact ⟨_, _, toArray_inj (by simpa using e), h, r⟩
theorem RepL.len (h : RepL N T ρ Z w cs ss) : cs.length = ss.length := by
  induction ss generalizing cs with
  | nil => rw [RepL.nil_inv h]; rfl
  | cons s ss ih => obtain ⟨v, r, rfl, _, _, h⟩ := RepL.cons_inv h; simp [ih h]
theorem RepL.get (h : RepL N T ρ Z w cs ss) : ∀ (i : Nat) (s : SV N), ss[i]? = some s → ∃ v, cs[i]? = some v ∧ Rep N T ρ Z w v s ∧ plain1 v = true := by
  induction ss generalizing cs with
  | nil => intro i s e; simp at e
  | cons s ss ih =>
    obtain ⟨v, r, rfl, h1, hp, h⟩ := RepL.cons_inv h
    intro i s' e
    cases i with
    | zero => simp at e; subst e; exact ⟨v, rfl, h1, hp⟩
    | succ i => simp at e; simpa using ih h i s' e
theorem RepL.plain (h : RepL N T ρ Z w cs ss) : cs.all plain1 = true := by
  induction ss generalizing cs with
  | nil => rw [RepL.nil_inv h]; rfl
  | cons s ss ih => obtain ⟨v, r, rfl, _, hp, h⟩ := RepL.cons_inv h; simp [hp, ih h]
theorem RepE.stab {e : Err} (h : RepE T Z w v e) {B : List Nat} (x : Ext B w w') (hB : ∀ b ∈ B, Z b → w.heap.size ≤ b) (hZ : ∀ b, Z b → b < w.heap.size → Z' b) : RepE T Z' w' v e := by
  cases h with
  | nil => exact .nil
  | no h => exact .no h
  | fault hz ho ha hn => exact .fault (hZ _ hz ho.lt) (ho.ext x (fun hm => by have := hB _ hm hz; have := ho.lt; omega)) ha hn
  | w h1 h2 h3 => exact .w h1 h2 h3
theorem Rep.stab (h : Rep N T ρ Z w v s) {B : List Nat} (x : Ext B w w') (hB : ∀ b ∈ B, Z b → w.heap.size ≤ b) (hZ : ∀ b, Z b → b < w.heap.size → Z' b) (hρ : ∀ i L, ρ i = some L → ρ' i = some L) : Rep N T ρ' Z' w' v s := by
  induction h with
  | un => exact .un
  | undef => exact .undef
  | int h => exact .int h
  | byte => exact .byte
  | tt => exact .tt
  | ff => exact .ff
  | bl => exact .bl
  | str h => exact .str h
  | con h => exact .con h
  | nils => exact .nils
  | sl h => exact .sl (Rd.mono _ h x hB hZ)
  | ref h => exact .ref (hρ _ _ h)
  | acc h => exact .acc (hρ _ _ h)
  | el h h0 h1 => exact .el (hρ _ _ h) h0 h1
  | fel h h0 h1 => exact .fel (Rd.mono _ h x hB hZ) h0 h1
  | agg0 => exact .agg0
  | agg1 h hp r ih1 ih2 => exact .agg1 ih1 hp ih2
  | tup0 => exact .tup0
  | tup1 h r ih1 ih2 => exact .tup1 ih1 ih2
  | err h => exact .err (h.stab x hB hZ)
  | ifc h ih => exact .ifc ih
  | fn => exact .fn
  | clo r ih => exact .clo ih
theorem Rep.sub (h : Rep N T ρ Z w v s) (hρ : ∀ i L, ρ i = some L → ρ' i = some L) : Rep N T ρ' Z w v s := h.stab (Ext.refl [] w) (fun _ hb => by cases hb) (fun _ h _ => h) hρ
theorem Rep.weak (h : Rep N T ρ Z w v s) (hZ : ∀ b, Z b → Z' b) : Rep N T ρ Z' w v s := h.stab (Ext.refl [] w) (fun _ hb => by cases hb) (fun b h _ => hZ b h) (fun _ _ h => h)
/-- What is known by fewer places. -/
theorem Rep.lower {ρ0 : Env1} {Z0 : Nat → Prop} {w0 : World} {v0 : Value} (h : Rep N T ρ Z w v s) (h0 : Rep N T ρ0 Z0 w0 v0 s) (hρ : ∀ i L, ρ0 i = some L → ρ i = some L) : Rep N T ρ0 Z w v s := by
  induction h generalizing v0 with
  | un => exact .un
  | undef => exact .undef
  | int h => exact .int h
  | byte => exact .byte
  | tt => exact .tt
  | ff => exact .ff
  | bl => exact .bl
  | str h => exact .str h
  | con h => exact .con h
  | nils => exact .nils
  | sl h => exact .sl h
  | ref h => cases h0 with | ref h' => have := hρ _ _ h'; rw [h] at this; cases this; exact .ref h'
  | acc h => cases h0 with | acc h' => have := hρ _ _ h'; rw [h] at this; cases this; exact .acc h'
  | el h a b => cases h0 with | el h' _ _ => have := hρ _ _ h'; rw [h] at this; cases this; exact .el h' a b
  | fel h a b => exact .fel h a b
  | agg0 => exact .agg0
  | agg1 h hp r ih1 ih2 => cases h0 with | agg1 h' _ r' => exact .agg1 (ih1 h') hp (ih2 r')
  | tup0 => exact .tup0
  | tup1 h r ih1 ih2 => cases h0 with | tup1 h' r' => exact .tup1 (ih1 h') (ih2 r')
  | err h => exact .err h
  | ifc h ih => cases h0 with | ifc h' => exact .ifc (ih h')
  | fn => exact .fn
  | clo r ih => cases h0 with | clo r' => exact .clo (ih r')
end
/-- How the values of a type are told, piece by piece. -/
structure TyI (N : Uni) (T : ErrT) (t : Nat) where
  sv : N.U t → SV N
  bk : SV N → Option (N.U t)
  sv_ok : ∀ {ρ : Env1} {Z : Nat → Prop} {w : World} {cs : List Value} {x : N.U t}, (N.tb t).r.rd Z w cs x → RepL N T ρ Z w cs (leaves (sv x))
  bk_ok : ∀ {ρ : Env1} {Z : Nat → Prop} {w : World} {cs : List Value} {s : SV N} {x : N.U t}, RepL N T ρ Z w cs (leaves s) → bk s = some x → (N.tb t).r.rd Z w cs x
  hy : N.U t → List Prop := fun _ => []
  hy_ok : ∀ {Z : Nat → Prop} {w : World} {cs : List Value} {x : N.U t}, (N.tb t).r.rd Z w cs x → ∀ p ∈ hy x, p := by intros; contradiction
  by8 : Option (PLift (N.tb t = ⟨UInt8, dByte, ⟨0⟩⟩)) := none
end Go.Rx
end
section
namespace Go.Rx
open Go Go.Wk Go.Wl
/-- What a call answers: what is to be shown, what is learnt, the value, what it lays. -/
structure CR (N : Uni) where
  ob : List Prop
  hy : List Prop
  r : SV N
  its : List (Item N)
def foot (N : Uni) (ρ : Env1) (id : Nat) : Item N → List Nat
  | .fz _ _ => []
  | .ob _ fid _ => (match ρ fid with | some L => L.bs | none => [])
  | _ => match ρ id with | some L => L.bs | none => []
def holds (N : Uni) (T : ErrT) (ρ : Env1) (id : Nat) (Z : Nat → Prop) (w : World) : Item N → Prop
  | .own Ty cells => ∃ L cs, ρ id = some L ∧ L.bs = [L.b] ∧ Own w L.b Ty cs ∧ RepL N T ρ Z w cs cells
  | .ac t l => ∃ L, ρ id = some L ∧ L.n = l.length ∧ l.length ≤ 9223372036854775807 ∧ Ac (N.tb t).r Z w (.slice L.A L.n L.cap) l L.bs
  | .fz t l => ∃ L, ρ id = some L ∧ L.n = l.length ∧ (dSlice (N.tb t).r).rd Z w [.slice L.A L.n L.cap] l
  | .ob k fid x => ∃ L Lf, ρ id = some L ∧ ρ fid = some Lf ∧ ((N.oj k).ob L.b).is Z w x Lf.bs
def toIt (N : Uni) (T : ErrT) (ρ : Env1) (B0 : List Nat) (id : Nat) (i : Item N) : It := ⟨foot N ρ id i, B0, fun Z w => holds N T ρ id Z w i⟩
def toIts (N : Uni) (T : ErrT) (ρ : Env1) (B0 : List Nat) (l : Items N) : List It := l.map fun p => toIt N T ρ B0 p.1 p.2
def number {β : Type} : Nat → List β → List (Nat × β)
  | _, [] => []
  | n, x :: r => (n, x) :: number (n + 1) r
def allP : List Prop → Prop
  | [] => True
  | p :: ps => p ∧ allP ps
/-- What the package's variables hold, ars long ars nobody turns them. -/
structure Glob where
  is : (Nat → Prop) → World → Prop
  stab : ∀ {Z Z' : Nat → Prop} {B : List Nat} {w w' : World}, is Z w → Ext B w w' → (∀ b ∈ B, Z b → w.heap.size ≤ b) → (∀ b, Z b → b < w.heap.size → Z' b) → is Z' w'
structure ConOK (P : Program) (N : Uni) (T : ErrT) (G : Glob) (K : Nat) (args : List (SV N)) (nx : Nat) (c : CR N) : Prop where
  run : ∀ (ρ : Env1) (Z : Nat → Prop) (w : World) (vs : List Value), (∀ i, nx ≤ i → ρ i = none) → (∀ b, Z b → b < w.heap.size) → G.is Z w → Rep N T ρ Z w (.tuple vs.toArray) (.tup args) →
    CallR P K vs w (fun v w' => ∃ (ρ' : Env1) (Z' : Nat → Prop), (∀ i L, ρ i = some L → ρ' i = some L) ∧ (∀ i, nx + c.its.length ≤ i → ρ' i = none) ∧ (∀ b, Z b → Z' b) ∧ (∀ b, Z' b → Z b ∨ w.heap.size ≤ b) ∧ Rep N T ρ' Z' w' v c.r ∧ Sep [] w Z' w' (toIts N T ρ' [] (number nx c.its)) ∧ allP c.hy)
/-- A method of a thing: what is to be shown, what is learnt, the value, what the thing is then. -/
structure OR (N : Uni) (k : Nat) where
  ob : List Prop
  hy : List Prop
  r : SV N
  x : N.O k
structure OC (N : Uni) where
  k : Nat
  C : N.O k → List (SV N) → Option (OR N k)
/-- A call that writes a number's own cell, to which its last argument leads: what is to be shown, what is learnt, the value, the number. -/
structure WR (N : Uni) where
  ob : List Prop
  hy : List Prop
  r : SV N
  x : Int
structure WC (N : Uni) where
  T : Nat
  S : Nat
  C : SV N → Int → Option (WR N)
structure Env where
  P : Program
  N : Uni
  T : ErrT
  ty : ∀ t, Option (TyI N T t)
  zob : Nat → Option ((k : Nat) × N.O k)
  con : Nat → Option (List (SV N) → Nat → Option (CR N))
  lend : Nat → Bool
  obc : Nat → Option (OC N)
  inl : Nat → Option Func
  G : Glob
  wrc : Nat → Option (WC N)
variable (E : Env)
abbrev Env.SV (E : Env) := Go.Rx.SV E.N
abbrev Env.St (E : Env) := Go.Rx.St E.N
def Env.sliceOf (t : Nat) : Option Nat := match E.P.underlying t with | some (.slice e) => some e | _ => none
def Env.isStr (t : Nat) : Bool := match E.P.underlying t with | some .string => true | _ => false
def Env.isBool (t : Nat) : Bool := match E.P.underlying t with | some .bool => true | _ => false
def Env.isPtr (t : Nat) : Bool := match E.P.underlying t with | some (.pointer _) => true | _ => false
def Env.isIface (t : Nat) : Bool := match E.P.underlying t with | some (.interface _) => true | _ => false
def Env.intOf (t : Nat) : Option IntKind := match E.P.underlying t with | some (.int k) => some k | _ => none
/-- Is a type's value one of several cells? -/
def Env.aggOf (t : Nat) : Option Bool := match E.P.underlying t with | some (.struct _) => some true | some (.array _ _) => some true | some _ => some false | none => none
def Env.size (t : Nat) : Option Nat := (E.P.info? t).map (·.size)
def Env.bytes (t : Nat) : Option Nat := (E.P.info? t).map (·.bytes)
def Env.szOk (e t : Nat) : Bool := match E.size e with | some s => Nat.beq s (E.N.tb t).r.sz | none => false
def Env.fld (t i : Nat) : Option (Nat × Nat) := match E.P.underlying t with | some (.struct fs) => (match fs[i]? with | some f => (match E.size f.type with | some s => some (f.offset, s) | none => none) | none => none) | _ => none
def Env.flds (t : Nat) : Option (List (Nat × Nat)) := match E.P.underlying t with | some (.struct fs) => fs.toList.mapM (fun f => (E.size f.type).map fun s => (f.offset, s)) | _ => none
def Env.zeroV (t : Nat) : Option Value := (E.P.info? t).bind (·.zero)
def Env.zero (t : Nat) : Option E.SV := (E.zeroV t).map cst
variable {E : Env}
def castL {N : Uni} {t t' : Nat} (h : t = t') (l : List (N.U t)) : List (N.U t') := h ▸ l
def bytesOf (E : Env) (t : Nat) (l : List (E.N.U t)) : Option Str := match E.ty t with
  | some y => match y.by8 with | some h => some (cast (by rw [Uni.U, h.down]) l) | none => none
  | none => none
def ofBytes (E : Env) (t : Nat) (s : Str) : Option (List (E.N.U t)) := match E.ty t with
  | some y => match y.by8 with | some h => some (cast (by rw [Uni.U, h.down]) s) | none => none
  | none => none
def asL (E : Env) (t : Nat) : E.SV → Option (List (E.N.U t))
  | .nils => some []
  | .sl t' l => if h : t' = t then some (castL h l) else none
  | _ => none
/-- As the parts of memory say it. -/
def nrm (its : Items E.N) : E.SV → E.SV
  | .acc id => match lk its id with | some (.fz t l) => .sl t l | _ => .acc id
  | v => v
/-- A part of what is told of a value. -/
def part (E : Env) (ls : List E.SV) (off T : Nat) : Option E.SV := match E.aggOf T with
  | some true => (match E.size T with | some n => bif Nat.ble (off + n) ls.length then some (.agg ((ls.drop off).take n)) else none | none => none)
  | some false => ls[off]?
  | none => none
def lenS (its : Items E.N) : E.SV → Option Int
  | .sl _ l => some l.length
  | .nils => some 0
  | .acc id => match lk its id with | some (.ac _ l) => some l.length | _ => none
  | _ => none
def lenOf (its : Items E.N) (T : Nat) (v : E.SV) : Option Int := bif E.isStr T then (match v with | .str s => some s.length | _ => none) else bif (E.sliceOf T).isSome then lenS its v else none
/-- A value whose cells are its leaves. -/
def flat : E.SV → Bool
  | .un => false
  | .undef => false
  | .tup _ => false
  | _ => true
def setLeaves (E : Env) : List E.SV → Nat → List E.SV → List E.SV
  | ls, _, [] => ls
  | ls, o, v :: r => setLeaves E (ls.set o v) (o + 1) r
def buildP (E : Env) (fs : List (Nat × Nat)) (f : Operand → E.SV) : List (Nat × Operand) → List E.SV → Option (List E.SV)
  | [], ls => some ls
  | p :: r, ls => match fs[p.1]? with
    | some (o, n) => bif flat (f p.2) && Nat.beq (leaves (f p.2)).length n && Nat.ble (o + n) ls.length then buildP E fs f r (setLeaves E ls o (leaves (f p.2))) else none
    | none => none
def isC : Operand → Bool
  | .const _ => true
  | _ => false
/-- Two structs of two plain fields, are they the same? -/
def eqLeaf (E : Env) (t : Nat) (a b : E.SV) : Option ((p : Prop) ×' Decidable p) := match a with
  | .int k x => (match b with | .int k' y => (match E.intOf t with | some _ => if k = k' then some ⟨x = y, inferInstance⟩ else none | none => none) | _ => none)
  | .str s => (match b with | .str u => bif E.isStr t then some ⟨s = u, inferInstance⟩ else none | _ => none)
  | _ => none
def qEq2 (E : Env) (op : BinOp) (T : Nat) (ls ms : List E.SV) : Option (Q1 E.N) := match E.P.underlying T with
  | some (.struct fs) => (match fs.toList, ls, ms with
    | [f0, f1], [a0, a1], [b0, b1] => bif !E.P.stoodInHeld T && !E.P.eqGuardType E.P.depth T && f0.name != "_" && f1.name != "_" && Nat.beq f0.offset 0 && Nat.beq f1.offset 1 then (match eqLeaf E f0.type a0 b0, eqLeaf E f1.type a1 b1 with
      | some ⟨p, _⟩, some ⟨q, _⟩ => (match op with | .eql => bln (p ∧ q) | .neq => bln (¬ (p ∧ q)) | _ => none)
      | _, _ => none) else none
    | _, _, _ => none)
  | _ => none
/-- A slice, is it none? -/
def binNils (op : BinOp) (ob : List Prop) (z : Bool) : Option (Q1 E.N) :=
  match op with
  | .eql => some ⟨ob, [], bif z then .tt else .ff⟩
  | .neq => some ⟨ob, [], bif z then .ff else .tt⟩
  | _ => none
def qBin (E : Env) (op : BinOp) (T : Nat) (cy : Bool) (x y : E.SV) : Option (Q1 E.N) :=
  match x with
  | .int k a => (match y with | .int k' b => binNum op k k' a b | _ => none)
  | .byte a => (match y with | .byte b => binByte op a b | _ => none)
  | .str a => (match y with | .str b => binStr op a b | _ => none)
  | .err a => (match y with | .err b => (match b with | .nil => bif cy && E.isIface T then binErr op a else none | _ => none) | _ => none)
  | .ref _ _ => (match y with | .con v => (match v with | .pointer a => (match a with | none => bif E.isPtr T then binNil op false else none | _ => none) | _ => none) | _ => none)
  | .con u => (match y with | .con v => (match u, v with | .pointer a, .pointer b => (match a, b with | none, none => bif E.isPtr T then binNil op true else none | _, _ => none) | _, _ => none) | _ => none)
  | .agg ls => (match y with | .agg ms => qEq2 E op T ls ms | _ => none)
  | .nils => (match y with | .nils => bif (E.sliceOf T).isSome then binNils op [] true else none | _ => none)
  | .sl _ l => (match y with | .nils => bif (E.sliceOf T).isSome then binNils op [l ≠ []] false else none | _ => none)
  | x => bif E.isBool T then (match prop x, prop y with
    | some ⟨p, d⟩, some ⟨q, e⟩ => binBool op p q d e
    | _, _ => none) else none
def qUn (op : UnOp) : E.SV → Option (Q1 E.N)
  | .tt => match op with | .not => q0 .ff | _ => none
  | .ff => match op with | .not => q0 .tt | _ => none
  | .bl p _ => match op with | .not => bln (¬ p) | _ => none
  | .int k a => match op, k with | .neg, .i64 => some ⟨[in64 (0 - a)], [], .int .i64 (0 - a)⟩ | _, _ => none
  | _ => none
def qExtract (i : Nat) : E.SV → Option (Q1 E.N)
  | .tup vs => match vs[i]? with | some v => q0 v | none => none
  | _ => none
def qIndexAddr (E : Env) (its : Items E.N) (T : Nat) (i x : E.SV) : Option (Q1 E.N) := match E.sliceOf T with
  | some e => (match x with
    | .sl t l => (match i with | .int _ a => bif E.szOk e t then some ⟨[0 ≤ a, a < l.length], [], .fel t l a 0⟩ else none | _ => none)
    | .acc id => (match i, lk its id with | .int _ a, some (.ac t l) => bif E.szOk e t then some ⟨[0 ≤ a, a < l.length], [], .el id t a 0⟩ else none | _, _ => none)
    | _ => none)
  | none => none
def qFieldAddr (o : Nat) : E.SV → Option (Q1 E.N)
  | .ref id off => q0 (.ref id (off + o))
  | .fel t l i off => q0 (.fel t l i (off + o))
  | .el id t i off => q0 (.el id t i (off + o))
  | _ => none
def qEl (E : Env) (t : Nat) (l : List (E.N.U t)) (i : Int) (off T : Nat) : Option (Q1 E.N) := match E.ty t with
  | some y => match part E (leaves (y.sv (ix l i))) off T with | some v => some ⟨[], y.hy (ix l i), v⟩ | none => none
  | none => none
def qLoad (its : Items E.N) (T : Nat) : E.SV → Option (Q1 E.N)
  | .ref id off => match lk its id with
    | some (.own _ cells) => match part E cells off T with | some v => q0 v | none => none
    | _ => none
  | .fel t l i off => qEl E t l i off T
  | .el id t' i off => match lk its id with
    | some (.ac t l) => bif Nat.beq t t' then qEl E t l i off T else none
    | _ => none
  | _ => none
def qNil : E.SV → Option (Q1 E.N)
  | .ref id off => q0 (.ref id off)
  | _ => none
def qIndex (E : Env) (T : Nat) (i : E.SV) : E.SV → Option (Q1 E.N)
  | .str s => match i with | .int _ a => bif E.isStr T then some ⟨[0 ≤ a, a < s.length], [], .byte (ix s a)⟩ else none | _ => none
  | _ => none
def cutP (n : Int) : Option Int → Option Int → List Prop
  | none, none => []
  | some a, none => [0 ≤ a, a ≤ n]
  | none, some b => [0 ≤ b, b ≤ n]
  | some a, some b => [0 ≤ a, a ≤ b, b ≤ n]
def cutL {α : Type} (l : List α) : Option Int → Option Int → List α
  | none, none => l
  | some a, none => l.drop a.toNat
  | none, some b => l.take b.toNat
  | some a, some b => (l.take b.toNat).drop a.toNat
def asI : E.SV → Option Int
  | .int k a => match k with | .i64 => some a | _ => none
  | _ => none
def asIO (e : Operand → E.SV) : Option Operand → Option (Option Int)
  | none => some none
  | some o => (asI (e o)).map some
def qSlice (E : Env) (T : Nat) (lo hi : Option Int) : E.SV → Option (Q1 E.N)
  | .str s => bif E.isStr T then some ⟨cutP s.length lo hi, [], .str (cutL s lo hi)⟩ else none
  | .sl t l => (match E.sliceOf T with | some e => bif E.szOk e t then some ⟨cutP l.length lo hi, [], .sl t (cutL l lo hi)⟩ else none | none => none)
  | _ => none
/-- A value that wraps a number, ars an error. -/
def wrapE (E : Env) (T : Nat) (vs : List E.SV) : Option Err := match E.T.wr T with
  | none => none
  | some k => match k, vs with
    | 0, [.str s, .int .i64 n] => some (.w T s (.no n))
    | 1, [.int .i64 n] => some (.w T [] (.no n))
    | 2, [.err (.no n)] => some (.w T [] (.no n))
    | k + 3, [] => if k < 1000 then some (.w T [] (.no k)) else none
    | _, _ => none
def qMakeI (E : Env) (T : Nat) : E.SV → Option (Q1 E.N)
  | .agg vs => (match E.aggOf T with
    | some true => (match wrapE E T vs with | some e => q0 (.err e) | none => none)
    | _ => none)
  | .int k a => match k with | .i64 => bif Nat.beq T E.T.no && (E.intOf T).isSome then q0 (.err (.no a)) else none | _ => none
  | .ref id off => bif E.isPtr T && !Nat.beq T E.T.fp then q0 (.ifc T (.ref id off)) else none
  | _ => none
def qBuild (E : Env) (e : Operand → E.SV) (T : Nat) (ps : List (Nat × Operand)) : Option (Q1 E.N) := match E.zero T, E.flds T with
  | some (.agg ls), some fs => match buildP E fs e ps ls with | some ls => q0 (.agg ls) | none => none
  | _, _ => none
def qBytes (E : Env) (S : Nat) (t : Nat) (l : List (E.N.U t)) : Option (Q1 E.N) := match E.sliceOf S with
  | some e => (match E.intOf e with
    | some .u8 => (match bytesOf E t l with | some s => q0 (.str s) | none => none)
    | _ => none)
  | none => none
def qConvert (E : Env) (its : Items E.N) (S D : Nat) : E.SV → Option (Q1 E.N)
  | .byte c => (match E.intOf S, E.intOf D with | some _, some k => (match k with | .u8 => q0 (.byte c) | .i8 => none | k => q0 (.int k c.toNat)) | _, _ => none)
  | .int _ a => (match E.intOf S, E.intOf D with | some _, some k => (match k with | .u8 => q0 (.byte (UInt8.ofInt a)) | k => q0 (.int k (k.wrap a))) | _, _ => none)
  | .sl t l => bif E.isStr D then qBytes E S t l else none
  | .acc id => match lk its id with
    | some (.ac t l) => bif E.isStr D then qBytes E S t l else none
    | _ => none
  | _ => none
def qMM (mx : Bool) (x y : E.SV) : Option (Q1 E.N) := match x, y with
  | .int k a, .int k' b => if k = k' then q0 (.int k (bif mx then max a b else min a b)) else none
  | _, _ => none
def qBuiltin (E : Env) (its : Items E.N) (e : Operand → E.SV) (b : Builtin) (xs : List Operand) (Ts : List Nat) : Option (Q1 E.N) :=
  match b with
  | .len => match xs, Ts with | [x], [T] => (match lenOf its T (e x) with | some n => q0 (.int .i64 n) | none => none) | _, _ => none
  | .min => match xs with | [x, y] => qMM false (e x) (e y) | _ => none
  | .max => match xs with | [x, y] => qMM true (e x) (e y) | _ => none
  | _ => none
def qCall (E : Env) (its : Items E.N) (e : Operand → E.SV) (c : Call) : Option (Q1 E.N) := match c.callee with
  | .builtin b => qBuiltin E its e b c.args.toList c.argTypes.toList
  | _ => none
def qPick (e : Operand → E.SV) (a b : Operand) : E.SV → Option (Q1 E.N)
  | .tt => q0 (e a)
  | .ff => q0 (e b)
  | _ => none
def isRef : E.SV → Bool
  | .ref _ _ => true
  | _ => false
def stepQ (E : Env) (its : Items E.N) (e : Operand → E.SV) (op : Op) : Option (Q1 E.N) := match op with
  | .move x => q0 (e x)
  | .assign x => q0 (e x)
  | .pick c a b => qPick e a b (e c)
  | .binOp op T x y _ => qBin E op T (isC y) (e x) (e y)
  | .unOp op _ x => qUn op (e x)
  | .extract x i => qExtract i (e x)
  | .indexAddr T x i => qIndexAddr E its T (e i) (e x)
  | .fieldAddr T x fi => (match E.fld T fi with | some (o, n) => bif Nat.blt 0 n then qFieldAddr o (e x) else none | none => none)
  | .load T x => qLoad its T (e x)
  | .nilCheck x => qNil (e x)
  | .index T x i => qIndex E T (e i) (e x)
  | .slice T x lo hi m => (match m, asIO e lo, asIO e hi with | none, some a, some b => qSlice E T a b (e x) | _, _, _ => none)
  | .makeInterface T x => qMakeI E T (e x)
  | .build T ps => qBuild E e T ps.toList
  | .convert S D x => qConvert E its S D (e x)
  | .makeFunc f first caps => (match f with | .func K => bif Nat.beq first.size 0 && (caps.toList.map e).all isRef then q0 (.clo K (caps.toList.map e)) else none | _ => none)
  | .call c => qCall E its e c
  | _ => none
/-- What a step gives that turns memory. -/
structure S1 (N : Uni) where
  ob : List Prop
  hy : List Prop
  v : SV N
  items : Items N
  nx : Nat
/-- What nobody turns from now on. -/
def frz0 (its : Items E.N) : List E.SV → Option (List E.SV × Items E.N)
  | [] => some ([], its)
  | v :: r => match v with
    | .acc id => match lk its id with
      | some (.ac t l) => match frz0 (upd1 its id (.fz t l)) r with | some (r', its') => some (.sl t l :: r', its') | none => none
      | some (.fz t l) => match frz0 its r with | some (r', its') => some (.sl t l :: r', its') | none => none
      | _ => none
    | .ref _ _ => none
    | .el _ _ _ _ => none
    | .clo _ _ => none
    | .agg _ => none
    | .tup _ => none
    | v => match frz0 its r with | some (r', its') => some (v :: r', its') | none => none
def frz1 (its : Items E.N) (v : E.SV) : Option (E.SV × Items E.N) := match v with
  | .agg vs => match frz0 its vs with | some (vs', its') => some (.agg vs', its') | none => none
  | v => match frz0 its [v] with | some ([v'], its') => some (v', its') | _ => none
def frz (its : Items E.N) : List E.SV → Option (List E.SV × Items E.N)
  | [] => some ([], its)
  | v :: r => match frz1 its v with
    | some (v', its1) => (match frz its1 r with | some (r', its2) => some (v' :: r', its2) | none => none)
    | none => none
/-- The elements of what is appended, copied, or read. -/
def srcL (E : Env) (its : Items E.N) (t : Nat) : E.SV → Option (List (E.N.U t))
  | .acc id => match lk its id with | some (.ac t' l) => if h : t' = t then some (castL h l) else none | _ => none
  | v => asL E t v
def litL (E : Env) {t : Nat} (y : TyI E.N E.T t) (f : Operand → E.SV) : Items E.N → List (Nat × Operand) → Option (List (E.N.U t) × Items E.N)
  | its, [] => some ([], its)
  | its, p :: r => match frz1 its (f p.2) with
    | some (v, its1) => bif flat v then (match y.bk v, litL E y f its1 r with
      | some x, some (xs, its2) => some (x :: xs, its2)
      | _, _ => none) else none
    | none => none
def sAlloc (its : Items E.N) (nx T : Nat) : Option (S1 E.N) := match E.zob T with
  | some ⟨k, x⟩ => some ⟨[], [], .ref nx 0, (nx, .ob k nx x) :: its, nx + 1⟩
  | none => (match E.zero T with | some z => bif flat z then some ⟨[], [], .ref nx 0, (nx, .own T (leaves z)) :: its, nx + 1⟩ else none | none => none)
/-- A fault that is handed on ars an error. -/
def sMakeI (its : Items E.N) (nx T : Nat) : E.SV → Option (S1 E.N)
  | .ref id off => match lk its id with
    | some (.own S cells) => bif Nat.beq off 0 && Nat.beq T E.T.fp && Nat.beq S E.T.fs && E.isPtr T then (match cells with | [.int .i64 a, .int .i64 n] => some ⟨[], [], .err (.fault a n), rmv its id, nx⟩ | _ => none) else none
    | _ => none
  | _ => none
def wrapA : List E.SV → E.SV
  | [x] => x
  | xs => .agg xs
/-- An element, or a part of it, is stored. -/
def sStoreEl (its : Items E.N) (nx T id t : Nat) (i : Int) (off : Nat) (x : E.SV) : Option (S1 E.N) := match frz1 its x with
  | some (v, its') => (match lk its' id with
    | some (.ac t' l) => if h : t' = t then (match E.ty t with
      | some y => bif Nat.ble (off + (E.size T).getD 0) (leaves (y.sv (ix (castL h l) i))).length && flat v && (E.size T).isSome && Nat.beq (leaves v).length ((E.size T).getD 0) && E.szOk t t then
          (match y.bk (wrapA (setLeaves E (leaves (y.sv (ix (castL h l) i))) off (leaves v))) with
          | some x' => some ⟨[], [], .un, upd1 its' id (.ac t ((castL h l).set i.toNat x')), nx⟩
          | none => none) else none
      | none => none) else none
    | _ => none)
  | none => none
def sStore (its : Items E.N) (nx T : Nat) (x : E.SV) : E.SV → Option (S1 E.N)
  | .ref id off => match lk its id with
    | some (.own S cells) => bif Nat.ble (off + (E.size T).getD 0) cells.length && flat x && (E.size T).isSome && Nat.beq (leaves x).length ((E.size T).getD 0) then some ⟨[], [], .un, upd1 its id (.own S (setLeaves E cells off (leaves x))), nx⟩ else none
    | _ => none
  | .el id t i off => sStoreEl its nx T id t i off x
  | _ => none
/-- What is asked of an element's type. -/
def elOk (E : Env) (t : Nat) : Bool := E.szOk t t && Nat.blt 0 (E.N.tb t).r.sz && (match E.bytes t with | some b => Nat.blt 0 b | none => false) && (match E.zeroV t with | some z => Nat.beq z.cells.size (E.N.tb t).r.sz | none => false)
def sAppend (E : Env) (its : Items E.N) (nx t : Nat) (xs : List (E.N.U t)) : E.SV → Option (S1 E.N)
  | .nils => bif elOk E t then some ⟨[xs.length * (E.bytes t).getD 0 ≤ 140737488355328], [], .acc nx, (nx, .ac t xs) :: its, nx + 1⟩ else none
  | .acc id => match lk its id with
    | some (.ac t' l) => if h : t' = t then (bif elOk E t then some ⟨[(l.length + xs.length) * (E.bytes t).getD 0 ≤ 140737488355328], [], .acc nx, (nx, .ac t (castL h l ++ xs)) :: rmv its id, nx + 1⟩ else none) else none
    | _ => none
  | _ => none
def sCall (E : Env) (its : Items E.N) (nx : Nat) (e : Operand → E.SV) (c : Call) (ty : Nat) : Option (S1 E.N) := match c.callee with
  | .builtin b => (match b with
    | .append => (match c.args.toList, c.argTypes.toList with
      | [x, y], [S, S'] => bif Nat.beq S S' && Nat.beq S ty then (match E.sliceOf S with
        | some t => (match srcL E its t (e y) with | some xs => sAppend E its nx t xs (e x) | none => none)
        | none => none) else none
      | _, _ => none)
    | _ => none)
  | _ => none
def inOrd {α : Type} : Nat → List (Nat × α) → Bool
  | _, [] => true
  | i, p :: r => Nat.beq p.1 i && inOrd (i + 1) r
def sLit (E : Env) (its : Items E.N) (nx : Nat) (e : Operand → E.SV) (T len : Nat) (ps : List (Nat × Operand)) : Option (S1 E.N) := match E.sliceOf T with
  | some t => (match E.ty t with
    | some y => bif elOk E t && inOrd 0 ps && Nat.beq ps.length len && Nat.ble (len * (E.N.tb t).r.sz) 16777216 then (match litL E y e its ps with
      | some (xs, its') => some ⟨[], [], .acc nx, (nx, .ac t xs) :: its', nx + 1⟩
      | none => none) else none
    | none => none)
  | none => none
def sMake (E : Env) (its : Items E.N) (nx T : Nat) (x y : E.SV) : Option (S1 E.N) := match E.sliceOf T, asI x, asI y with
  | some t, some a, some b => (match E.ty t with
    | some y => bif elOk E t then (match (E.zero t).bind (fun z => bif flat z then y.bk z else none) with
      | some z => some ⟨[0 ≤ a, a = b, (E.bytes t).getD 0 * a ≤ 140737488355328], [], .acc nx, (nx, .ac t (List.replicate a.toNat z)) :: its, nx + 1⟩
      | none => none) else none
    | none => none)
  | _, _, _ => none
def stepE (E : Env) (its : Items E.N) (nx : Nat) (e : Operand → E.SV) (op : Op) (ty : Nat) : Option (S1 E.N) := match op with
  | .alloc T => sAlloc its nx T
  | .box T x => bif flat (e x) then some ⟨[], [], .ref nx 0, (nx, .own T (leaves (e x))) :: its, nx + 1⟩ else none
  | .makeInterface T x => sMakeI its nx T (e x)
  | .store T a x => sStore its nx T (e x) (e a)
  | .call c => sCall E its nx e c ty
  | .buildSlice T n ps => sLit E its nx e T n ps.toList
  | .makeSlice T x y => sMake E its nx T (e x) (e y)
  | _ => none
end Go.Rx
end
section
namespace Go.Rx
open Go Go.Wk Go.Wl
/-- What turns in a loop, or differs where ways meet. -/
inductive VK
  | int (k : IntKind)
  | byte
  | bool
  | str
  | err
  | sl (t : Nat)
  | acc (t : Nat)
  | val (t : Nat)
inductive LV
  | slot (s : Nat) (k : VK)
  | own (s : Nat) (ks : List VK)
  | ob (s : Nat) (k : Nat)
structure LAnn where
  keep : List Nat
  vars : List LV
/-- What is told of a function ahead of its walk: its loops and the places where ways meet, by their first region. -/
structure Ann where
  n : Nat
  loop : Nat → Option LAnn
  join : Nat → Option LAnn
variable {E : Env}
def VK.den (N : Uni) : VK → Type
  | .int _ => Int
  | .byte => UInt8
  | .bool => Bool
  | .str => Str
  | .err => Err
  | .sl t => List (N.U t)
  | .acc t => List (N.U t)
  | .val t => N.U t
def cellsDen (N : Uni) (α : Type) : List VK → Type
  | [] => α
  | k :: r => k.den N → cellsDen N α r
/-- Functions of what turns. -/
def Cur (N : Uni) (α : Type) : List LV → Type
  | [] => α
  | .slot _ k :: r => k.den N → Cur N α r
  | .own _ ks :: r => cellsDen N (Cur N α r) ks
  | .ob _ k :: r => N.O k → Cur N α r
/-- A value read off. -/
def rb1 (E : Env) (its : Items E.N) : (k : VK) → E.SV → Option (k.den E.N)
  | .int k, v => match v with | .int k' x => if k' = k then some x else none | _ => none
  | .byte, v => match v with | .byte x => some x | _ => none
  | .bool, v => match v with | .tt => some true | .ff => some false | .bl p d => some (@decide p d) | _ => none
  | .str, v => match v with | .str x => some x | _ => none
  | .err, v => match v with | .err x => some x | _ => none
  | .sl t, v => asL E t (nrm its v)
  | .acc t, v => match v with
    | .nils => some []
    | .acc id => match lk its id with | some (.ac t' l) => if h : t' = t then some (castL h l) else none | _ => none
    | _ => none
  | .val t, v => match v with | .agg vs => (match E.ty t with | some y => y.bk (.agg vs) | none => none) | _ => none
def blB {N : Uni} (x : Bool) : SV N := .bl (x = true) inferInstance
/-- A value, told anew; and what it lays. -/
def fl1 (E : Env) (nx : Nat) : (k : VK) → k.den E.N → E.SV × Items E.N × Nat
  | .int k, x => (.int k x, [], nx)
  | .byte, x => (.byte x, [], nx)
  | .bool, x => (blB x, [], nx)
  | .str, x => (.str x, [], nx)
  | .err, x => (.err x, [], nx)
  | .sl t, x => (.sl t x, [], nx)
  | .acc t, x => (.acc nx, [(nx, .ac t x)], nx + 1)
  | .val t, x => (match E.ty t with | some y => (match y.sv x with | .agg ls => .agg ls | _ => .un) | none => .un, [], nx)
/-- The state behind: f is applied to what was read. -/
def rbCells (E : Env) (its : Items E.N) {α : Type} : (ks : List VK) → List E.SV → cellsDen E.N α ks → Option α
  | [], [], f => some f
  | k :: r, v :: vs, f => match rb1 E its k v with | some x => rbCells E its r vs (f x) | none => none
  | _, _, _ => none
def slotOf (fx : Slots E.N) (st : E.St) (s : Nat) : E.SV := match lk st.slots s with | some v => v | none => (match lk fx s with | some v => v | none => .un)
def rbAll (E : Env) (fx : Slots E.N) (st : E.St) {α : Type} : (vs : List LV) → Cur E.N α vs → Option α
  | [], f => some f
  | .slot s k :: r, f => match rb1 E st.items k (slotOf fx st s) with | some x => rbAll E fx st r (f x) | none => none
  | .own s ks :: r, f => match slotOf fx st s with
    | .ref id _ => (match lk st.items id with
      | some (.own _ cells) => (match rbCells E st.items ks cells f with | some g => rbAll E fx st r g | none => none)
      | _ => none)
    | _ => none
  | .ob s k :: r, f => match slotOf fx st s with
    | .ref id _ => (match lk st.items id with
      | some (.ob k' _ x) => if h : k' = k then rbAll E fx st r (f (h ▸ x)) else none
      | _ => none)
    | _ => none
/-- For all that turns. -/
def allCells (E : Env) {α : Type} : (ks : List VK) → Nat → Items E.N → List E.SV → cellsDen E.N α ks → (α → Nat → Items E.N → List E.SV → Prop) → Prop
  | [], nx, its, acc, f, K => K f nx its acc
  | k :: r, nx, its, acc, f, K => ∀ x : k.den E.N, allCells E r (fl1 E nx k x).2.2 ((fl1 E nx k x).2.1 ++ its) (acc ++ [(fl1 E nx k x).1]) (f x) K
def allC (E : Env) (fx : Slots E.N) (st : E.St) {α : Type} : (vs : List LV) → Cur E.N α vs → E.St → (α → E.St → Prop) → Prop
  | [], f, new, K => K f new
  | .slot s k :: r, f, new, K => ∀ x : k.den E.N, allC E fx st r (f x) ⟨(s, (fl1 E new.nx k x).1) :: new.slots, [], (fl1 E new.nx k x).2.1 ++ new.items, (fl1 E new.nx k x).2.2⟩ K
  | .own s ks :: r, f, new, K => match slotOf fx st s with
    | .ref id _ => (match lk st.items id with
      | some (.own T _) => allCells E ks new.nx new.items [] f (fun g nx its cs => allC E fx st r g ⟨new.slots, [], (id, .own T cs) :: its, nx⟩ K)
      | _ => False)
    | _ => False
  | .ob s k :: r, f, new, K => match slotOf fx st s with
    | .ref id _ => ∀ x : E.N.O k, allC E fx st r (f x) ⟨new.slots, [], (id, .ob k new.nx x) :: new.items, new.nx + 1⟩ K
    | _ => False
def accId {N : Uni} (k : VK) (v : SV N) : List Nat := match k, v with
  | .acc _, .acc id => [id]
  | _, _ => []
def accP {N : Uni} : VK × SV N → Option Nat
  | (.acc _, .acc id) => some id
  | _ => none
/-- The parts that turn. -/
def idOf (E : Env) (fx : Slots E.N) (st : E.St) : LV → List Nat
  | .slot s k => accId k (slotOf fx st s)
  | .own s ks => match slotOf fx st s with
    | .ref id _ => id :: (match lk st.items id with
      | some (.own _ cells) => (ks.zip cells).filterMap accP
      | _ => [])
    | _ => []
  | .ob s _ => match slotOf fx st s with | .ref id _ => [id] | _ => []
def idsOf (E : Env) (fx : Slots E.N) (st : E.St) (vs : List LV) : List Nat := vs.flatMap (idOf E fx st)
/-- The parts that turn, by those that lead to them. -/
def refOf (E : Env) (fx : Slots E.N) (st : E.St) : LV → List Nat
  | .slot _ _ => []
  | .own s _ => match slotOf fx st s with
    | .ref id _ => (match lk st.items id with | some (.own T _) => [id, T] | _ => [id])
    | _ => []
  | .ob s _ => match slotOf fx st s with | .ref id _ => [id] | _ => []
def refsOf (E : Env) (fx : Slots E.N) (st : E.St) (vs : List LV) : List Nat := vs.flatMap (refOf E fx st)
def eqL : List Nat → List Nat → Bool
  | [], [] => true
  | a :: r, b :: s => Nat.beq a b && eqL r s
  | _, _ => false
def zipCells {N : Uni} {α β γ : Type} (g : α → β → γ) : (ks : List VK) → cellsDen N α ks → cellsDen N β ks → cellsDen N γ ks
  | [], a, b => g a b
  | _ :: r, a, b => fun x => zipCells g r (a x) (b x)
/-- Two functions of what turns, side by side. -/
def zipC {N : Uni} {α β : Type} : (vs : List LV) → Cur N α vs → Cur N β vs → Cur N (α × β) vs
  | [], a, b => (a, b)
  | .slot _ _ :: r, a, b => fun x => zipC r (a x) (b x)
  | .own _ ks :: r, a, b => zipCells (zipC r) ks a b
  | .ob _ _ :: r, a, b => fun x => zipC r (a x) (b x)
def distinct : List Nat → Bool
  | [] => true
  | i :: r => !r.elem i && distinct r
def unvar (vs : List LV) : Slots E.N → Slots E.N := fun l => l.filter fun p => !(vs.any fun v => match v with | .slot s _ => Nat.beq s p.1 | _ => false)
/-- What is told of the ends. -/
structure Ks (E : Env) where
  n : E.St → Prop
  r : E.St → Prop
  e : List (Nat × (E.St → Prop))
def keepS (fx : Slots E.N) (st : E.St) (ks : List Nat) : Slots E.N := ks.map fun s => (s, slotOf fx st s)
/-- What stays ars it is, put back. -/
def back (ks : Slots E.N) (is : Items E.N) (k : E.St → Prop) : E.St → Prop := fun st => k ⟨st.slots ++ ks, [], st.items ++ is, st.nx⟩
def backK (ks : Slots E.N) (is : Items E.N) (K : Ks E) (n : E.St → Prop) : Ks E := ⟨n, back ks is K.r, K.e.map fun p => (p.1, back ks is p.2)⟩
def without (its : Items E.N) (ids : List Nat) : Items E.N := its.filter fun p => !ids.elem p.1
def within (its : Items E.N) (ids : List Nat) : Items E.N := its.filter fun p => ids.elem p.1
/-- The guards on which an operation hangs. -/
def chain (gs : List (Nat × Nat × Bool × E.SV)) : Nat → Nat → Bool → List (Nat × Bool)
  | 0, _, _ => []
  | n + 1, j, w => (j, w) :: (match lk gs j with | some (j', w', _) => chain gs n j' w' | none => [])
def gmem (ch : List (Nat × Bool)) (j : Nat) (w : Bool) : Bool := ch.any fun p => Nat.beq p.1 j && (p.2 == w)
def evS (fx : Slots E.N) (lkd : Items E.N) (st : E.St) (ch : List (Nat × Bool)) : Operand → E.SV
  | .tmp t => match lk st.gs t with
    | some (j, w, v) => bif gmem ch j w then nrm (st.items ++ lkd) v else .un
    | none => nrm (st.items ++ lkd) (slotOf fx st t)
  | .const v => cst v
  | .global g => .con (.pointer (some ⟨g, 0, none⟩))
  | .func K => .fn K
/-- What a guard says. -/
def gprop (fx : Slots E.N) (st : E.St) : Nat → Nat → Bool → Option ((p : Prop) ×' Decidable p)
  | 0, _, _ => none
  | n + 1, j, w => match lk st.gs j with
    | some (j', w', v) => (match prop v, gprop fx st n j' w' with
      | some ⟨p, d⟩, some ⟨q, e⟩ => bif w then some ⟨q ∧ p, inferInstance⟩ else some ⟨q ∧ ¬ p, inferInstance⟩
      | _, _ => none)
    | none => (match prop (slotOf fx st j) with
      | some ⟨p, d⟩ => bif w then some ⟨p, d⟩ else some ⟨¬ p, inferInstance⟩
      | none => none)
def put (st : E.St) (d : Option Nat) (v : E.SV) : E.St := match d with | some d => ⟨(d, v) :: st.slots, st.gs, st.items, st.nx⟩ | none => st
/-- A slot that may be put. -/
def free (n : Nat) (fx : Slots E.N) (st : E.St) : Option Nat → Bool
  | none => true
  | some d => Nat.blt d n && (lk fx d).isNone && (lk st.gs d).isNone && st.gs.all fun p => !Nat.beq p.2.1 d
/-- A choice whose one side hangs on it. -/
def pickG (fx : Slots E.N) (lkd : Items E.N) (st : E.St) (ch : List (Nat × Bool)) (c a b : Operand) : Option E.SV :=
  match c with
  | .tmp j => match prop (evS fx lkd st ch c) with
    | some ⟨p, d⟩ => (match a, b with
      | .tmp t, .const (.bool false) => (match lk st.gs t with
        | some (j', w, v) => bif Nat.beq j j' && w then (match prop v with | some ⟨q, e⟩ => some (.bl (p ∧ q) inferInstance) | none => none) else none
        | none => none)
      | .const (.bool true), .tmp t => (match lk st.gs t with
        | some (j', w, v) => bif Nat.beq j j' && !w then (match prop v with | some ⟨q, e⟩ => some (.bl (p ∨ q) inferInstance) | none => none) else none
        | none => none)
      | _, _ => none)
    | none => none
  | _ => none
def pickO (fx : Slots E.N) (lkd : Items E.N) (st : E.St) (ch : List (Nat × Bool)) : Op → Option E.SV
  | .pick c a b => pickG fx lkd st ch c a b
  | _ => none
def stepG (fx : Slots E.N) (lkd : Items E.N) (st : E.St) (ch : List (Nat × Bool)) (op : Op) : Option (Q1 E.N) :=
  match pickO fx lkd st ch op with
  | some v => q0 v
  | none => stepQ E (st.items ++ lkd) (evS fx lkd st ch) op
/-- Whom a call calls, on what. -/
def callee (e : Operand → E.SV) (c : Call) : Option (Nat × List E.SV) :=
  match c.callee with
  | .value f => (match e f with
    | .fn K => some (K, c.args.toList.map e)
    | .clo K cs => some (K, c.args.toList.map e ++ cs)
    | _ => none)
  | _ => none
/-- Arguments that are lent: read ars they are. -/
def lent0 (its : Items E.N) : E.SV → E.SV
  | .acc id => match lk its id with | some (.ac t l) => .sl t l | _ => .acc id
  | v => v
def lent (its : Items E.N) : E.SV → E.SV
  | .agg vs => .agg (vs.map (lent0 its))
  | v => lent0 its v
/-- A value that leads to no part with a name. -/
def pureS {N : Uni} : SV N → Bool
  | .int _ _ => true
  | .byte _ => true
  | .tt => true
  | .ff => true
  | .bl _ _ => true
  | .str _ => true
  | .con _ => true
  | .nils => true
  | .sl _ _ => true
  | .err _ => true
  | .fn _ => true
  | .agg vs => vs.all fun v => match v with
    | .int _ _ => true
    | .byte _ => true
    | .tt => true
    | .ff => true
    | .bl _ _ => true
    | .str _ => true
    | .con _ => true
    | .nils => true
    | .sl _ _ => true
    | .err _ => true
    | _ => false
  | _ => false
abbrev Inl (E : Env) := Nat → List E.SV → Items E.N → Items E.N → Nat → (E.SV → Items E.N → Nat → Prop) → Prop
def vcCon (K : Nat) (st : E.St) (args : List E.SV) (its : Items E.N) (d : Option Nat) (k : E.St → Prop) : Prop :=
  match E.con K with
  | some C => (match C args st.nx with
    | some r => bif args.all pureS then cj r.ob (im r.hy (k (put ⟨st.slots, st.gs, number st.nx r.its ++ its, st.nx + r.its.length⟩ d r.r))) else False
    | none => False)
  | none => False
def vcLend (K : Nat) (st : E.St) (args : List E.SV) (d : Option Nat) (k : E.St → Prop) : Prop :=
  match E.con K with
  | some C => (match C args st.nx with
    | some r => bif r.its.isEmpty && args.all pureS then cj r.ob (im r.hy (k (put st d r.r))) else False
    | none => False)
  | none => False
def vcObc (o : OC E.N) (its : Items E.N) (st : E.St) (d : Option Nat) (k : E.St → Prop) : List E.SV → Prop
  | v :: args => (match v with
    | .ref id off => bif Nat.beq off 0 && (args.map (lent its)).all pureS then (match lk st.items id with
      | some (.ob k' _ x) => if h : k' = o.k then (match o.C (h ▸ x) (args.map (lent its)) with
        | some r => cj r.ob (im r.hy (k (put ⟨st.slots, st.gs, upd1 st.items id (.ob o.k st.nx r.x), st.nx + 1⟩ d r.r)))
        | none => False) else False
      | _ => False) else False
    | _ => False)
  | [] => False
def vcWrc (o : WC E.N) (its : Items E.N) (st : E.St) (d : Option Nat) (k : E.St → Prop) : List E.SV → Prop
  | [v0, .ifc T (.ref id off)] => bif Nat.beq off 0 && Nat.beq T o.T && pureS (lent its v0) then (match lk st.items id with
    | some (.own S [.int .i64 x]) => bif Nat.beq S o.S then (match o.C (lent its v0) x with
      | some r => cj r.ob (im r.hy (k (put ⟨st.slots, st.gs, upd1 st.items id (.own S [.int .i64 r.x]), st.nx⟩ d r.r)))
      | none => False) else False
    | _ => False) else False
  | _ => False
def vcCall (inl : Inl E) (fx : Slots E.N) (lkd : Items E.N) (st : E.St) (d : Option Nat) (c : Call) (k : E.St → Prop) : Prop :=
  match callee (evS fx lkd st []) c with
  | none => False
  | some (K, args) => match E.con K with
    | some _ => bif E.lend K then vcLend K st (args.map (lent (st.items ++ lkd))) d k
       else (match frz st.items args with | some (args', its) => vcCon K st args' its d k | none => False)
    | none => (match E.obc K with
      | some o => vcObc o (st.items ++ lkd) st d k args
      | none => (match E.wrc K with
      | some o => vcWrc o (st.items ++ lkd) st d k args
      | none => inl K args st.items lkd st.nx (fun v its nx => k (put ⟨st.slots, st.gs, its, nx⟩ d v))))
def opCall : Op → Option Call
  | .call c => some c
  | _ => none
def okD : Op → Option Nat → Bool
  | .store _ _ _, d => d.isNone
  | _, d => d.isSome
/-- One operation, without its guard. -/
def vcOp (q : Bool) (inl : Inl E) (fx : Slots E.N) (lkd : Items E.N) (st : E.St) (d : Option Nat) (op : Op) (ty : Nat) (k : E.St → Prop) : Prop :=
  match stepG fx lkd st [] op with
  | some a => bif d.isSome then cj a.ob (im a.hy (k (put st d a.v))) else False
  | none => bif q then False else (match stepE E st.items st.nx (evS fx lkd st []) op ty with
    | some s => bif okD op d then cj s.ob (im s.hy (k (put ⟨st.slots, st.gs, s.items, s.nx⟩ d s.v))) else False
    | none => (match opCall op with | some c => vcCall inl fx lkd st d c k | none => False))
/-- A lent call that lays nothing, under a guard. -/
def gCall (fx : Slots E.N) (lkd : Items E.N) (st : E.St) (ch : List (Nat × Bool)) (c : Call) : Option (Q1 E.N) :=
  match callee (evS fx lkd st ch) c with
  | some (K, args) => bif E.lend K then (match E.con K with
    | some C => (match C (args.map (lent (st.items ++ lkd))) st.nx with
      | some r => bif r.its.isEmpty && (args.map (lent (st.items ++ lkd))).all pureS then some ⟨r.ob, r.hy, r.r⟩ else none
      | none => none)
    | none => none) else none
  | none => none
def gOp (q : Bool) (fx : Slots E.N) (lkd : Items E.N) (st : E.St) (ch : List (Nat × Bool)) (op : Op) : Option (Q1 E.N) :=
  match stepG fx lkd st ch op with
  | some a => some a
  | none => bif q then none else (match opCall op with | some c => gCall fx lkd st ch c | none => none)
def imp (p : Prop) (l : List Prop) : List Prop := l.map fun x => p → x
def gSel (q : Bool) (fx : Slots E.N) (lkd : Items E.N) (st : E.St) (dj : Nat) (w : Bool) (d : Option Nat) (op : Op) : Option (Prop × Q1 E.N × Nat) :=
  match gprop fx st 8 dj w, gOp q fx lkd st (chain st.gs 8 dj w) op, d with
  | some ⟨p, _⟩, some a, some d => bif Nat.beq d dj then none else some (p, a, d)
  | _, _, _ => none
/-- A guard is known: what hangs on it is settled. -/
def settle (st : E.St) (dj : Nat) (b : Bool) : E.St :=
  ⟨(st.gs.filterMap fun p => match lk st.gs p.1 with | some (j, w, v) => bif Nat.beq j dj then some (p.1, bif w == b then v else .undef) else none | none => none) ++ st.slots,
   st.gs.filter (fun p => match lk st.gs p.1 with | some (j, _, _) => !Nat.beq j dj | none => false), st.items, st.nx⟩
/-- A call that is not told by a lent contract. -/
def loud (E : Env) (o : Oper) : Bool := match o.op with
  | .call c => (match c.callee with | .value (.func K) => !E.lend K | _ => false)
  | _ => false
/-- Does such a call hang on a guard? -/
def early (E : Env) (j : Nat) (l : List Oper) : Bool := l.any fun o => (match o.guard with | some (j', _) => Nat.beq j' j | none => false) && loud E o
def vcGuard (n : Nat) (e : Bool) (q : Bool) (inl : Inl E) (fx : Slots E.N) (lkd : Items E.N) (st : E.St) (dj : Nat) (w : Bool) (d : Option Nat) (op : Op) (ty : Nat) (k : E.St → Prop) : Prop :=
  match (bif e then none else gSel q fx lkd st dj w d op) with
  | some (p, a, d) => cj (imp p a.ob) (im (imp p a.hy) (k ⟨(d, .un) :: st.slots, (d, dj, w, a.v) :: st.gs, st.items, st.nx⟩))
  | none => bif (lk st.gs dj).isNone && !q then (match prop (slotOf fx st dj) with
    | some ⟨p, _⟩ => 
       (p → bif w then vcOp q inl fx lkd (put (settle st dj true) (some dj) .tt) d op ty k else k (put (put (settle st dj true) (some dj) .tt) d .undef)) ∧
       (¬ p → bif w then k (put (put (settle st dj false) (some dj) .ff) d .undef) else vcOp q inl fx lkd (put (settle st dj false) (some dj) .ff) d op ty k)
    | none => False) else False
def vcOps (n : Nat) (q : Bool) (inl : Inl E) (fx : Slots E.N) (lkd : Items E.N) (ops : List Oper) : List Oper → E.St → (E.St → Prop) → Prop
  | [], st, K => K ⟨st.slots, [], st.items, st.nx⟩
  | o :: rest, st, K => bif free n fx st o.dst && (!q || o.dst.isSome) then (match o.guard with
    | none => vcOp q inl fx lkd st o.dst o.op o.type (fun st => vcOps n q inl fx lkd ops rest st K)
    | some (j, w) => (match dstAt ops j with
      | none => False
      | some dj => bif Nat.blt dj n then (match (bif (lk st.gs dj).isNone then slotOf fx st dj else .un) with
        | .tt => bif w then vcOp q inl fx lkd st o.dst o.op o.type (fun st => vcOps n q inl fx lkd ops rest st K) else vcOps n q inl fx lkd ops rest (put st o.dst .undef) K
        | .ff => bif w then vcOps n q inl fx lkd ops rest (put st o.dst .undef) K else vcOp q inl fx lkd st o.dst o.op o.type (fun st => vcOps n q inl fx lkd ops rest st K)
        | .undef => vcOps n q inl fx lkd ops rest (put st o.dst .undef) K
        | _ => vcGuard n (early E j (o :: rest)) q inl fx lkd st dj w o.dst o.op o.type (fun st => vcOps n q inl fx lkd ops rest st K)) else False)) else False
/-- A step that turns memory, ars data. -/
def fCon (K : Nat) (st : E.St) (args : List E.SV) (its : Items E.N) : Option (S1 E.N) :=
  match E.con K with
  | some C => (match C args st.nx with
    | some r => bif args.all pureS then some ⟨r.ob, r.hy, r.r, number st.nx r.its ++ its, st.nx + r.its.length⟩ else none
    | none => none)
  | none => none
def fObc (o : OC E.N) (its : Items E.N) (st : E.St) : List E.SV → Option (S1 E.N)
  | v :: args => (match v with
    | .ref id off => bif Nat.beq off 0 && (args.map (lent its)).all pureS then (match lk st.items id with
      | some (.ob k' _ x) => if h : k' = o.k then (match o.C (h ▸ x) (args.map (lent its)) with
        | some r => some ⟨r.ob, r.hy, r.r, upd1 st.items id (.ob o.k st.nx r.x), st.nx + 1⟩
        | none => none) else none
      | _ => none) else none
    | _ => none)
  | [] => none
def fCall (fx : Slots E.N) (lkd : Items E.N) (st : E.St) (c : Call) : Option (S1 E.N) :=
  match callee (evS fx lkd st []) c with
  | none => none
  | some (K, args) => match E.con K with
    | some _ => bif E.lend K then none
       else (match frz st.items args with | some (args', its) => fCon K st args' its | none => none)
    | none => (match E.obc K with
      | some o => fObc o (st.items ++ lkd) st args
      | none => none)
def fEff (fx : Slots E.N) (lkd : Items E.N) (st : E.St) (ch : List (Nat × Bool)) (d : Option Nat) (op : Op) (ty : Nat) : Option (S1 E.N) :=
  match stepE E st.items st.nx (evS fx lkd st ch) op ty with
  | some s => bif okD op d then some s else none
  | none => bif ch.isEmpty then (match opCall op with | some c => fCall fx lkd st c | none => none) else none
/-- Drawn operations: those that turn memory, and the parts that they may turn. -/
abbrev Hints := List (Nat × List Nat)
def svIds {N : Uni} : SV N → List Nat
  | .ref id _ => [id]
  | .acc id => [id]
  | .el id _ _ _ => [id]
  | .clo _ vs => vs.flatMap fun v => match v with | .ref id _ => [id] | _ => []
  | .agg vs => vs.flatMap fun v => match v with | .acc id => [id] | .ref id _ => [id] | .el id _ _ _ => [id] | _ => []
  | _ => []
def opIds {N : Uni} (e : Operand → SV N) : Op → List Nat
  | .store _ a x => svIds (e a) ++ svIds (e x)
  | .makeInterface _ x => svIds (e x)
  | .buildSlice _ _ ps => ps.toList.flatMap fun p => svIds (e p.2)
  | .call c => (match c.callee with | .value f => svIds (e f) | _ => []) ++ c.args.toList.flatMap fun x => svIds (e x)
  | _ => []
def hintsGo (fx : Slots E.N) (lkd : Items E.N) (l : List Oper) : Nat → List Oper → E.St → Hints → Hints
  | _, [], _, H => H
  | i, o :: r, st, H => match o.guard with
    | none => (match gOp false fx lkd st [] o.op with
      | some a => hintsGo fx lkd l (i + 1) r (put st o.dst a.v) H
      | none => (match fEff fx lkd st [] o.dst o.op o.type with
        | some s => hintsGo fx lkd l (i + 1) r (put ⟨st.slots, st.gs, s.items, s.nx⟩ o.dst s.v) (H ++ [(i, opIds (evS fx lkd st []) o.op)])
        | none => []))
    | some (j, b) => (match dstAt l j with
      | some dj => (match gSel false fx lkd st dj b o.dst o.op with
        | some (_, a, d) => hintsGo fx lkd l (i + 1) r ⟨(d, .un) :: st.slots, (d, dj, b, a.v) :: st.gs, st.items, st.nx⟩ H
        | none => (match fEff fx lkd st (chain st.gs 8 dj b) o.dst o.op o.type with
          | some s => hintsGo fx lkd l (i + 1) r (put ⟨st.slots, st.gs, s.items, s.nx⟩ o.dst s.v) (H ++ [(i, opIds (evS fx lkd st (chain st.gs 8 dj b)) o.op)])
          | none => []))
      | none => [])
structure Ent (N : Uni) where
  dst : Option Nat
  g : Option (Nat × Nat × Bool)
  sv : SV N
  hy : List Prop
/-- What was told of the operations ahead, and of memory behind each that turned it. -/
structure DA (N : Uni) where
  ents : List (Ent N)
  effs : List Nat
  mems : List (Items N × Nat)
def bit (ms : List Nat) (i j : Nat) : Bool := (ms.getD i 0).testBit j
def Ent.now {N : Uni} (e : Ent N) : SV N := match e.g with | none => e.sv | some _ => .un
def dSlots {N : Uni} (p : Nat → Bool) : Nat → List (Ent N) → Slots N
  | _, [] => []
  | j, e :: r => bif p j then (match e.dst with | some d => (d, e.now) :: dSlots p (j + 1) r | none => dSlots p (j + 1) r) else dSlots p (j + 1) r
def dGs {N : Uni} (p : Nat → Bool) : Nat → List (Ent N) → List (Nat × Nat × Bool × SV N)
  | _, [] => []
  | j, e :: r => bif p j then (match e.dst, e.g with | some d, some (jj, dj, b) => (bif p jj then (d, dj, b, e.sv) :: dGs p (j + 1) r else dGs p (j + 1) r) | _, _ => dGs p (j + 1) r) else dGs p (j + 1) r
def dHy {N : Uni} (p : Nat → Bool) : Nat → List (Ent N) → List Prop
  | _, [] => []
  | j, e :: r => bif p j then e.hy ++ dHy p (j + 1) r else dHy p (j + 1) r
/-- The parts that an operation may not look at: others turn them, ahead or behind. -/
def shut (ms : List Nat) (H : Hints) (i : Nat) (pre : List Nat) : List Nat := H.flatMap fun p => bif pre.elem p.1 || bit ms p.1 i then [] else p.2
def loOf (ms : List Nat) (i : Nat) : List Nat → Nat
  | [] => 0
  | e :: r => bif bit ms i e then loOf ms i r + 1 else 0
def NX : Nat := 1000000
def cjl : List Prop → Prop
  | [] => True
  | [p] => p
  | p :: q :: r => p ∧ cjl (q :: r)
section
variable (n : Nat) (fx : Slots E.N) (lkd : Items E.N) (l : List Oper) (ms : List Nat) (H : Hints) (st0 : E.St)
def dSt (i : Nat) (a : DA E.N) (its : Items E.N) (nx : Nat) : E.St := ⟨dSlots (bit ms i) 0 a.ents ++ st0.slots.filter (fun p => keptOk ms i p.1 l 0), dGs (bit ms i) 0 a.ents, its, nx⟩
def dQuiet (i : Nat) (o : Oper) (a : DA E.N) : Option (List Prop × Ent E.N) :=
  match a.mems[loOf ms i a.effs]? with
  | none => none
  | some m => bif free n fx (dSt l ms st0 i a (without m.1 (shut ms H i (a.effs.take (loOf ms i a.effs)))) NX) o.dst then (match o.guard with
    | none => (match gOp false fx lkd (dSt l ms st0 i a (without m.1 (shut ms H i (a.effs.take (loOf ms i a.effs)))) NX) [] o.op, o.dst with
      | some q, some d => some (q.ob, ⟨some d, none, q.v, q.hy⟩)
      | _, _ => none)
    | some (j, b) => (match dstAt l j with
      | some dj => bif bit ms i j && Nat.blt dj n then (match gSel false fx lkd (dSt l ms st0 i a (without m.1 (shut ms H i (a.effs.take (loOf ms i a.effs)))) NX) dj b o.dst o.op with
        | some (p, q, d) => some (imp p q.ob, ⟨some d, some (j, dj, b), q.v, imp p q.hy⟩)
        | none => none) else none
      | none => none)) else none
/-- The guard on which an operation hangs that turns memory: it is to be shown. -/
def dG (i : Nat) (o : Oper) (st : E.St) : Option (List Prop × List (Nat × Bool)) := match o.guard with
  | none => some ([], [])
  | some (j, b) => (match dstAt l j with
    | some dj => bif bit ms i j && Nat.blt dj n && o.dst.isSome then (match gprop fx st 8 dj b with | some ⟨p, _⟩ => some ([p], chain st.gs 8 dj b) | none => none) else none
    | none => none)
def dEff (i : Nat) (o : Oper) (a : DA E.N) (T : List Nat) : Option (List Prop × Ent E.N × (Items E.N × Nat)) :=
  match a.mems[a.effs.length]? with
  | some m => bif free n fx (dSt l ms st0 i a (within m.1 T) m.2) o.dst && a.effs.all (bit ms i) then
    (match dG n fx l ms i o (dSt l ms st0 i a (within m.1 T) m.2) with
    | some (g, ch) => (match fEff fx (without m.1 T ++ lkd) (dSt l ms st0 i a (within m.1 T) m.2) ch o.dst o.op o.type with
      | some s => bif Nat.ble s.nx NX then some (g ++ s.ob, ⟨o.dst, none, bif o.dst.isSome then s.v else .un, s.hy⟩, (s.items ++ without m.1 T, s.nx)) else none
      | none => none)
    | none => none) else none
  | none => none
def dOne (i : Nat) (o : Oper) (a : DA E.N) : Option (List Prop × DA E.N) :=
  match lk H i with
  | none => (match dQuiet n fx lkd l ms H st0 i o a with | some (ob, e) => some (ob, ⟨a.ents ++ [e], a.effs, a.mems⟩) | none => none)
  | some T => (match dEff n fx lkd l ms st0 i o a T with | some (ob, e, m) => some (ob, ⟨a.ents ++ [e], a.effs ++ [i], a.mems ++ [m]⟩) | none => none)
def dGo (K : DA E.N → Prop) : Nat → List Oper → DA E.N → Prop
  | _, [], a => K a
  | i, o :: r, a => match dOne n fx lkd l ms H st0 i o a with
    | some (ob, a') => bif ob.isEmpty then dGo K (i + 1) r a' else im (dHy (bit ms i) 0 a.ents) (cjl ob) ∧ dGo K (i + 1) r a'
    | none => False
end
def dsts (l : List Oper) : List Nat := l.filterMap fun o => o.dst
def dFin (l : List Oper) (st0 : E.St) (a : DA E.N) : Option E.St :=
  match a.mems[a.effs.length]? with
  | some m => some ⟨dSlots (fun _ => true) 0 a.ents ++ st0.slots.filter (fun p => !(dsts l).elem p.1), [], m.1, m.2⟩
  | none => none
def dsFree (fx : Slots E.N) (l : List Oper) : Bool := l.all fun o => match o.dst with | some d => (lk fx d).isNone | none => true
def vcDraw (n : Nat) (fx : Slots E.N) (lkd : Items E.N) (l : List Oper) (st0 : E.St) (K : E.St → Prop) : Prop :=
  bif afterOk l && dstsU l [] && dstIn (dsts l) n l && dsFree fx l && Nat.ble st0.nx NX then
    dGo n fx lkd l (masks l) (hintsGo fx lkd l 0 l st0 []) st0 (fun a => match dFin l st0 a with | some st => im (dHy (fun _ => true) 0 a.ents) (K st) | none => False) 0 l ⟨[], [], [(st0.items, st0.nx)]⟩
  else False
/-- Operations that turn nothing. -/
def quietK : Op → Bool
  | .alloc _ => false
  | .box _ _ => false
  | .store _ _ _ => false
  | .buildSlice _ _ _ => false
  | .makeSlice _ _ _ => false
  | .makeInterface _ _ => false
  | .call c => (match c.callee with | .builtin .append => false | .builtin .copy => false | .builtin _ => true | _ => false)
  | _ => true
def quietR (l : List Oper) : Bool := drawOk l && l.all fun o => quietK o.op
/-- The first region of a piece of code. -/
def first : Code → Option Nat
  | .region id _ _ => some id
  | .seq a b => (match first a with | some i => some i | none => first b)
  | .block _ c => first c
  | .loop c => first c
  | .scope c => first c
  | .cond _ a b => (match first a with | some i => some i | none => first b)
  | _ => none
def inn (st : E.St) (ids : List Nat) : E.St := ⟨st.slots, [], within st.items ids, st.nx⟩
/-- Can the parts that turn be read off? -/
def rbOK (E : Env) (fx : Slots E.N) (st : E.St) (fx' : Slots E.N) (st' : E.St) (vs : List LV) : Bool := distinct (idsOf E fx' st' vs) && eqL (refsOf E fx' st' vs) (refsOf E fx st vs)
def rbP (E : Env) (fx : Slots E.N) (st : E.St) (fx' : Slots E.N) (st' : E.St) (vs : List LV) {α : Type} (f : Cur E.N α vs) (K : α → Prop) : Prop :=
  bif rbOK E fx st fx' st' vs then (match rbAll E fx' st' vs f with | some a => K a | none => False) else False
def vc (inl : Inl E) (an : Ann) : Code → Slots E.N → Items E.N → E.St → Ks E → Prop
  | .skip, _, _, st, K => K.n st
  | .ret, _, _, st, K => K.r st
  | .exit i, _, _, st, K => (match lk K.e i with | some k => k st | none => False)
  | .seq a b, fx, lkd, st, K => (match (first b).bind an.join with
    | none => vc inl an a fx lkd st ⟨fun st => vc inl an b fx lkd st K, K.r, K.e⟩
    | some j => ∃ J : Cur E.N Prop j.vars,
        vc inl an a (keepS fx st j.keep ++ fx) (without st.items (idsOf E fx st j.vars) ++ lkd) (inn st (idsOf E fx st j.vars))
          (backK (keepS fx st j.keep) (without st.items (idsOf E fx st j.vars)) K (fun st' => rbP E fx st (keepS fx st j.keep ++ fx) st' j.vars J id)) ∧
        allC E fx st j.vars J ⟨[], [], [], st.nx⟩ (fun x new => x → vc inl an b fx lkd ⟨new.slots ++ keepS fx st j.keep, [], new.items ++ without st.items (idsOf E fx st j.vars), new.nx⟩ K))
  | .block i c, fx, lkd, st, K => vc inl an c fx lkd st ⟨K.n, K.r, (i, K.n) :: K.e⟩
  | .cond o a b, fx, lkd, st, K => (match evS fx lkd st [] o with
    | .tt => vc inl an a fx lkd st K
    | .ff => vc inl an b fx lkd st K
    | .bl p _ => (p → vc inl an a fx lkd st K) ∧ (¬ p → vc inl an b fx lkd st K)
    | _ => False)
  | .region _ ops dr, fx, lkd, st, K => bif !dr || quietR ops.toList then vcOps an.n dr inl fx lkd ops.toList ops.toList ⟨st.slots, [], st.items, st.nx⟩ K.n else vcDraw an.n fx lkd ops.toList ⟨st.slots, [], st.items, st.nx⟩ K.n
  | .loop c, fx, lkd, st, K => (match (first c).bind an.loop with
    | none => False
    | some a => ∃ (I : Cur E.N Prop a.vars) (m : Cur E.N Nat a.vars),
        rbP E fx st (keepS fx st a.keep ++ fx) (inn st (idsOf E fx st a.vars)) a.vars (zipC a.vars I m) (fun im => im.1) ∧
        allC E fx st a.vars (zipC a.vars I m) ⟨[], [], [], st.nx⟩ (fun im new => im.1 →
          vc inl an c (keepS fx st a.keep ++ fx) (without st.items (idsOf E fx st a.vars) ++ lkd) new
            (backK (keepS fx st a.keep) (without st.items (idsOf E fx st a.vars)) K (fun st' => rbP E fx st (keepS fx st a.keep ++ fx) st' a.vars (zipC a.vars I m) (fun im' => im'.1 ∧ im'.2 < im.2)))))
  | _, _, _, _, _ => False
end Go.Rx
end
section
namespace Go.Rx
open Go Go.Wk Go.Wl
section
variable {N : Uni} {T : ErrT} {ρ : Env1} {Z : Nat → Prop} {w : World} {cs : List Value} {s : SV N}
def asI64 : SV N → Option Int
  | .int k x => match k with | .i64 => some x | _ => none
  | _ => none
def asY : SV N → Option UInt8
  | .byte x => some x
  | _ => none
def asB : SV N → Option Bool
  | .tt => some true
  | .ff => some false
  | .bl p d => some (@decide p d)
  | _ => none
def asS : SV N → Option Str
  | .str x => some x
  | _ => none
theorem RepL.one {v : Value} (h : Rep N T ρ Z w v s) (hp : plain1 v = true) : RepL N T ρ Z w [v] [s] := Rep.agg1 h hp Rep.agg0
theorem RepL.cons {v : Value} {ss : List (SV N)} (h : Rep N T ρ Z w v s) (hp : plain1 v = true) (r : RepL N T ρ Z w cs ss) : RepL N T ρ Z w (v :: cs) (s :: ss) := Rep.agg1 h hp r
theorem repI {x : Int} (h : InI x) : Rep N T ρ Z w (.int .i64 x) (.int .i64 x) := .int (fun _ => h)
theorem sv_int {x : Int} (h : dInt.rd Z w cs x) : RepL N T ρ Z w cs [.int .i64 x] := by
  obtain ⟨rfl, h⟩ := h; exact RepL.one (repI h) rfl
theorem sv_byte {x : UInt8} (h : dByte.rd Z w cs x) : RepL N T ρ Z w cs [.byte x] := by
  obtain rfl : cs = _ := h; exact RepL.one .byte rfl
theorem sv_bool {x : Bool} (h : dBool.rd Z w cs x) : RepL N T ρ Z w cs [blB x] := by
  obtain rfl : cs = _ := h
  have e : Value.bool x = .bool (@decide (x = true) inferInstance) := by cases x <;> rfl
  rw [e]; exact RepL.one .bl rfl
theorem sv_str {x : Str} (h : dStr.rd Z w cs x) : RepL N T ρ Z w cs [.str x] := by
  obtain ⟨rfl, h⟩ := h; exact RepL.one (.str h) rfl
theorem leaf1 {s : SV N} (h : ∀ vs, s ≠ .agg vs) : leaves s = [s] := by
  cases s with
  | agg vs => exact absurd rfl (h vs)
  | _ => rfl
theorem RepL.one_inv (h : RepL N T ρ Z w cs [s]) : ∃ v, cs = [v] ∧ Rep N T ρ Z w v s ∧ plain1 v = true := by
  obtain ⟨v, r, rfl, h1, hp, h2⟩ := RepL.cons_inv h
  obtain rfl := RepL.nil_inv h2
  exact ⟨v, rfl, h1, hp⟩
theorem asI64_rd {v : Value} {x : Int} (h : Rep N T ρ Z w v s) (e : asI64 s = some x) : v = .int .i64 x ∧ InI x := by
  cases h with
  | @int k y h => cases k <;> simp [asI64] at e; subst e; exact ⟨rfl, h rfl⟩
  | _ => simp [asI64] at e
theorem asY_rd {v : Value} {x : UInt8} (h : Rep N T ρ Z w v s) (e : asY s = some x) : v = bv x := by
  cases h with
  | byte => simp [asY] at e; subst e; rfl
  | _ => simp [asY] at e
theorem asB_rd {v : Value} {x : Bool} (h : Rep N T ρ Z w v s) (e : asB s = some x) : v = .bool x := by
  cases h with
  | tt => simp [asB] at e; subst e; rfl
  | ff => simp [asB] at e; subst e; rfl
  | bl => simp [asB] at e; subst e; rfl
  | _ => simp [asB] at e
theorem asS_rd {v : Value} {x : Str} (h : Rep N T ρ Z w v s) (e : asS s = some x) : v = sv x ∧ x.length ≤ 9223372036854775807 := by
  cases h with
  | str h => simp [asS] at e; subst e; exact ⟨rfl, h⟩
  | _ => simp [asS] at e
theorem bk_one {α : Type} {f : SV N → Option α} {r : Rd α} {x : α} (hf : ∀ vs, f (.agg vs) = none) (hr : ∀ v, Rep N T ρ Z w v s → f s = some x → r.rd Z w [v] x) (h : RepL N T ρ Z w cs (leaves s)) (e : f s = some x) : r.rd Z w cs x := by
  cases s with
  | agg vs => rw [hf] at e; cases e
  | _ => obtain ⟨v, rfl, h1, _⟩ := RepL.one_inv h; exact hr v h1 e
theorem bk_int {x : Int} (h : RepL N T ρ Z w cs (leaves s)) (e : asI64 s = some x) : dInt.rd Z w cs x := bk_one (fun _ => rfl) (fun v h e => by have ⟨a, b⟩ := asI64_rd h e; rw [a]; exact ⟨rfl, b⟩) h e
theorem bk_byte {x : UInt8} (h : RepL N T ρ Z w cs (leaves s)) (e : asY s = some x) : dByte.rd Z w cs x := bk_one (r := dByte) (fun _ => rfl) (fun v h e => by obtain rfl := asY_rd h e; rfl) h e
theorem bk_bool {x : Bool} (h : RepL N T ρ Z w cs (leaves s)) (e : asB s = some x) : dBool.rd Z w cs x := bk_one (r := dBool) (fun _ => rfl) (fun v h e => by obtain rfl := asB_rd h e; rfl) h e
theorem bk_str {x : Str} (h : RepL N T ρ Z w cs (leaves s)) (e : asS s = some x) : dStr.rd Z w cs x := bk_one (r := dStr) (fun _ => rfl) (fun v h e => by have ⟨a, b⟩ := asS_rd h e; rw [a]; exact ⟨rfl, b⟩) h e
end
section
variable {E : Env} {ρ : Env1} {Z : Nat → Prop} {w : World} {v : Value} {s : E.SV} {t : Nat}
theorem asL_rd {l : List (E.N.U t)} (h : Rep E.N E.T ρ Z w v s) (e : asL E t s = some l) : (dSlice (E.N.tb t).r).rd Z w [v] l := by
  cases h with
  | nils => simp [asL] at e; subst e; exact dSlice_nil
  | sl h =>
    simp only [asL] at e
    split at e
    · rename_i ht; subst ht; simp [castL] at e; subst e; exact h
    · cases e
  | _ => simp [asL] at e
end
end Go.Rx
end
section
namespace Go.Rx
open Go Go.Wk Go.Wl
variable {E : Env}
/-- One answer: of a slot, or of a cell. -/
def resS (st : E.St) : ResultVar → Option E.SV
  | .tmp t => lk st.slots t
  | .cell a T => (match lk st.slots a with
    | some (.ref id off) => (match lk st.items id with
      | some (.own _ cells) => (match E.aggOf T, E.size T with
        | some true, some n => bif Nat.beq off 0 && Nat.beq n cells.length then some (.agg cells) else none
        | _, _ => none)
      | _ => none)
    | _ => none)
def resV (fn : Func) (st : E.St) : Option E.SV := match fn.results.toList with
  | [] => some (.tup [])
  | [r] => resS st r
  | [r, s] => (match resS st r, resS st s with | some a, some b => some (.tup [a, b]) | _, _ => none)
  | [r, s, t] => (match resS st r, resS st s, resS st t with | some a, some b, some c => some (.tup [a, b, c]) | _, _, _ => none)
  | _ => none
def vcFun (inl : Inl E) (an : Ann) (fn : Func) (args : List E.SV) (its lkd : Items E.N) (nx : Nat) (k : E.SV → Items E.N → Nat → Prop) : Prop := match fn.body with
  | some c => bif Nat.ble args.length fn.ntmps then vc inl ⟨fn.ntmps, an.loop, an.join⟩ c [] lkd ⟨number 0 args, [], its, nx⟩ ⟨fun st => (match resV fn st with | some v => k v st.items st.nx | none => False), fun st => (match resV fn st with | some v => k v st.items st.nx | none => False), []⟩ else False
  | none => False
def parts (ks : List VK) (v : E.SV) : List E.SV := match ks with
  | [_] => [v]
  | _ => (match v with | .tup vs => vs | v => [v])
/-- What is told of the answer. -/
def resP (E : Env) (ks : List VK) (Q : cellsDen E.N Prop ks) : E.SV → Items E.N → Nat → Prop := fun v its _ =>
  match rbCells E its ks (parts ks v) Q with
  | some p => p
  | none => False
def inlN (an : Nat → Ann) : Nat → Inl E
  | 0 => fun _ _ _ _ _ _ => False
  | n + 1 => fun K args its lkd nx k => match E.inl K with | some fn => vcFun (inlN an n) (an K) fn args its lkd nx k | none => False
end Go.Rx
end
section
namespace Go.Rx
open Go Go.Wk Go.Wl
/-- The memory of a call and what is known of it. -/
structure Ctx where
  ρ0 : Env1
  Z0 : Nat → Prop
  w0 : World
  B0 : List Nat
  w1 : World
structure Mem (E : Env) (C : Ctx) (ρ : Env1) (Z : Nat → Prop) (w : World) (its : Items E.N) (nx : Nat) : Prop where
  sep : Sep C.B0 C.w0 Z w (toIts E.N E.T ρ C.B0 its)
  fr : ∀ i, nx ≤ i → ρ i = none
  ge : ∀ i L, C.ρ0 i = some L → ρ i = some L
  zge : ∀ b, C.Z0 b → Z b
  zle : ∀ b, Z b → C.Z0 b ∨ b ∈ C.B0 ∨ C.w0.heap.size ≤ b
section
variable {P : Program} {T : TypeId} {d : TypeDesc} {w : World}
theorem run_und (h : P.underlying T = some d) (w : World) : (underlying T).run P w = .ok d w := by
  show (match P.underlying T with | some d => pure d | none => stuck "no such type" : Sem TypeDesc).run P w = _
  rw [h]; rfl
theorem run_info {i : TypeInfo} (h : P.info? T = some i) (w : World) : (typeInfo T).run P w = .ok i w := by
  show (match P.info? T with | some i => pure i | none => stuck "no such type" : Sem TypeInfo).run P w = _
  rw [h]; rfl
theorem run_size {n : Nat} (h : (P.info? T).map (·.size) = some n) (w : World) : (sizeOf T).run P w = .ok n w := by
  cases hi : P.info? T with
  | none => rw [hi] at h; cases h
  | some i => rw [hi] at h; simp at h; subst h; unfold sizeOf; rw [Sem.run_bind, run_info hi]; rfl
theorem run_zero {v : Value} (h : (P.info? T).bind (·.zero) = some v) (w : World) : (zeroValue T).run P w = .ok v w := by
  cases hi : P.info? T with
  | none => rw [hi] at h; cases h
  | some i => rw [hi] at h; simp at h; unfold zeroValue; rw [Sem.run_bind, run_info hi, Result.andThen_ok, h]; rfl
theorem run_agg {b : Bool} (h : (match P.underlying T with | some (.struct _) => some true | some (.array _ _) => some true | some _ => some false | none => none) = some b) (w : World) : (isAgg T).run P w = .ok b w := by
  cases hu : P.underlying T with
  | none => rw [hu] at h; cases h
  | some d =>
    rw [hu] at h
    have := run_und hu w
    unfold isAgg
    rw [Sem.run_bind, this, Result.andThen_ok]
    cases d <;> simp_all
end
end Go.Rx
end
