/- Worlds that grow; what a value reads as; loads. -/
import Derived.Test.YtdgcgifigkfeaaaWkC
namespace Go.Wk
open Go

/-! ### Worlds -/
/-- Of w's blocks all but those of B hold in w' what they held. -/
structure Ext (B : List Nat) (w w' : World) : Prop where
  os : w'.os = w.os
  tape : w'.tape = w.tape
  output : w'.output = w.output
  size : w.heap.size ≤ w'.heap.size
  block : ∀ b, b < w.heap.size → b ∉ B → w'.heap[b]? = w.heap[b]?
theorem Ext.refl (B : List Nat) (w : World) : Ext B w w := ⟨rfl, rfl, rfl, Nat.le_refl _, fun _ _ _ => rfl⟩
theorem Ext.trans {B B1 B2 : List Nat} {a b c : World} (h : Ext B1 a b) (k : Ext B2 b c) (h1 : ∀ x ∈ B1, x ∈ B ∨ a.heap.size ≤ x) (h2 : ∀ x ∈ B2, x ∈ B ∨ a.heap.size ≤ x) : Ext B a c :=
  ⟨k.os.trans h.os, k.tape.trans h.tape, k.output.trans h.output, Nat.le_trans h.size k.size, fun i hi hB =>
    (k.block i (Nat.lt_of_lt_of_le hi h.size) (fun hm => by rcases h2 i hm with h | h; exact hB h; omega)).trans (h.block i hi (fun hm => by rcases h1 i hm with h | h; exact hB h; omega))⟩
theorem Ext.tr {a b c : World} (h : Ext [] a b) (k : Ext [] b c) : Ext [] a c := h.trans k (by simp) (by simp)
theorem Ext.trB {B : List Nat} {a b c : World} (h : Ext B a b) (k : Ext B b c) : Ext B a c := h.trans k (fun x hx => .inl hx) (fun x hx => .inl hx)
theorem Ext.mono {B B' : List Nat} {a b : World} (h : Ext B a b) (hB : ∀ x ∈ B, x ∈ B' ∨ a.heap.size ≤ x) : Ext B' a b :=
  ⟨h.os, h.tape, h.output, h.size, fun i hi hn => h.block i hi fun hm => by rcases hB i hm with h | h; exact hn h; omega⟩
theorem Ext.to {B : List Nat} {a b : World} (h : Ext [] a b) : Ext B a b := h.mono (by simp)
theorem Ext.drew {B : List Nat} {a b : World} (h : Ext B a b) (n : Nat) : Ext B a { b with drawn := n } := ⟨h.os, h.tape, h.output, h.size, h.block⟩
theorem Ext.below {w w' : World} (h : Ext [] w w') : RowKit.Below w.heap.size w w' := ⟨h.os, h.tape, h.output, h.size, fun k hk => h.block k hk (by simp)⟩
theorem Ext.sim {B : List Nat} {a b c : World} (h : Ext B a b) (hs : Sim b c) : Ext B a c := by obtain ⟨k, rfl⟩ := hs; exact h.drew k
theorem Ext.get {B : List Nat} {w w' : World} {b : Nat} {o : Obj} (h : Ext B w w') (hb : b ∉ B) (ho : w.heap[b]? = some o) : w'.heap[b]? = some o := by
  have hlt : b < w.heap.size := by
    rcases Nat.lt_or_ge b w.heap.size with h | h
    · exact h
    · rw [Array.getElem?_eq_none h] at ho; cases ho
  rw [h.block b hlt hb, ho]
theorem lt_of_get {w : World} {b : Nat} {o : Obj} (ho : w.heap[b]? = some o) : b < w.heap.size := by
  rcases Nat.lt_or_ge b w.heap.size with h | h
  · exact h
  · rw [Array.getElem?_eq_none h] at ho; cases ho

/-! ### Cells -/
def Cells (w : World) (b o : Nat) (cs : List Value) : Prop := ∃ C T z, w.heap[b]? = some (.cells C T z) ∧ ∀ j, j < cs.length → C[o + j]? = cs[j]?
theorem Cells.ext {B : List Nat} {w w' : World} {b o : Nat} {cs : List Value} (h : Cells w b o cs) (e : Ext B w w') (hb : b ∉ B) : Cells w' b o cs :=
  let ⟨C, T, z, hh, hc⟩ := h; ⟨C, T, z, e.get hb hh, hc⟩
theorem Cells.sim {w w1 : World} {b o : Nat} {cs : List Value} (h : Cells w b o cs) (hs : Sim w w1) : Cells w1 b o cs := by obtain ⟨k, rfl⟩ := hs; exact h
theorem Cells.lt {w : World} {b o : Nat} {cs : List Value} (h : Cells w b o cs) : b < w.heap.size := let ⟨_, _, _, hh, _⟩ := h; lt_of_get hh
theorem Cells.left {w : World} {b o : Nat} {c1 c2 : List Value} (h : Cells w b o (c1 ++ c2)) : Cells w b o c1 :=
  let ⟨C, T, z, hh, hc⟩ := h; ⟨C, T, z, hh, fun j hj => by rw [hc j (by simp; omega), List.getElem?_append_left hj]⟩
theorem Cells.right {w : World} {b o : Nat} {c1 c2 : List Value} (h : Cells w b o (c1 ++ c2)) : Cells w b (o + c1.length) c2 :=
  let ⟨C, T, z, hh, hc⟩ := h; ⟨C, T, z, hh, fun j hj => by
    have := hc (c1.length + j) (by simp; omega)
    rw [List.getElem?_append_right (by omega)] at this
    rw [Nat.add_assoc, this]; congr 1; omega⟩
theorem Cells.cell {w : World} {b o : Nat} {cs : List Value} (h : Cells w b o cs) {j : Nat} {v : Value} (hv : cs[j]? = some v) : w.cell? ⟨b, o + j, none⟩ = some v := by
  obtain ⟨C, T, z, hh, hc⟩ := h
  have hj : j < cs.length := by
    rcases Nat.lt_or_ge j cs.length with h | h
    · exact h
    · rw [List.getElem?_eq_none h] at hv; cases hv
  simp [World.cell?, hh, hc j hj, hv]

/-! ### Readings -/
def plain1 : Value → Bool
  | .agg _ => false
  | .tuple _ => false
  | _ => true
structure Rep (α : Type) where
  sz : Nat
  rd : List Nat → World → List Value → α → Prop
  len : ∀ {M w cs x}, rd M w cs x → cs.length = sz
  mono : ∀ {M M' B w w' cs x}, rd M w cs x → Ext B w w' → (∀ b ∈ B, b ∈ M ∨ w.heap.size ≤ b) → (∀ b ∈ M', b ∈ M ∨ w.heap.size ≤ b) → rd M' w' cs x
  plain : ∀ {M w cs x}, rd M w cs x → cs.all plain1 = true

theorem Rep.ext {α : Type} (r : Rep α) {M : List Nat} {w w' : World} {cs : List Value} {x : α} (h : r.rd M w cs x) (e : Ext [] w w') : r.rd M w' cs x := r.mono h e (by simp) (fun b hb => .inl hb)
theorem Rep.extB {α : Type} (r : Rep α) {M B : List Nat} {w w' : World} {cs : List Value} {x : α} (h : r.rd M w cs x) (e : Ext B w w') (hB : ∀ b ∈ B, b ∈ M) : r.rd M w' cs x := r.mono h e (fun b hb => .inl (hB b hb)) (fun b hb => .inl hb)
theorem Rep.one {α : Type} (r : Rep α) (hs : r.sz = 1) {M : List Nat} {w : World} {cs : List Value} {x : α} (h : r.rd M w cs x) : ∃ v, cs = [v] := by
  have := r.len h
  rw [hs] at this
  match cs, this with
  | [v], _ => exact ⟨v, rfl⟩

def InI (x : Int) : Prop := -9223372036854775808 ≤ x ∧ x ≤ 9223372036854775807
def rInt : Rep Int where
  sz := 1
  rd := fun _ _ cs x => cs = [.int .i64 x] ∧ InI x
  len := fun h => by rw [h.1]; rfl
  mono := fun h _ _ _ => h
  plain := fun h => by rw [h.1]; rfl
def rBool : Rep Bool where
  sz := 1
  rd := fun _ _ cs x => cs = [.bool x]
  len := fun h => by rw [h]; rfl
  mono := fun h _ _ _ => h
  plain := fun h => by rw [h]; rfl
def rByte : Rep UInt8 where
  sz := 1
  rd := fun _ _ cs x => cs = [.int .u8 x.toNat]
  len := fun h => by rw [h]; rfl
  mono := fun h _ _ _ => h
  plain := fun h => by rw [h]; rfl
abbrev Str := List UInt8
def sv (s : Str) : Value := .string ⟨s.toArray⟩
def rStr : Rep Str where
  sz := 1
  rd := fun _ _ cs s => cs = [sv s] ∧ s.length ≤ 9223372036854775807
  len := fun h => by rw [h.1]; rfl
  mono := fun h _ _ _ => h
  plain := fun h => by rw [h.1]; rfl
def rPair {α β : Type} (r : Rep α) (s : Rep β) : Rep (α × β) where
  sz := r.sz + s.sz
  rd := fun M w cs x => ∃ c1 c2, cs = c1 ++ c2 ∧ r.rd M w c1 x.1 ∧ s.rd M w c2 x.2
  len := fun ⟨c1, c2, e, h1, h2⟩ => by rw [e, List.length_append, r.len h1, s.len h2]
  mono := fun ⟨c1, c2, e, h1, h2⟩ a b c => ⟨c1, c2, e, r.mono h1 a b c, s.mono h2 a b c⟩
  plain := fun ⟨c1, c2, e, h1, h2⟩ => by rw [e, List.all_append, r.plain h1, s.plain h2]; rfl
def Rep.map {α β : Type} (r : Rep α) (g : β → α) : Rep β where
  sz := r.sz
  rd := fun M w cs y => r.rd M w cs (g y)
  len := r.len
  mono := r.mono
  plain := r.plain
def rSlice {α : Type} (r : Rep α) : Rep (List α) where
  sz := 1
  rd := fun M w cs l => l.length ≤ 9223372036854775807 ∧ ∃ A cap, cs = [.slice A l.length cap] ∧ (A = none → cap = 0) ∧ ∀ i (h : i < l.length), ∃ b o c, A = some ⟨b, o, none⟩ ∧ b ∉ M ∧ Cells w b (o + i * r.sz) c ∧ r.rd M w c l[i]
  len := fun ⟨_, A, cap, e, _⟩ => by rw [e]; rfl
  mono := fun ⟨hl, A, cap, e, h0, h⟩ hx hB hM => ⟨hl, A, cap, e, h0, fun i hi => by
    obtain ⟨b, o, c, e1, hb, hc, hr⟩ := h i hi
    have hlt := hc.lt
    exact ⟨b, o, c, e1, fun hm => by rcases hM b hm with h | h; exact hb h; omega, hc.ext hx (fun hm => by rcases hB b hm with h | h; exact hb h; omega), r.mono hr hx hB hM⟩⟩
  plain := fun ⟨_, A, cap, e, _⟩ => by rw [e]; rfl
def rPtr {α : Type} (r : Rep α) : Rep α where
  sz := 1
  rd := fun M w cs x => ∃ b o c, cs = [.pointer (some ⟨b, o, none⟩)] ∧ b ∉ M ∧ Cells w b o c ∧ r.rd M w c x
  len := fun ⟨_, _, _, e, _⟩ => by rw [e]; rfl
  mono := fun ⟨b, o, c, e, hb, hc, hr⟩ hx hB hM =>
    have hlt := hc.lt
    ⟨b, o, c, e, fun hm => by rcases hM b hm with h | h; exact hb h; omega, hc.ext hx (fun hm => by rcases hB b hm with h | h; exact hb h; omega), r.mono hr hx hB hM⟩
  plain := fun ⟨_, _, _, e, _⟩ => by rw [e]; rfl

section
variable {α β : Type} {r : Rep α} {s : Rep β} {M : List Nat} {w : World}
theorem rPair_cells {b o : Nat} {cs : List Value} {x : α × β} (hc : Cells w b o cs) (h : (rPair r s).rd M w cs x) :
    ∃ c1 c2, (Cells w b o c1 ∧ r.rd M w c1 x.1) ∧ (Cells w b (o + r.sz) c2 ∧ s.rd M w c2 x.2) ∧ cs = c1 ++ c2 := by
  obtain ⟨c1, c2, rfl, h1, h2⟩ := h
  exact ⟨c1, c2, ⟨hc.left, h1⟩, ⟨by rw [← r.len h1]; exact hc.right, h2⟩, rfl⟩
theorem rSlice_at {v : Value} {l : List α} (h : (rSlice r).rd M w [v] l) {i : Nat} (hi : i < l.length) :
    ∃ b o cap c, v = .slice (some ⟨b, o, none⟩) l.length cap ∧ b ∉ M ∧ Cells w b (o + i * r.sz) c ∧ r.rd M w c l[i] := by
  obtain ⟨_, A, cap, e, _, h⟩ := h
  obtain ⟨b, o, c, rfl, hb, hc, hr⟩ := h i hi
  exact ⟨b, o, cap, c, by simpa using e, hb, hc, hr⟩
theorem rSlice_len {v : Value} {l : List α} (h : (rSlice r).rd M w [v] l) : l.length ≤ 9223372036854775807 := h.1
theorem rSlice_val {v : Value} {l : List α} (h : (rSlice r).rd M w [v] l) : ∃ A cap, v = .slice A l.length cap := by
  obtain ⟨_, A, cap, e, _⟩ := h; exact ⟨A, cap, by simpa using e⟩
theorem rSlice_nil : (rSlice r).rd M w [.slice none 0 0] [] := ⟨by simp, none, 0, rfl, fun _ => rfl, fun i hi => by simp at hi⟩
end

/-! ### The rules -/
section
variable {P : Program} {m : Bool} {n : Nat} {ops : List Oper} {Q : Exit → Fr → World → Prop} {rest : List Oper} {f : Fr} {w w' : World} {d : Nat} {v : Value} {M : List Nat}
variable {ty T T' T2 E : TypeId} {pos : String} {after : Array Edge} {x y z : Operand} {k : IntKind} {a b c : Int} {p q : Bool}
variable {α β : Type} {r : Rep α} {s : Rep β}

theorem S_lenR {l : List α} (hT : ∀ w, (underlying T).run P w = .ok (.slice E) w) (h : (rSlice r).rd M w [ev f x] l) (hn : Nat.blt d n = true) (K : WL P m n ops Q rest (upd f d (.int .i64 l.length)) w) :
    WL P m n ops Q (⟨some d, .call ⟨.builtin .len, #[x], #[T]⟩, ty, pos, after, none⟩ :: rest) f w := by
  obtain ⟨A, cap, e⟩ := rSlice_val h
  exact S_len hT e hn K

theorem run_indexAddr {b o mm cap sz : Nat} {i : Int} (hT : ∀ w, (underlying T).run P w = .ok (.slice E) w) (hE : ∀ w, (sizeOf E).run P w = .ok sz w) (h0 : 0 ≤ i) (h1 : i < mm) (w : World) :
    (Instr.indexAt T (.slice (some ⟨b, o, none⟩) mm cap) (.int k i)).run P w = .ok (.pointer (some ⟨b, o + i.toNat * sz, none⟩)) w := by
  have e : (Addr.add ⟨b, o, none⟩ (i.toNat * sz)) = ⟨b, o + i.toNat * sz, none⟩ := by
    unfold Addr.add; split
    · rename_i h; rw [h]; rfl
    · rfl
  simp [Instr.indexAt, asIntOf, hT, hE, h0, h1, go_sem, e]

theorem S_index {l : List α} {i : Int} (hT : ∀ w, (underlying T).run P w = .ok (.slice E) w) (hE : ∀ w, (sizeOf E).run P w = .ok r.sz w) (hx : (rSlice r).rd M w [ev f x] l) (hy : ev f y = .int k i)
    (h0 : 0 ≤ i) (h1 : i < l.length) (hn : Nat.blt d n = true) (K : ∀ b o cs (hi : i.toNat < l.length), Cells w b o cs → b ∉ M → r.rd M w cs (l[i.toNat]) → WL P m n ops Q rest (upd f d (.pointer (some ⟨b, o, none⟩))) w) :
    WL P m n ops Q (⟨some d, .indexAddr T x y, ty, pos, after, none⟩ :: rest) f w := by
  have hi : i.toNat < l.length := by omega
  obtain ⟨b, o, cap, c, e, hb, hc, hr⟩ := rSlice_at hx hi
  refine WL_val rfl rfl hn (v := .pointer (some ⟨b, o + i.toNat * r.sz, none⟩)) (fun w1 hs => ?_) (K _ _ _ hi hc hb hr)
  simp only [execOp, e, hy, Sem.run_bind, run_indexAddr hT hE h0 h1]
  rfl

theorem run_load {b o : Nat} {v : Value} (hA : ∀ w, (isAgg T).run P w = .ok false w) (hc : Cells w b o [v]) : (Instr.loadAt T (.pointer (some ⟨b, o, none⟩))).run P w = .ok v w := by
  have h := hc.cell (j := 0) (v := v) rfl
  simp only [Nat.add_zero] at h
  simp [Instr.loadAt, Instr.sureAddr, loadVar, hA, go_sem, load, Sem.run, h]

theorem S_load1 {b o : Nat} (hA : ∀ w, (isAgg T).run P w = .ok false w) (hx : ev f x = .pointer (some ⟨b, o, none⟩)) (hc : Cells w b o [v]) (hn : Nat.blt d n = true) (K : WL P m n ops Q rest (upd f d v) w) :
    WL P m n ops Q (⟨some d, .load T x, ty, pos, after, none⟩ :: rest) f w :=
  WL_val rfl rfl hn (v := v) (fun w1 hs => by simp only [execOp, hx, Sem.run_bind, run_load hA (hc.sim hs)]; rfl) K
theorem S_loadI {b o : Nat} {cs : List Value} {i : Int} (hA : ∀ w, (isAgg T).run P w = .ok false w) (hx : ev f x = .pointer (some ⟨b, o, none⟩)) (hc : Cells w b o cs) (hr : rInt.rd M w cs i) (hn : Nat.blt d n = true)
    (K : InI i → WL P m n ops Q rest (upd f d (.int .i64 i)) w) : WL P m n ops Q (⟨some d, .load T x, ty, pos, after, none⟩ :: rest) f w := by
  obtain ⟨rfl, h⟩ := hr
  exact S_load1 hA hx hc hn (K h)
theorem S_loadB {b o : Nat} {cs : List Value} (hA : ∀ w, (isAgg T).run P w = .ok false w) (hx : ev f x = .pointer (some ⟨b, o, none⟩)) (hc : Cells w b o cs) (hr : rBool.rd M w cs p) (hn : Nat.blt d n = true)
    (K : WL P m n ops Q rest (upd f d (.bool p)) w) : WL P m n ops Q (⟨some d, .load T x, ty, pos, after, none⟩ :: rest) f w := by
  have h : cs = _ := hr
  subst h
  exact S_load1 hA hx hc hn K
theorem S_loadS {b o : Nat} {cs : List Value} {t : Str} (hA : ∀ w, (isAgg T).run P w = .ok false w) (hx : ev f x = .pointer (some ⟨b, o, none⟩)) (hc : Cells w b o cs) (hr : rStr.rd M w cs t) (hn : Nat.blt d n = true)
    (K : t.length ≤ 9223372036854775807 → WL P m n ops Q rest (upd f d (sv t)) w) : WL P m n ops Q (⟨some d, .load T x, ty, pos, after, none⟩ :: rest) f w := by
  obtain ⟨rfl, h⟩ := hr
  exact S_load1 hA hx hc hn (K h)
/-- A value of one cell, whatever it reads as. -/
theorem S_loadR {b o : Nat} {cs : List Value} {t : α} (hA : ∀ w, (isAgg T).run P w = .ok false w) (hx : ev f x = .pointer (some ⟨b, o, none⟩)) (hc : Cells w b o cs) (hr : r.rd M w cs t) (hs : r.sz = 1) (hn : Nat.blt d n = true)
    (K : ∀ v, r.rd M w [v] t → WL P m n ops Q rest (upd f d v) w) : WL P m n ops Q (⟨some d, .load T x, ty, pos, after, none⟩ :: rest) f w := by
  obtain ⟨v, rfl⟩ := r.one hs hr
  exact S_load1 hA hx hc hn (K v hr)
theorem loadCellsFrom_run {b o : Nat} {cs : List Value} (hc : Cells w b o cs) : ∀ (mm i : Nat) (acc : Array Value), i + mm = cs.length → (loadCellsFrom ⟨b, o, none⟩ i mm acc).run P w = .ok (acc ++ (cs.drop i).toArray) w := by
  intro mm
  induction mm with
  | zero => intro i acc h; simp only [loadCellsFrom]; rw [List.drop_of_length_le (by omega)]; simp [Sem.run, pure]
  | succ mm ih =>
    intro i acc h
    have hi : i < cs.length := by omega
    have hcell := hc.cell (j := i) (v := cs[i]) (by simp [hi])
    have e : (Addr.add ⟨b, o, none⟩ i) = ⟨b, o + i, none⟩ := by
      unfold Addr.add; split
      · rename_i h; rw [h]; rfl
      · rfl
    simp only [loadCellsFrom, e, Sem.run_bind, load, Sem.run, hcell, Result.andThen_ok]
    rw [ih (i + 1) _ (by omega), List.drop_eq_getElem_cons hi]
    simp
theorem S_loadAgg {b o mm : Nat} {cs : List Value} (hA : ∀ w, (isAgg T).run P w = .ok true w) (hz : ∀ w, (sizeOf T).run P w = .ok mm w) (hl : cs.length = mm) (hx : ev f x = .pointer (some ⟨b, o, none⟩)) (hc : Cells w b o cs) (hn : Nat.blt d n = true)
    (K : WL P m n ops Q rest (upd f d (.agg cs.toArray)) w) : WL P m n ops Q (⟨some d, .load T x, ty, pos, after, none⟩ :: rest) f w :=
  WL_val rfl rfl hn (v := .agg cs.toArray) (fun w1 hs => by
    have h := loadCellsFrom_run (P := P) (hc.sim hs) cs.length 0 #[] (by omega)
    simp only [List.drop_zero, Array.empty_append] at h
    subst hl
    simp [execOp, hx, Instr.loadAt, Instr.sureAddr, loadVar, hA, hz, loadCells, h, go_sem]) K
theorem S_fieldAddr {b o i : Nat} {fs : Array Field} {fd : Field} {mm : Nat} (hT : ∀ w, (underlying T).run P w = .ok (.struct fs) w) (hf : fs[i]? = some fd) (hz : ∀ w, (sizeOf fd.type).run P w = .ok (mm + 1) w) (hx : ev f x = .pointer (some ⟨b, o, none⟩)) (hn : Nat.blt d n = true)
    (K : WL P m n ops Q rest (upd f d (.pointer (some ⟨b, o + fd.offset, none⟩))) w) : WL P m n ops Q (⟨some d, .fieldAddr T x i, ty, pos, after, none⟩ :: rest) f w :=
  WL_val rfl rfl hn (v := .pointer (some ⟨b, o + fd.offset, none⟩)) (fun w1 hs => by
    have e : (Addr.add ⟨b, o, none⟩ fd.offset) = ⟨b, o + fd.offset, none⟩ := by
      unfold Addr.add; split
      · rename_i h; rw [h]; rfl
      · rfl
    simp [execOp, hx, Instr.fieldAt, Instr.sureAddr, fieldPlace, hT, hf, hz, go_sem, e]) K
end
end Go.Wk
