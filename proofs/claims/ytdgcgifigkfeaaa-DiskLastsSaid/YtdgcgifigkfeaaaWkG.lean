/- Memory that the call makes: variables, rows, appends. -/
import Derived.Test.YtdgcgifigkfeaaaWkF
namespace Go.Wk
open Go

/-- A block of the call's own, known whole. -/
def Own (w : World) (b : Nat) (T : TypeId) (cs : List Value) : Prop := w.heap[b]? = some (.cells cs.toArray T (0, 0))
theorem Own.lt {w : World} {b : Nat} {T : TypeId} {cs : List Value} (h : Own w b T cs) : b < w.heap.size := lt_of_get h
theorem Own.ext {B : List Nat} {w w' : World} {b : Nat} {T : TypeId} {cs : List Value} (h : Own w b T cs) (e : Ext B w w') (hb : b ∉ B) : Own w' b T cs := e.get hb h
theorem Own.sim {w w' : World} {b : Nat} {T : TypeId} {cs : List Value} (h : Own w b T cs) (e : Sim w w') : Own w' b T cs := by obtain ⟨k, rfl⟩ := e; exact h
theorem Own.cells {w : World} {b : Nat} {T : TypeId} {cs : List Value} (h : Own w b T cs) (o : Nat) (c r : List Value) (e : cs.drop o = c ++ r) : Cells w b o c :=
  ⟨_, _, _, h, fun j hj => by
    have : (cs.drop o)[j]? = c[j]? := by rw [e, List.getElem?_append_left hj]
    rw [List.getElem?_drop] at this
    simpa using this⟩
theorem Own.all {w : World} {b : Nat} {T : TypeId} {cs : List Value} (h : Own w b T cs) : Cells w b 0 cs := h.cells 0 cs [] (by simp)
theorem Own.at {w : World} {b : Nat} {T : TypeId} {cs : List Value} (h : Own w b T cs) {i : Nat} {v : Value} (e : cs[i]? = some v) : Cells w b i [v] :=
  ⟨_, _, _, h, fun j hj => by
    have : j = 0 := by simpa using hj
    subst this
    simpa using e⟩

theorem Ext.push (w : World) (o : Obj) : Ext [] w { w with heap := w.heap.push o } :=
  ⟨rfl, rfl, rfl, by simp, fun b hb _ => by simp [Array.getElem?_push]; omega⟩
theorem Own.push (w : World) (T : TypeId) (cs : Array Value) : Own { w with heap := w.heap.push (.cells cs T) } w.heap.size T cs.toList := by
  simp [Own]

/-- Cells c laid from o on. -/
def splice (cs : List Value) (o : Nat) : List Value → List Value
  | [] => cs
  | v :: r => splice (cs.set o v) (o + 1) r
theorem splice_length (c : List Value) : ∀ (cs : List Value) (o : Nat), (splice cs o c).length = cs.length := by
  induction c with
  | nil => intro cs o; rfl
  | cons v r ih => intro cs o; simp [splice, ih]

theorem Own.setCell {w : World} {b : Nat} {T : TypeId} {cs : List Value} (h : Own w b T cs) (o : Nat) (v : Value) :
    Own (w.setCell ⟨b, o, none⟩ v) b T (cs.set o v) ∧ Ext [b] w (w.setCell ⟨b, o, none⟩ v) ∧ (w.setCell ⟨b, o, none⟩ v).heap.size = w.heap.size := by
  refine ⟨?_, ⟨rfl, rfl, rfl, by simp [World.setCell], fun k hk hb => ?_⟩, by simp [World.setCell]⟩
  · unfold Own at h ⊢
    simp [World.setCell, Array.getElem?_modify, h]
  · simp [World.setCell, Array.getElem?_modify]
    intro e; subst e; simp at hb
theorem store_run {P : Program} {w : World} {b o : Nat} {T : TypeId} {cs : List Value} {v : Value} (h : Own w b T cs) (ho : o < cs.length) (hv : plain1 v = true) :
    (store ⟨b, o, none⟩ v).run P w = .ok () (w.setCell ⟨b, o, none⟩ v) := by
  have hc : w.cell? ⟨b, o, none⟩ = some cs[o] := by unfold Own at h; simp [World.cell?, h, ho]
  have hf : w.frozen? ⟨b, o, none⟩ = false := by unfold Own at h; simp [World.frozen?, h]
  unfold store
  cases v <;> first | (simp [plain1] at hv; done) | simp [Sem.run, hc, hf]
theorem storeCells_run {P : Program} {b : Nat} {T : TypeId} : ∀ (c : List Value) (o i : Nat) (cs : List Value) (w : World), Own w b T cs → o + i + c.length ≤ cs.length → (∀ v ∈ c, plain1 v = true) →
    ∃ w', (storeCells ⟨b, o, none⟩ c i).run P w = .ok () w' ∧ Own w' b T (splice cs (o + i) c) ∧ Ext [b] w w' ∧ w'.heap.size = w.heap.size ∧ (∀ k, (storeCells ⟨b, o, none⟩ c i).run P { w with drawn := k } = .ok () { w' with drawn := k }) := by
  intro c
  induction c with
  | nil => intro o i cs w h _ _; exact ⟨w, rfl, h, Ext.refl _ _, rfl, fun _ => rfl⟩
  | cons v r ih =>
    intro o i cs w h hl hv
    have e : (Addr.add ⟨b, o, none⟩ i) = ⟨b, o + i, none⟩ := by
      unfold Addr.add; split
      · rename_i h; rw [h]; rfl
      · rfl
    simp at hl
    obtain ⟨h1, h2, h3⟩ := h.setCell (o + i) v
    have hrun := store_run (P := P) h (o := o + i) (v := v) (by omega) (hv v (by simp))
    obtain ⟨w', hr, ho, he, hs, hk⟩ := ih o (i + 1) _ _ h1 (by simp; omega) (fun u hu => hv u (by simp [hu]))
    refine ⟨w', ?_, by simpa [splice, Nat.add_assoc] using ho, h2.trB he, by rw [hs, h3], fun k => ?_⟩
    · simp only [storeCells, e, Sem.run_bind, hrun, Result.andThen_ok, hr]
    · have hrun' := store_run (P := P) (w := { w with drawn := k }) h (o := o + i) (v := v) (by omega) (hv v (by simp))
      simp only [storeCells, e, Sem.run_bind, hrun', Result.andThen_ok]
      exact hk k

section
variable {P : Program} {n : Nat} {ops : List Oper} {Q : Exit → Fr → World → Prop} {rest : List Oper} {f : Fr} {w : World} {d : Nat} {v : Value} {M : List Nat}
variable {ty T T' T2 E : TypeId} {pos : String} {after : Array Edge} {x y z : Operand} {k : IntKind} {a b c : Int} {p q : Bool}

theorem S_new {o : Oper} {e : TypeId} {cs : Array Value} {mk : Nat → Value} (hg : o.guard = none) (hd : o.dst = some d) (hn : Nat.blt d n = true)
    (hr : ∀ w1, (execOp (ev f) o).run P w1 = .ok (.value (mk w1.heap.size)) { w1 with heap := w1.heap.push (.cells cs e) })
    (K : ∀ b w', Ext [] w w' → w.heap.size = b → w'.heap.size = b + 1 → Own w' b e cs.toList → WL P false n ops Q rest (upd f d (mk b)) w') : WL P false n ops Q (o :: rest) f w :=
  WL_valW hg hd hn fun w1 hs => by
    obtain ⟨k, rfl⟩ := hs
    exact ⟨_, _, { w with heap := w.heap.push (.cells cs e) }, hr _, ⟨k, rfl⟩, K w.heap.size _ (Ext.push w _) rfl (by simp) (Own.push w e cs)⟩

theorem S_alloc {zv : Value} (hz : ∀ w, (zeroValue T).run P w = .ok zv w) (hn : Nat.blt d n = true)
    (K : ∀ b w', Ext [] w w' → w.heap.size = b → w'.heap.size = b + 1 → Own w' b T zv.cells.toList → WL P false n ops Q rest (upd f d (.pointer (some ⟨b, 0, none⟩))) w') :
    WL P false n ops Q (⟨some d, .alloc T, ty, pos, after, none⟩ :: rest) f w :=
  S_new (mk := fun b => .pointer (some ⟨b, 0, none⟩)) rfl rfl hn (fun w1 => by simp [execOp, Instr.alloc, hz, newVar, newRow, newObj, Sem.run, go_sem]) K
theorem S_box (hn : Nat.blt d n = true)
    (K : ∀ b w', Ext [] w w' → w.heap.size = b → w'.heap.size = b + 1 → Own w' b T (ev f x).cells.toList → WL P false n ops Q rest (upd f d (.pointer (some ⟨b, 0, none⟩))) w') :
    WL P false n ops Q (⟨some d, .box T x, ty, pos, after, none⟩ :: rest) f w :=
  S_new (mk := fun b => .pointer (some ⟨b, 0, none⟩)) rfl rfl hn (fun w1 => by simp [execOp, Instr.box, newVar, newRow, newObj, Sem.run, go_sem]) K

theorem S_store {b o mm : Nat} {cs c : List Value} (hz : ∀ w, (sizeOf T).run P w = .ok mm w) (hx : ev f x = .pointer (some ⟨b, o, none⟩)) (hc : (ev f y).cells.toList = c) (hm : c.length = mm) (ho : Own w b E cs) (hl : o + mm ≤ cs.length) (hp : c.all plain1 = true)
    (K : ∀ w', Ext [b] w w' → w'.heap.size = w.heap.size → Own w' b E (splice cs o c) → WL P false n ops Q rest f w') :
    WL P false n ops Q (⟨none, .store T x y, ty, pos, after, none⟩ :: rest) f w :=
  WL_skip rfl rfl fun w1 hs => by
    obtain ⟨k, rfl⟩ := hs
    obtain ⟨w', hr, ho', he, hsz, hk⟩ := storeCells_run (P := P) c o 0 cs w ho (by omega) (fun v hv => by rw [List.all_eq_true] at hp; exact hp v hv)
    refine ⟨_, w', ?_, ⟨k, rfl⟩, K w' he hsz (by simpa using ho')⟩
    have hsize : (ev f y).cells.size = mm := by rw [← Array.length_toList, hc, hm]
    have hrun : (storeVar T ⟨b, o, none⟩ (ev f y)).run P { w with drawn := k } = .ok () { w' with drawn := k } := by
      unfold storeVar
      simp only [Sem.run_bind, hz, Result.andThen_ok]
      rw [if_neg (by simp only [hsize, ne_eq, not_true_eq_false, not_false_eq_true]), hc]
      exact hk k
    simp only [execOp, hx, Instr.storeAt, Instr.sureAddr, Sem.run_bind, Sem.run_pure, Result.andThen_ok, hrun]

/-- An index into a slice whose value is known. -/
theorem S_indexV {b o mm cap sz : Nat} {i : Int} {m : Bool} (hT : ∀ w, (underlying T).run P w = .ok (.slice E) w) (hE : ∀ w, (sizeOf E).run P w = .ok sz w) (hx : ev f x = .slice (some ⟨b, o, none⟩) mm cap) (hy : ev f y = .int k i)
    (h0 : 0 ≤ i) (h1 : i < mm) (hn : Nat.blt d n = true) (K : WL P m n ops Q rest (upd f d (.pointer (some ⟨b, o + i.toNat * sz, none⟩))) w) :
    WL P m n ops Q (⟨some d, .indexAddr T x y, ty, pos, after, none⟩ :: rest) f w :=
  WL_val rfl rfl hn (v := .pointer (some ⟨b, o + i.toNat * sz, none⟩)) (fun w1 _ => by
    simp only [execOp, hx, hy, Sem.run_bind, run_indexAddr hT hE h0 h1]
    rfl) K
end

/-! ### Rows -/
theorem cells_sz1 {v : Value} (h : plain1 v = true) : v.cells = #[v] := by cases v <;> first | rfl | (simp [plain1] at h)

theorem foldl_set {cs : Array Value} : ∀ (c : List Value) (k off : Nat) (acc : Array Value), ((c.zipIdx k).foldl (fun cs (c, j) => cs.setIfInBounds (off + j) c) acc).toList = splice acc.toList (off + k) c := by
  intro c
  induction c with
  | nil => intro k off acc; rfl
  | cons v r ih =>
    intro k off acc
    simp only [List.zipIdx_cons, List.foldl_cons, splice]
    rw [ih (k + 1) off]
    simp [Nat.add_assoc]
theorem splice_append : ∀ (c : List Value) (u x r : List Value), x.length = c.length → splice (u ++ x ++ r) u.length c = u ++ c ++ r := by
  intro c
  induction c with
  | nil => intro u x r h; simp at h; subst h; simp [splice]
  | cons v c ih =>
    intro u x r h
    match x, h with
    | y :: x, h =>
      simp only [splice]
      have : (u ++ y :: x ++ r).set u.length v = (u ++ [v]) ++ x ++ r := by simp [List.set_append]
      rw [this]
      have := ih (u ++ [v]) x r (by simpa using h)
      simpa using this
/-- The parts of a slice's literal, one for each index. -/
def inOrder {α : Type} : Nat → List (Nat × α) → Bool
  | _, [] => true
  | i, (j, _) :: r => Nat.beq j i && inOrder (i + 1) r
theorem fill_all {sz : Nat} : ∀ (ps : List (Nat × Value)) (u x : List Value) (i : Nat), inOrder i ps = true → u.length = i * sz → x.length = ps.length * sz → (∀ p ∈ ps, p.2.cells.size = sz) →
    Instr.fill (fun i => some (i * sz, sz)) (u ++ x).toArray ps = some (u ++ ps.flatMap fun p => p.2.cells.toList).toArray := by
  intro ps
  induction ps with
  | nil => intro u x i _ hu hx _; simp at hx; subst hx; simp [Instr.fill]
  | cons p r ih =>
    intro u x i ho hu hx hs
    obtain ⟨j, v⟩ := p
    simp only [inOrder, Bool.and_eq_true] at ho
    have hj : j = i := Nat.eq_of_beq_eq_true ho.1
    subst hj
    have hv : v.cells.size = sz := hs (j, v) (by simp)
    have hx' : x.length = sz + r.length * sz := by rw [hx, List.length_cons, Nat.add_mul]; omega
    obtain ⟨x1, x2, rfl, h1, h2⟩ : ∃ x1 x2, x = x1 ++ x2 ∧ x1.length = sz ∧ x2.length = r.length * sz := ⟨x.take sz, x.drop sz, by simp, by simp; omega, by simp; omega⟩
    have hif : ((v.cells.size ≠ sz : Bool) || (j * sz + v.cells.size > (u ++ (x1 ++ x2)).toArray.size : Bool)) = false := by
      simp [hv, hu, h1]
    simp only [Instr.fill]
    rw [if_neg (by simp [hv, hu, h1])]
    have hfold : (v.cells.zipIdx.foldl (fun cs (c, k) => cs.setIfInBounds (j * sz + k) c) (u ++ (x1 ++ x2)).toArray) = (u ++ v.cells.toList ++ x2).toArray := by
      apply Array.ext'
      rw [← Array.foldl_toList, Array.toList_zipIdx]
      have := foldl_set (cs := #[]) v.cells.toList 0 (j * sz) (u ++ (x1 ++ x2)).toArray
      rw [this]
      simp only [List.toList_toArray, Nat.add_zero]
      rw [← hu, ← List.append_assoc]
      exact splice_append _ _ _ _ (by simp [h1, hv])
    rw [hfold, ih (u ++ v.cells.toList) x2 (j + 1) ho.2 (by simp [hu, hv, Nat.add_mul]) h2 (fun p hp => hs p (by simp [hp]))]
    simp

section
variable {P : Program} {n : Nat} {ops : List Oper} {Q : Exit → Fr → World → Prop} {rest : List Oper} {f : Fr} {w : World} {d : Nat} {v : Value} {M : List Nat}
variable {ty T T' T2 E : TypeId} {pos : String} {after : Array Edge} {x y z : Operand}

theorem S_buildSlice {len sz : Nat} {ps : Array (Nat × Operand)} {vs : List (Nat × Value)} {zv : Value} {cs : List Value} (hT : ∀ w, (underlying T).run P w = .ok (.slice E) w) (hE : ∀ w, (sizeOf E).run P w = .ok sz w) (hz : ∀ w, (zeroValue E).run P w = .ok zv w)
    (hv : ps.toList.map (fun p => (p.1, ev f p.2)) = vs) (hlen : vs.length = len) (hord : inOrder 0 vs = true) (hsz : vs.all (fun p => Nat.beq p.2.cells.size sz) = true) (hcs : (vs.flatMap fun p => p.2.cells.toList) = cs) (hsmall : Nat.ble (len * sz) 16777216 = true) (hn : Nat.blt d n = true)
    (K : ∀ b w', Ext [] w w' → w.heap.size = b → w'.heap.size = b + 1 → Own w' b E cs → WL P false n ops Q rest (upd f d (.slice (some ⟨b, 0, none⟩) len len)) w') :
    WL P false n ops Q (⟨some d, .buildSlice T len ps, ty, pos, after, none⟩ :: rest) f w := by
  subst hcs
  refine S_new (mk := fun b => .slice (some ⟨b, 0, none⟩) len len) (e := E) (cs := (vs.flatMap fun p => p.2.cells.toList).toArray) rfl rfl hn (fun w1 => ?_) (fun b w' h1 h2 h3 h4 => K b w' h1 h2 h3 (by simpa using h4))
  have hmap : (ps.map fun p => (p.1, ev f p.2)).toList = vs := by rw [← hv]; simp
  have hall : ∀ p ∈ vs, p.2.cells.size = sz := fun p hp => by rw [List.all_eq_true] at hsz; exact Nat.eq_of_beq_eq_true (hsz p hp)
  have hle : len * sz ≤ 16777216 := Nat.le_of_ble_eq_true hsmall
  have key : ∀ z : Array Value, Instr.fill (fun i => some (i * sz, sz)) ((Array.range (len * sz)).map (fun i => z[i % z.size]!)) (ps.map fun p => (p.1, ev f p.2)).toList = some (vs.flatMap fun p => p.2.cells.toList).toArray := by
    intro z
    have hf := fill_all (sz := sz) vs [] ((Array.range (len * sz)).map (fun i => z[i % z.size]!)).toList 0 hord (by simp) (by simp [hlen]) hall
    rw [hmap]
    simp only [List.nil_append, Array.toArray_toList] at hf
    exact hf
  simp only [execOp, Instr.buildSlice, Sem.run_bind, hT, hE, Result.andThen_ok]
  rw [if_neg (by omega)]
  by_cases h0 : len * sz = 0
  · have hf := key #[]
    simp only [h0, if_true, Sem.run_bind, Sem.run_pure, Result.andThen_ok]
    rw [h0] at hf
    simp only [hf, newRow, newObj, Sem.run_bind, Sem.run_pure, Result.andThen_ok, Sem.run]
  · have hf := key zv.cells
    simp only [h0, if_false, Sem.run_bind, hz, Sem.run_pure, Result.andThen_ok]
    simp only [hf, newRow, newObj, Sem.run_bind, Sem.run_pure, Result.andThen_ok, Sem.run]
end
end Go.Wk
