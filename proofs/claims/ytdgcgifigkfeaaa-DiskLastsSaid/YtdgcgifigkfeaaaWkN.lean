/- Maps: the rules. -/
import Derived.Test.YtdgcgifigkfeaaaWkM
namespace Go.Wk
open Go

theorem Ext.setObj (w : World) (r : Nat) (o : Obj) : Ext [r] w { w with heap := w.heap.setIfInBounds r o } :=
  ⟨rfl, rfl, rfl, by simp, fun b hb hn => by simp at hn; simp [Array.getElem?_setIfInBounds_ne (Ne.symm hn)]⟩
theorem setObj_get {w : World} {r : Nat} {o o' : Obj} (h : w.heap[r]? = some o) : ({ w with heap := w.heap.setIfInBounds r o' } : World).heap[r]? = some o' := by
  have := lt_of_get h
  simp [this]
theorem getObj_run {P : Program} {w : World} {r : Nat} {o : Obj} (h : w.heap[r]? = some o) (hc : ∀ a b c, o ≠ .cells a b c) : (getObj r).run P w = .ok o w := by
  unfold getObj
  cases o <;> first | (simp only [Sem.run, h]; done) | exact absurd rfl (hc _ _ _)
theorem setObj_run {P : Program} {w : World} {r : Nat} {o o' : Obj} (h : w.heap[r]? = some o) (hc : ∀ a b c, o ≠ .cells a b c) : (setObj r o').run P w = .ok () { w with heap := w.heap.setIfInBounds r o' } := by
  unfold setObj
  cases o <;> first | (simp only [Sem.run, h]; done) | exact absurd rfl (hc _ _ _)

section
variable {κ : Type} {ky : Key κ}
theorem findL_at [DecidableEq κ] {L : List (κ × Value)} {k : κ} {v0 : Value} : ∀ {j : Nat}, findL L k 0 = some (j, v0) → L[j]? = some (k, v0) := by
  induction L with
  | nil => intro j h; simp [findL] at h
  | cons p r ih =>
    intro j h
    simp only [findL] at h
    split at h
    · rename_i hk; simp at h; obtain ⟨rfl, rfl⟩ := h; subst hk; rfl
    · rw [findL_shift] at h
      cases hf : findL r k 0 with
      | none => rw [hf] at h; simp at h
      | some q =>
        obtain ⟨j', v1⟩ := q
        rw [hf] at h; simp at h
        obtain ⟨rfl, rfl⟩ := h
        rw [show 0 + 1 + j' = j' + 1 by omega]
        simpa using ih hf
theorem Good.key_at {es : List MapEntry} {clk : Nat} {L : List (κ × Value)} (g : Good ky es clk L) {j : Nat} {k : κ} {v : Value} (h : L[j]? = some (k, v)) : ∃ e, es[j]? = some e ∧ e.key = ky.enc k ∧ e.val = v := by
  have := congrArg (·[j]?) g.same
  simp only [pairs, List.getElem?_map, h] at this
  cases he : es[j]? with
  | none => rw [he] at this; simp at this
  | some e => rw [he] at this; simp at this; exact ⟨e, rfl, this.1, this.2⟩

variable {P : Program} {m : Bool} {n : Nat} {ops : List Oper} {Q : Exit → Fr → World → Prop} {rest : List Oper} {f : Fr} {w : World} {d b : Nat} {v zv : Value} {L : List (κ × Value)} {k : κ}
variable {ty T Kt E : TypeId} {pos : String} {after : Array Edge} {x y z : Operand}

theorem S_makeMap (hn : Nat.blt d n = true)
    (K : ∀ b w', Ext [] w w' → w.heap.size = b → w'.heap.size = b + 1 → MapAt ky w' b [] → WL P false n ops Q rest (upd f d (.map (some b))) w') :
    WL P false n ops Q (⟨some d, .makeMap T none, ty, pos, after, none⟩ :: rest) f w :=
  WL_valW rfl rfl hn fun w1 hs => by
    obtain ⟨kk, rfl⟩ := hs
    refine ⟨.map (some w.heap.size), _, { w with heap := w.heap.push (.map #[] 0) }, ?_, ⟨kk, rfl⟩, K w.heap.size _ (Ext.push w _) rfl (by simp) ⟨#[], 0, by simp, ⟨rfl, by simp, by simp, by simp⟩⟩⟩
    simp [execOp, Instr.makeMap, newObj, Sem.run, go_sem]

theorem findKey_run [DecidableEq κ] (hK : ∀ w, (underlying Kt).run P w = .ok ky.kind w) {es : List MapEntry} {clk : Nat} (g : Good ky es clk L) (w : World) : (Instr.findKey Kt (ky.enc k) es).run P w = .ok (findL L k 0) w := by
  simp only [Instr.findKey, Sem.run_bind, hK, Result.andThen_ok, findNow_eq ky k es L 0 g.same]
  rfl

theorem mapUpdate_run [DecidableEq κ] (hT : ∀ w, (underlying T).run P w = .ok (.map Kt E) w) (hK : ∀ w, (underlying Kt).run P w = .ok ky.kind w) (h : MapAt ky w b L) (v : Value) : ∃ w', Ext [b] w w' ∧ w'.heap.size = w.heap.size ∧ MapAt ky w' b (putL L k v) ∧
    ∀ kk, (Instr.mapUpdate T (.map (some b)) (ky.enc k) v).run P { w with drawn := kk } = .ok () { w' with drawn := kk } := by
  obtain ⟨es, clk, hh, g⟩ := h
  cases hf : findL L k 0 with
  | some q =>
    obtain ⟨j, v0⟩ := q
    obtain ⟨e, he, hek, _⟩ := g.key_at (findL_at hf)
    have g2 := g.put_old (v := v) hf
    refine ⟨{ w with heap := w.heap.setIfInBounds b (.map (es.modify j fun e => { e with key := ky.enc k, val := v }) clk) }, Ext.setObj w b _, by simp, ⟨_, clk, setObj_get hh, by simpa using g2⟩, fun kk => ?_⟩
    have he' : es[j]? = some e := by simpa using he
    have hstay : ∀ w, (Instr.keyThatStays (ky.enc k) (ky.enc k)).run P w = .ok (ky.enc k) w := fun w => by simp only [Instr.keyThatStays, ky.bits, if_true]; rfl
    simp only [Instr.mapUpdate, Sem.run_bind, hT, Result.andThen_ok, getObj_run (w := { w with drawn := kk }) hh (by simp), ky.check P Kt false k _ hK, findKey_run hK g, hf, he', Option.map_some, Option.getD_some, hek, hstay, setObj_run (w := { w with drawn := kk }) hh (by simp)]
  | none =>
    have g2 := g.put_new (v := v) hf
    refine ⟨{ w with heap := w.heap.setIfInBounds b (.map (es.push { key := ky.enc k, val := v, born := clk }) (clk + 1)) }, Ext.setObj w b _, by simp, ⟨_, clk + 1, setObj_get hh, by simpa using g2⟩, fun kk => ?_⟩
    simp only [Instr.mapUpdate, Sem.run_bind, hT, Result.andThen_ok, getObj_run (w := { w with drawn := kk }) hh (by simp), ky.check P Kt false k _ hK, findKey_run hK g, hf, setObj_run (w := { w with drawn := kk }) hh (by simp)]

theorem S_mapUpdate [DecidableEq κ] (hT : ∀ w, (underlying T).run P w = .ok (.map Kt E) w) (hK : ∀ w, (underlying Kt).run P w = .ok ky.kind w) (hx : ev f x = .map (some b)) (hy : ev f y = ky.enc k) (hv : ev f z = v) (h : MapAt ky w b L)
    (K : ∀ w', Ext [b] w w' → w'.heap.size = w.heap.size → MapAt ky w' b (putL L k v) → WL P false n ops Q rest f w') : WL P false n ops Q (⟨none, .mapUpdate T x y z, ty, pos, after, none⟩ :: rest) f w :=
  WL_skip rfl rfl fun w1 hs => by
    obtain ⟨kk, rfl⟩ := hs
    obtain ⟨w', h1, h2, h3, h4⟩ := mapUpdate_run (k := k) hT hK h v
    refine ⟨_, w', ?_, ⟨kk, rfl⟩, K w' h1 h2 h3⟩
    simp only [execOp, hx, hy, hv, Sem.run_bind, h4 kk, Result.andThen_ok, Sem.run_pure]
theorem S_insert [DecidableEq κ] (hT : ∀ w, (underlying T).run P w = .ok (.map Kt E) w) (hK : ∀ w, (underlying Kt).run P w = .ok ky.kind w) (hx : ev f x = .map (some b)) (hy : ev f y = ky.enc k) (hv : ev f z = v) (h : MapAt ky w b L)
    (K : ∀ w', Ext [b] w w' → w'.heap.size = w.heap.size → MapAt ky w' b (putL L k v) → WL P false n ops Q rest f w') : WL P false n ops Q (⟨none, .insert T x y z, ty, pos, after, none⟩ :: rest) f w :=
  WL_skip rfl rfl fun w1 hs => by
    obtain ⟨kk, rfl⟩ := hs
    obtain ⟨w', h1, h2, h3, h4⟩ := mapUpdate_run (k := k) hT hK h v
    refine ⟨_, w', ?_, ⟨kk, rfl⟩, K w' h1 h2 h3⟩
    simp only [execOp, hx, hy, hv, Sem.run_bind, h4 kk, Result.andThen_ok, Sem.run_pure]

theorem lookup_run [DecidableEq κ] (hT : ∀ w, (underlying T).run P w = .ok (.map Kt E) w) (hK : ∀ w, (underlying Kt).run P w = .ok ky.kind w) (hz : ∀ w, (zeroValue E).run P w = .ok zv w) (h : MapAt ky w b L) (ok : Bool) (w1 : World) (hs : Sim w w1) :
    (Instr.lookup T (.map (some b)) (ky.enc k) ok).run P w1 = .ok (if ok then .tuple #[(getL L k).getD zv, .bool (getL L k).isSome] else (getL L k).getD zv) w1 := by
  obtain ⟨es, clk, hh, g⟩ := h
  have hh' : w1.heap[b]? = some (.map es clk) := by rw [hs.heap]; exact hh
  have hg := findL_get L k 0
  simp only [Instr.lookup, Sem.run_bind, hT, Result.andThen_ok, getObj_run hh' (by simp), ky.check P Kt _ k _ hK, findKey_run hK g, Sem.run_pure]
  cases hf : findL L k 0 with
  | some q => rw [hf] at hg; simp at hg; simp [← hg, go_sem]
  | none => rw [hf] at hg; simp at hg; simp [← hg, hz, go_sem]
theorem S_lookup [DecidableEq κ] (hT : ∀ w, (underlying T).run P w = .ok (.map Kt E) w) (hK : ∀ w, (underlying Kt).run P w = .ok ky.kind w) (hz : ∀ w, (zeroValue E).run P w = .ok zv w) (hx : ev f x = .map (some b)) (hy : ev f y = ky.enc k) (h : MapAt ky w b L)
    (hv : (getL L k).getD zv = v) (hn : Nat.blt d n = true) (K : WL P m n ops Q rest (upd f d v) w) : WL P m n ops Q (⟨some d, .lookup T x y false, ty, pos, after, none⟩ :: rest) f w :=
  WL_val rfl rfl hn (v := v) (fun w1 hs => by
    subst hv
    simp only [execOp, hx, hy, Sem.run_bind, lookup_run hT hK hz h false w1 hs]
    rfl) K
theorem S_lookupOk [DecidableEq κ] {p : Bool} (hT : ∀ w, (underlying T).run P w = .ok (.map Kt E) w) (hK : ∀ w, (underlying Kt).run P w = .ok ky.kind w) (hz : ∀ w, (zeroValue E).run P w = .ok zv w) (hx : ev f x = .map (some b)) (hy : ev f y = ky.enc k) (h : MapAt ky w b L)
    (hv : (getL L k).getD zv = v) (hp : (getL L k).isSome = p) (hn : Nat.blt d n = true) (K : WL P m n ops Q rest (upd f d (.tuple #[v, .bool p])) w) : WL P m n ops Q (⟨some d, .lookup T x y true, ty, pos, after, none⟩ :: rest) f w :=
  WL_val rfl rfl hn (v := .tuple #[v, .bool p]) (fun w1 hs => by
    subst hv; subst hp
    simp only [execOp, hx, hy, Sem.run_bind, lookup_run hT hK hz h true w1 hs]
    rfl) K

theorem delete_run [DecidableEq κ] {Ty : TypeId} (hT : ∀ w, (underlying T).run P w = .ok (.map Kt E) w) (hK : ∀ w, (underlying Kt).run P w = .ok ky.kind w) (h : MapAt ky w b L) : ∃ w', Ext [b] w w' ∧ w'.heap.size = w.heap.size ∧ MapAt ky w' b (delL L k) ∧
    ∀ kk, (Builtin.delete_ #[T, Kt] Ty #[.map (some b), ky.enc k]).run P { w with drawn := kk } = .ok (.tuple #[]) { w' with drawn := kk } := by
  obtain ⟨es, clk, hh, g⟩ := h
  cases hf : findL L k 0 with
  | some q =>
    obtain ⟨j, v0⟩ := q
    have g2 := g.del hf
    refine ⟨{ w with heap := w.heap.setIfInBounds b (.map (es.eraseIdxIfInBounds j) clk) }, Ext.setObj w b _, by simp, ⟨_, clk, setObj_get hh, ?_⟩, fun kk => ?_⟩
    · have hj : j < es.size := by
        obtain ⟨e, he, _⟩ := g.key_at (findL_at hf)
        rcases Nat.lt_or_ge j es.size with h | h
        · exact h
        · rw [List.getElem?_eq_none (by simpa using h)] at he; cases he
      have : (es.eraseIdxIfInBounds j).toList = es.toList.eraseIdx j := by simp [Array.eraseIdxIfInBounds, hj]
      rw [this]; exact g2
    · simp only [Builtin.delete_, Sem.run_bind, List.getElem?_toArray, List.getElem?_cons_zero, List.getElem?_cons_succ, hT, Result.andThen_ok, getObj_run (w := { w with drawn := kk }) hh (by simp), ky.check P Kt _ k _ hK, findKey_run hK g, hf, setObj_run (w := { w with drawn := kk }) hh (by simp), Sem.run_pure]
  | none =>
    have g2 : delL L k = L := delL_none (findL_none 0 hf)
    refine ⟨{ w with heap := w.heap.setIfInBounds b (.map es clk) }, Ext.setObj w b _, by simp, ⟨_, clk, setObj_get hh, by rw [g2]; exact g⟩, fun kk => ?_⟩
    simp only [Builtin.delete_, Sem.run_bind, List.getElem?_toArray, List.getElem?_cons_zero, List.getElem?_cons_succ, hT, Result.andThen_ok, getObj_run (w := { w with drawn := kk }) hh (by simp), ky.check P Kt _ k _ hK, findKey_run hK g, hf, setObj_run (w := { w with drawn := kk }) hh (by simp), Sem.run_pure]
theorem S_delete [DecidableEq κ] (hT : ∀ w, (underlying T).run P w = .ok (.map Kt E) w) (hK : ∀ w, (underlying Kt).run P w = .ok ky.kind w) (hx : ev f x = .map (some b)) (hy : ev f y = ky.enc k) (h : MapAt ky w b L)
    (K : ∀ w', Ext [b] w w' → w'.heap.size = w.heap.size → MapAt ky w' b (delL L k) → WL P false n ops Q rest f w') : WL P false n ops Q (⟨none, .call ⟨.builtin .delete, #[x, y], #[T, Kt]⟩, ty, pos, after, none⟩ :: rest) f w :=
  WL_valN rfl rfl fun w1 hs => by
    obtain ⟨kk, rfl⟩ := hs
    obtain ⟨w', h1, h2, h3, h4⟩ := delete_run (k := k) (Ty := ty) hT hK h
    refine ⟨.tuple #[], _, w', ?_, ⟨kk, rfl⟩, K w' h1 h2 h3⟩
    have : (#[x, y] : Array Operand).map (ev f) = #[.map (some b), ky.enc k] := by simp [hx, hy]
    simp only [execOp, resolve, invoke, builtin, Sem.run_bind, Sem.run_pure, Result.andThen_ok, this, h4 kk]
theorem S_lenM (hT : ∀ w, (underlying T).run P w = .ok (.map Kt E) w) (hx : ev f x = .map (some b)) (h : MapAt ky w b L) (hn : Nat.blt d n = true) (K : WL P m n ops Q rest (upd f d (.int .i64 L.length)) w) :
    WL P m n ops Q (⟨some d, .call ⟨.builtin .len, #[x], #[T]⟩, ty, pos, after, none⟩ :: rest) f w :=
  WL_val rfl rfl hn (v := .int .i64 L.length) (fun w1 hs => by
    obtain ⟨es, clk, hh, g⟩ := h
    have hh' : w1.heap[b]? = some (.map es clk) := by rw [hs.heap]; exact hh
    have hl : es.size = L.length := by have := congrArg List.length g.same; simpa [pairs] using this
    simp [Builtin.len_, hx, hT, getObj_run hh' (by simp), hl, go_sem]) K

/-! ### Ranging over a map that does not turn -/
/-- The iterator in block 'it' over the map in block b: 'D' has been told. -/
def Iter (ky : Key κ) (w : World) (it b : Nat) (L D : List (κ × Value)) : Prop := ∃ es clk, ∃ De : List MapEntry, w.heap[b]? = some (.map es clk) ∧ Good ky es.toList clk L ∧ w.heap[it]? = some (.mapIter (some b) clk (De.map (·.born)).toArray clk) ∧
  (∀ e ∈ De, e ∈ es.toList) ∧ (De.map (·.born)).Nodup ∧ pairs De = D.map fun p => (ky.enc p.1, p.2)
theorem Iter.ext {w w' : World} {it : Nat} {D : List (κ × Value)} {B : List Nat} (h : Iter ky w it b L D) (e : Ext B w w') (hb : b ∉ B) (hi : it ∉ B) : Iter ky w' it b L D :=
  let ⟨es, clk, De, h1, g, h2, r⟩ := h; ⟨es, clk, De, e.get hb h1, g, e.get hi h2, r⟩
theorem Iter.map {w : World} {it : Nat} {D : List (κ × Value)} (h : Iter ky w it b L D) : MapAt ky w b L := let ⟨es, clk, _, h1, g, _⟩ := h; ⟨es, clk, h1, g⟩
theorem Iter.lt {w : World} {it : Nat} {D : List (κ × Value)} (h : Iter ky w it b L D) : it < w.heap.size := let ⟨_, _, _, _, _, h2, _⟩ := h; lt_of_get h2

theorem S_range (hT : ∀ w, (underlying T).run P w = .ok (.map Kt E) w) (hx : ev f x = .map (some b)) (h : MapAt ky w b L) (hn : Nat.blt d n = true)
    (K : ∀ it w', Ext [] w w' → w.heap.size = it → w'.heap.size = it + 1 → Iter ky w' it b L [] → WL P false n ops Q rest (upd f d (.pointer (some ⟨it, 0, none⟩))) w') :
    WL P false n ops Q (⟨some d, .range T x, ty, pos, after, none⟩ :: rest) f w :=
  WL_valW rfl rfl hn fun w1 hs => by
    obtain ⟨kk, rfl⟩ := hs
    obtain ⟨es, clk, hh, g⟩ := h
    have e := Ext.push w (.mapIter (some b) clk #[] clk)
    refine ⟨.pointer (some ⟨w.heap.size, 0, none⟩), _, { w with heap := w.heap.push (.mapIter (some b) clk #[] clk) }, ?_, ⟨kk, rfl⟩, K w.heap.size _ e rfl (by simp) ⟨es, clk, [], e.get (by simp) hh, g, by simp, by simp, by simp, by simp [pairs]⟩⟩
    simp only [execOp, hx, Instr.range, Sem.run_bind, hT, Result.andThen_ok, getObj_run (w := { w with drawn := kk }) hh (by simp), Sem.run_pure, newObj, Sem.run]

theorem born_inj {es : List MapEntry} (h : (es.map (·.born)).Nodup) {a b : MapEntry} (ha : a ∈ es) (hb : b ∈ es) (e : a.born = b.born) : a = b := by
  induction es with
  | nil => cases ha
  | cons x r ih =>
    simp only [List.map_cons, List.nodup_cons] at h
    rcases List.mem_cons.1 ha with rfl | ha' <;> rcases List.mem_cons.1 hb with rfl | hb'
    · rfl
    · exact absurd (List.mem_map.2 ⟨b, hb', e.symm⟩) h.1
    · exact absurd (List.mem_map.2 ⟨a, ha', e⟩) h.1
    · exact ih h.2 ha' hb'

theorem S_next [DecidableEq κ] {it : Nat} {D : List (κ × Value)} {N : TypeId} (hx : ev f x = .pointer (some ⟨it, 0, none⟩)) (h : Iter ky w it b L D) (hn : Nat.blt d n = true)
    (K1 : ∀ k v w', (k, v) ∈ L → (k, v) ∉ D → k ∉ D.map (·.1) → Ext [it] w w' → w'.heap.size = w.heap.size → Iter ky w' it b L (D ++ [(k, v)]) → WL P false n ops Q rest (upd f d (.tuple #[.bool true, ky.enc k, v])) w')
    (K2 : (∀ p ∈ L, p ∈ D) → WL P false n ops Q rest (upd f d (.tuple #[.bool false])) w) :
    WL P false n ops Q (⟨some d, .next x false, N, pos, after, none⟩ :: rest) f w :=
  WL_valW rfl rfl hn fun w1 hs => by
    obtain ⟨kk, rfl⟩ := hs
    obtain ⟨es, clk, De, hh, g, hi, hDe, hDn, hDp⟩ := h
    have hne : (it : Nat) ≠ b := fun e => by subst e; rw [hh] at hi; cases hi
    have hread1 := getObj_run (P := P) (w := { w with drawn := kk }) hi (by simp)
    have hread2 := getObj_run (P := P) (w := { w with drawn := kk }) hh (by simp)
    have hyoung : ∀ e ∈ es.toList, e.born < clk := g.young
    have hall : (!(De.map (·.born)).toArray.isEmpty && !es.isEmpty && es.all (fun e => decide (e.born ≥ clk))) = false := by
      cases hes : es.toList with
      | nil => simp [Array.isEmpty, show es.size = 0 by rw [← Array.length_toList, hes]; rfl]
      | cons e r =>
        have : es.all (fun e => decide (e.born ≥ clk)) = false := by
          rw [← Array.all_toList, hes, List.all_cons]
          have := hyoung e (by rw [hes]; simp)
          simp; intro h; omega
        simp [this]
    obtain ⟨left, hld⟩ : ∃ l, l = es.filter fun e => !(De.map (·.born)).toArray.contains e.born := ⟨_, rfl⟩
    have hold : left.filter (fun e => decide (e.born < clk)) = left := by
      apply Array.filter_eq_self.2
      intro e he
      have := (Array.mem_filter.1 (hld ▸ he)).1
      simpa using hyoung e (by simpa using this)
    have hnew : left.filter (fun e => decide (e.born ≥ clk)) = #[] := by
      apply Array.filter_eq_empty_iff.2
      intro e he
      have := (Array.mem_filter.1 (hld ▸ he)).1
      have := hyoung e (by simpa using this)
      simp; omega
    have hleft : ∀ e, e ∈ left ↔ e ∈ es.toList ∧ e ∉ De := by
      intro e
      simp only [hld, Array.mem_filter]
      constructor
      · rintro ⟨h1, h2⟩
        refine ⟨by simpa using h1, fun hm => ?_⟩
        simp at h2
        exact h2 e hm rfl
      · rintro ⟨h1, h2⟩
        refine ⟨by simpa using h1, ?_⟩
        simp
        intro e' he' hb
        have := born_inj g.borns (hDe e' he') h1 hb
        subst this; exact h2 he'
    by_cases hemp : left.isEmpty = true
    · -- over
      have hl0 : left = #[] := by simpa using hemp
      refine ⟨.tuple #[.bool false], { w with drawn := kk }, w, ?_, ⟨kk, rfl⟩, K2 fun p hp => ?_⟩
      · have hc : ((if left.isEmpty then #[none] else #[]) ++ (left ++ (#[] : Array MapEntry)).map some : Array (Option MapEntry)) = #[none] := by rw [hl0]; simp
        simp only [execOp, hx, Instr.next, Sem.run_bind, hread1, Result.andThen_ok, hread2]
        rw [hall]
        simp only [Bool.false_eq_true, if_false, Sem.run_bind]
        rw [← hld, hold, hnew, hc]
        simp [choose, Sem.run, Question.forced, go_sem]
      · obtain ⟨j, hj, e⟩ := List.getElem_of_mem hp
        obtain ⟨en, hen, hk, hv⟩ := g.key_at (j := j) (k := p.1) (v := p.2) (by rw [List.getElem?_eq_getElem hj, e])
        have hmem : en ∈ es.toList := List.mem_of_getElem? hen
        have hin : en ∈ De := by
          refine Classical.byContradiction fun hno => ?_
          have := (hleft en).2 ⟨hmem, hno⟩
          rw [hl0] at this; simp at this
        have : (en.key, en.val) ∈ pairs De := List.mem_map.2 ⟨en, hin, rfl⟩
        rw [hDp, hk, hv] at this
        obtain ⟨q, hq, hqe⟩ := List.mem_map.1 this
        simp at hqe
        have hk' : q.1 = p.1 := by
          refine Classical.byContradiction fun hne => ?_
          have h1 := ky.diff _ _ hne
          have h2 := ky.same p.1
          rw [hqe.1] at h1; rw [h1] at h2; cases h2
        have : q = p := Prod.ext hk' hqe.2
        exact this ▸ hq
    · -- one more
      have hemp' : left.isEmpty = false := by simpa using hemp
      have hc : ((if left.isEmpty then #[none] else #[]) ++ (left ++ (#[] : Array MapEntry)).map some : Array (Option MapEntry)) = left.map some := by rw [hemp']; simp
      have hpos : 0 < left.size := by
        rcases Nat.eq_zero_or_pos left.size with h | h
        · simp [Array.isEmpty, h] at hemp'
        · exact h
      have hchoose : ∃ j w2, j < left.size ∧ Sim w w2 ∧ (choose (.mapNext (left.map some).size)).run P { w with drawn := kk } = .ok j w2 := by
        unfold choose
        simp only [Sem.run, Array.size_map]
        split
        · exact ⟨0, _, hpos, ⟨kk, rfl⟩, rfl⟩
        · refine ⟨_, _, ?_, ⟨kk + 1, rfl⟩, rfl⟩
          simp only [Question.cut]; exact Nat.mod_lt _ hpos
      obtain ⟨j, w2, hj, hs2, hrun⟩ := hchoose
      obtain ⟨kk2, rfl⟩ := hs2
      have hmem : left[j] ∈ left := Array.getElem_mem hj
      obtain ⟨hes, hnD⟩ := (hleft _).1 hmem
      obtain ⟨i, hi', hie⟩ := List.getElem_of_mem hes
      have hLi : i < L.length := by have := congrArg List.length g.same; simp [pairs] at this; simp at hi'; omega
      obtain ⟨en, hen, hk, hv⟩ := g.key_at (j := i) (k := L[i].1) (v := L[i].2) (by simp [hLi])
      have hen' : en = left[j] := by rw [List.getElem?_eq_getElem hi'] at hen; rw [← hie]; exact (Option.some.inj hen).symm
      subst hen'
      have e := Ext.setObj w it (.mapIter (some b) clk ((De.map (·.born)).toArray.push left[j].born) clk)
      have hkD : L[i].1 ∉ D.map (·.1) := by
        intro hm
        obtain ⟨q, hq, hqe⟩ := List.mem_map.1 hm
        have : (ky.enc q.1, q.2) ∈ pairs De := by rw [hDp]; exact List.mem_map.2 ⟨q, hq, rfl⟩
        obtain ⟨e', he', hp⟩ := List.mem_map.1 this
        simp at hp
        obtain ⟨i', hi2, hie'⟩ := List.getElem_of_mem (hDe e' he')
        have hLi' : i' < L.length := by have := congrArg List.length g.same; simp [pairs] at this; simp at hi2; omega
        obtain ⟨e2, he2, hk2, _⟩ := g.key_at (j := i') (k := L[i'].1) (v := L[i'].2) (by simp [hLi'])
        have : e2 = e' := by rw [List.getElem?_eq_getElem hi2] at he2; rw [← hie']; exact (Option.some.inj he2).symm
        subst this
        have hkk : L[i'].1 = L[i].1 := by
          refine Classical.byContradiction fun hne => ?_
          have h1 := ky.diff _ _ hne
          have h2 := ky.same L[i].1
          rw [← hk2, hp.1, hqe] at h1; rw [h1] at h2; cases h2
        have hii : i' = i := by
          have hnd := g.keys
          have h1 : (L.map (·.1))[i']? = some L[i].1 := by simp [hLi', hkk]
          have h2 : (L.map (·.1))[i]? = some L[i].1 := by simp [hLi]
          exact (List.getElem?_inj (by simpa using hLi') hnd).1 (h1.trans h2.symm)
        subst hii
        rw [hie] at hie'
        exact hnD (hie' ▸ he')
      refine ⟨.tuple #[.bool true, left[j].key, left[j].val], { w with drawn := kk2, heap := w.heap.setIfInBounds it (.mapIter (some b) clk ((De.map (·.born)).toArray.push left[j].born) clk) }, { w with heap := w.heap.setIfInBounds it (.mapIter (some b) clk ((De.map (·.born)).toArray.push left[j].born) clk) }, ?_, ⟨kk2, rfl⟩, ?_⟩
      · simp only [execOp, hx, Instr.next, Sem.run_bind, hread1, Result.andThen_ok, hread2]
        rw [hall]
        simp only [Bool.false_eq_true, if_false, Sem.run_bind]
        rw [← hld, hold, hnew, hc, hrun]
        simp only [Result.andThen_ok]
        have : (left.map some)[j]? = some (some left[j]) := by simp [hj]
        rw [this]
        simp only [Sem.run_bind, setObj_run (w := { w with drawn := kk2 }) hi (by simp), Result.andThen_ok, Sem.run_pure]
      · rw [hk, hv]
        refine K1 L[i].1 L[i].2 _ (List.getElem_mem _) (fun hm => hkD (List.mem_map.2 ⟨_, hm, rfl⟩)) hkD e (by simp) ⟨es, clk, De ++ [left[j]], ?_, g, ?_, ?_, ?_, ?_⟩
        · simp [Array.getElem?_setIfInBounds_ne hne]; exact hh
        · rw [setObj_get hi]; simp
        · intro e' he'
          rcases List.mem_append.1 he' with h | h
          · exact hDe e' h
          · simp at h; subst h; exact hes
        · rw [List.map_append, List.nodup_append]
          refine ⟨hDn, by simp, fun a ha b' hb' => ?_⟩
          simp at hb'; subst hb'
          obtain ⟨e', he', rfl⟩ := List.mem_map.1 ha
          intro heq
          have := born_inj g.borns (hDe e' he') hes heq
          exact hnD (this ▸ he')
        · simp only [pairs, List.map_append, List.map_cons, List.map_nil] at hDp ⊢
          rw [hDp, hk, hv]

theorem S_entry {it : Nat} {D : List (κ × Value)} (hx : ev f x = .pointer (some ⟨it, 0, none⟩)) (h : Iter ky w it b L (D ++ [(k, v)])) (hn : Nat.blt d n = true)
    (K : WL P m n ops Q rest (upd f d (.tuple #[ky.enc k, v])) w) : WL P m n ops Q (⟨some d, .entry x, ty, pos, after, none⟩ :: rest) f w :=
  WL_val rfl rfl hn (v := .tuple #[ky.enc k, v]) (fun w1 hs => by
    obtain ⟨kk, rfl⟩ := hs
    obtain ⟨es, clk, De, hh, g, hi, hDe, hDn, hDp⟩ := h
    obtain ⟨De', e, rfl⟩ : ∃ De' e, De = De' ++ [e] := by
      rcases List.eq_nil_or_concat De with h | ⟨l, e, h⟩
      · subst h; simp [pairs] at hDp
      · exact ⟨l, e, by simpa using h⟩
    simp [pairs] at hDp
    have hread1 := getObj_run (P := P) (w := { w with drawn := kk }) hi (by simp)
    have hread2 := getObj_run (P := P) (w := { w with drawn := kk }) hh (by simp)
    have hke : e.key = ky.enc k ∧ e.val = v := hDp.2
    have hfind : es.find? (·.born == e.born) = some e := by
      have hmem : e ∈ es.toList := hDe e (by simp)
      rw [← Array.find?_toList]
      cases hf : es.toList.find? (·.born == e.born) with
      | none => have := List.find?_eq_none.1 hf e hmem; simp at this
      | some e' =>
        have h1 := List.find?_some hf
        have h2 := List.mem_of_find?_eq_some hf
        rw [born_inj g.borns h2 hmem (by simpa using h1)]
    have hback : ((De' ++ [e]).map (·.born)).toArray.back? = some e.born := by simp
    simp only [execOp, hx, Instr.entry, Sem.run_bind, hread1, Result.andThen_ok, hback, hread2]
    simp [hfind, hke, go_sem]) K
end
end Go.Wk
