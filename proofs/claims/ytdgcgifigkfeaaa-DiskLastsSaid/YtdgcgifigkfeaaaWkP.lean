/- Small words for the walks that a program prints. -/
import Derived.Test.YtdgcgifigkfeaaaWkN
namespace Go.Wk
open Go

def Live (f : Fr) : List (Nat × Value) → Prop
  | [] => True
  | (d, v) :: r => f d = v ∧ Live f r
def updAll (g : Fr) : List (Nat × Value) → Fr
  | [] => g
  | (d, v) :: r => upd (updAll g r) d v
theorem Live.eq {f : Fr} : ∀ {L : List (Nat × Value)}, Live f L → updAll f L = f := by
  intro L
  induction L with
  | nil => intro _; rfl
  | cons p r ih =>
    obtain ⟨d, v⟩ := p
    rintro ⟨h1, h2⟩
    simp only [updAll, ih h2]
    funext t
    rw [upd_eq]
    split
    · rename_i e; rw [e, h1]
    · rfl

theorem cons_fresh {M : List Nat} {w : World} {b : Nat} (h : w.heap.size = b) : ∀ x ∈ b :: M, x ∈ M ∨ w.heap.size ≤ x := fun x hx => by
  rcases List.mem_cons.1 hx with rfl | hx
  · exact .inr (by omega)
  · exact .inl hx
theorem Ext.own {b : Nat} {w0 w w' : World} (E : Ext [] w0 w) (e : Ext [b] w w') (hb : w0.heap.size ≤ b) : Ext [] w0 w' := E.trans e (by simp) (fun x hx => by simp at hx; subst hx; exact .inr hb)
theorem Ext.owns {bs : List Nat} {w0 w w' : World} (E : Ext [] w0 w) (e : Ext bs w w') (hb : ∀ b ∈ bs, w0.heap.size ≤ b) : Ext [] w0 w' := E.trans e (by simp) (fun x hx => .inr (hb x hx))
theorem fresh_bs {bs bs' : List Nat} {w0 w : World} (h : ∀ b ∈ bs', b ∈ bs ∨ w.heap.size ≤ b) (hb : ∀ b ∈ bs, w0.heap.size ≤ b) (E : w0.heap.size ≤ w.heap.size) : ∀ b ∈ bs', w0.heap.size ≤ b := fun b hm => by
  rcases h b hm with h | h
  · exact hb b h
  · omega

theorem Ext.stepO {B0 B : List Nat} {w0 w w' : World} (E : Ext B0 w0 w) (e : Ext B w w') (h : ∀ x ∈ B, x ∈ B0 ∨ w0.heap.size ≤ x) : Ext B0 w0 w' := E.trans e (fun x hx => .inl hx) h
theorem mem0 {p : Nat → Prop} : ∀ x ∈ ([] : List Nat), p x := fun x hx => by cases hx
theorem memC {p : Nat → Prop} {b : Nat} {B : List Nat} (h : p b) (hB : ∀ x ∈ B, p x) : ∀ x ∈ b :: B, p x := fun x hx => by
  rcases List.mem_cons.1 hx with rfl | hx
  · exact h
  · exact hB x hx
theorem memA {p : Nat → Prop} {A B : List Nat} (hA : ∀ x ∈ A, p x) (hB : ∀ x ∈ B, p x) : ∀ x ∈ A ++ B, p x := fun x hx => by
  rcases List.mem_append.1 hx with hx | hx
  · exact hA x hx
  · exact hB x hx
theorem rel_step {bs bs' bs0 : List Nat} {w0 w : World} (h : ∀ b ∈ bs', b ∈ bs ∨ w.heap.size ≤ b) (r : ∀ b ∈ bs, b ∈ bs0 ∨ w0.heap.size ≤ b) (E : w0.heap.size ≤ w.heap.size) : ∀ b ∈ bs', b ∈ bs0 ∨ w0.heap.size ≤ b := fun b hm => by
  rcases h b hm with h | h
  · exact r b h
  · exact .inr (by omega)
theorem rel_refl {bs : List Nat} {w : World} : ∀ b ∈ bs, b ∈ bs ∨ w.heap.size ≤ b := fun _ h => .inl h
theorem nin0 {a : Nat} : a ∉ ([] : List Nat) := fun h => by cases h
theorem ninC {a b : Nat} {B : List Nat} (h : a ≠ b) (hB : a ∉ B) : a ∉ b :: B := fun hx => by
  rcases List.mem_cons.1 hx with h' | hx
  · exact h h'
  · exact hB hx
theorem ninA {a : Nat} {A B : List Nat} (hA : a ∉ A) (hB : a ∉ B) : a ∉ A ++ B := fun hx => by
  rcases List.mem_append.1 hx with hx | hx
  · exact hA hx
  · exact hB hx
section
variable {P : Program} {m : Bool} {n : Nat} {c : Code} {ops : List Oper} {Q : Exit → Fr → World → Prop} {rest : List Oper} {f : Fr} {w : World}
theorem W_live {L : List (Nat × Value)} (h : Live f L) (k : ∀ g, W P n c Q (updAll g L) w) : W P n c Q f w := by
  have := k f
  rwa [h.eq] at this
/-- A cut: only the slots of L are kept, with the values that they have. -/
theorem WL_norm {L : List (Nat × Value)} (h : Live f L) (k : ∀ g, WL P m n ops Q rest (updAll g L) w) : WL P m n ops Q rest f w := by
  have := k f
  rwa [h.eq] at this
theorem WL_split {dj : Nat} {p : Bool} (_hv : f dj = .bool p) (ht : p = true → WL P m n ops Q rest f w) (hf : p = false → WL P m n ops Q rest f w) : WL P m n ops Q rest f w := by
  cases p
  · exact hf rfl
  · exact ht rfl
end
/-- What a condition says, in plain words (one law, so that simp takes what it needs of it). -/
theorem lrn : (∀ (p : Prop) [Decidable p], (decide p = true) = p) ∧ (∀ (p : Prop) [Decidable p], (decide p = false) = ¬p) ∧ (∀ b : Bool, ((!b) = true) = (b = false)) ∧ (∀ b : Bool, ((!b) = false) = (b = true)) ∧
    (∀ {α : Type} (a b : α), (a ≠ b) = ¬ a = b) ∧ (∀ (p : Prop) [Decidable p], (¬¬p) = p) ∧ (∀ a b : Int, (¬ a < b) = (b ≤ a)) ∧ (∀ a b : Int, (¬ a ≤ b) = (b < a)) :=
  ⟨fun _ _ => decide_eq_true_eq, fun _ _ => by rw [decide_eq_false_iff_not], fun b => by cases b <;> simp, fun b => by cases b <;> simp, fun _ _ => rfl, fun _ _ => by rw [Decidable.not_not], fun _ _ => by rw [Int.not_lt], fun _ _ => by rw [Int.not_le]⟩
theorem lrnN : (∀ b : Bool, ((!b) = true) = (b = false)) ∧ (∀ b : Bool, ((!b) = false) = (b = true)) := ⟨fun b => by cases b <;> simp, fun b => by cases b <;> simp⟩
theorem bT {p : Bool} (h : p = true) : Value.bool p = .bool true := congrArg _ h
theorem bF {p : Bool} (h : p = false) : Value.bool p = .bool false := congrArg _ h
theorem nT {p : Bool} (h : p = true) : Value.bool (!p) = .bool false := by rw [h]; rfl
theorem nF {p : Bool} (h : p = false) : Value.bool (!p) = .bool true := by rw [h]; rfl

/-! ### A loop: the slots that it does not write are as they were -/
def mix (S : List Nat) (g f : Fr) : Fr := fun t => bif S.elem t then g t else f t
def Agree (S : List Nat) (g f : Fr) : Prop := ∀ t, S.elem t = false → g t = f t
theorem agree_upd {S : List Nat} {g f : Fr} {d : Nat} {v : Value} (hd : S.elem d = true) (h : Agree S g f) : Agree S (upd g d v) f := fun t ht => by
  rw [upd_eq]
  split
  · rename_i e; subst e; rw [hd] at ht; cases ht
  · exact h t ht
theorem agree_mix {S S' : List Nat} {g f0 f : Fr} (hs : (S'.all fun t => S.elem t) = true) (h : Agree S f0 f) : Agree S (mix S' g f0) f := fun t ht => by
  unfold mix
  cases he : S'.elem t with
  | false => exact h t ht
  | true =>
    rw [List.all_eq_true] at hs
    have := hs t (by simpa using he)
    rw [this] at ht; cases ht
theorem agree_refl {S : List Nat} {f : Fr} : Agree S f f := fun _ _ => rfl
theorem mix_self {S : List Nat} {g f : Fr} (h : Agree S g f) : mix S g f = g := by
  funext t
  unfold mix
  cases he : S.elem t with
  | true => rfl
  | false => exact (h t he).symm
def LiveM (S : List Nat) (f : Fr) : List (Nat × Value) → Prop
  | [] => True
  | (d, v) :: r => f d = v ∧ LiveM S f r
theorem Live.mix {S : List Nat} {g f : Fr} : ∀ {L : List (Nat × Value)}, (L.all fun p => S.elem p.1) = true → Live g L → Live (mix S g f) L := by
  intro L
  induction L with
  | nil => intro _ _; trivial
  | cons p r ih =>
    obtain ⟨d, v⟩ := p
    intro hs ⟨h1, h2⟩
    simp only [List.all_cons, Bool.and_eq_true] at hs
    refine ⟨?_, ih hs.2 h2⟩
    have : S.elem d = true := hs.1
    unfold Wk.mix; rw [this]; exact h1
section
variable {P : Program} {n : Nat} {c : Code} {Q : Exit → Fr → World → Prop} {f : Fr} {w : World}
theorem W_loopF (S : List Nat) (I : Nat → Fr → World → Prop) (h0 : ∃ m, I m f w)
    (round : ∀ m g w, I m g w → W P n c (thenQ (fun f' w' => Agree S f' f ∧ ∃ m', m' < m ∧ I m' f' w') Q) (mix S g f) w) : W P n (.loop c) Q f w := by
  obtain ⟨m, h0⟩ := h0
  refine W_loop (fun m g w => Agree S g f ∧ I m g w) m ⟨agree_refl, h0⟩ ?_
  rintro m g w ⟨ha, hI⟩
  have := round m g w hI
  rw [mix_self ha] at this
  refine W_mono this ?_
  intro e f' w' q
  cases e with
  | normal => obtain ⟨a, m', hm, i⟩ := q; exact ⟨m', hm, a, i⟩
  | _ => exact q
theorem W_liveM {S : List Nat} {g : Fr} {L : List (Nat × Value)} (h : Live g L) (hs : (L.all fun p => S.elem p.1) = true) (k : W P n c Q (updAll (mix S g f) L) w) : W P n c Q (mix S g f) w := by
  rwa [(h.mix hs).eq] at k
end

/-! ### Literals and rows -/
theorem splice_full {cs c : List Value} (h : c.length = cs.length) : splice cs 0 c = c := by
  have := splice_append c [] cs [] h.symm
  simpa using this
theorem rd_ints {xs : List Int} {w : World} {b : Nat} {T : TypeId} {M : List Nat} (ho : Own w b T (xs.map (Value.int .i64))) (hb : b ∉ M) (hx : ∀ x ∈ xs, InI x) (hl : xs.length ≤ 9223372036854775807) : (rSlice rInt).rd M w [.slice (some ⟨b, 0, none⟩) xs.length xs.length] xs :=
  ⟨hl, _, _, rfl, (fun h => by cases h), fun i hi => ⟨b, 0, [.int .i64 xs[i]], rfl, hb, by
    have := ho.at (i := 0 + i * 1) (v := .int .i64 xs[i]) (by simp [hi])
    exact this, rfl, hx _ (List.getElem_mem _)⟩⟩
theorem acc_ints {xs : List Int} {w : World} {b : Nat} {T : TypeId} {M : List Nat} (ho : Own w b T (xs.map (Value.int .i64))) (hb : b ∉ M) (hx : ∀ x ∈ xs, InI x) : Acc rInt M w (.slice (some ⟨b, 0, none⟩) xs.length xs.length) xs [b] :=
  Acc.lit ho (by simp [rInt]) hb (fun i hi => by
    have : (List.take rInt.sz (List.drop (i * rInt.sz) (List.map (Value.int .i64) xs))) = [.int .i64 xs[i]] := by
      show List.take 1 (List.drop (i * 1) _) = _
      rw [Nat.mul_one, List.drop_eq_getElem_cons (by simpa using hi)]; simp
    rw [this]; exact ⟨rfl, hx _ (List.getElem_mem _)⟩)
theorem notin_old {M : List Nat} {w0 : World} {b : Nat} (hM : ∀ b ∈ M, b < w0.heap.size) (h : w0.heap.size ≤ b) : b ∉ M := fun hm => by have := hM b hm; omega

/-! ### make of a slice -/
section
variable {P : Program} {n : Nat} {ops : List Oper} {Q : Exit → Fr → World → Prop} {rest : List Oper} {f : Fr} {w : World} {d : Nat} {v zv : Value} {T E ty : TypeId} {info : TypeInfo} {pos : String} {after : Array Edge} {x y : Operand} {a : Int}
theorem S_makeSlice (hT : ∀ w, (underlying T).run P w = .ok (.slice E) w) (hI : ∀ w, (typeInfo E).run P w = .ok info w) (hE : ∀ w, (sizeOf E).run P w = .ok 1 w) (hz : ∀ w, (zeroValue E).run P w = .ok zv w) (hp : plain1 zv = true)
    (hx : ev f x = .int .i64 a) (hy : ev f y = .int .i64 a) (h0 : 0 ≤ a) (h1 : info.bytes * a ≤ 140737488355328) (h2 : a ≤ 9223372036854775807) (hn : Nat.blt d n = true)
    (K : ∀ b w', Ext [] w w' → w.heap.size = b → w'.heap.size = b + 1 → Own w' b E (List.replicate a.toNat zv) → WL P false n ops Q rest (upd f d (.slice (some ⟨b, 0, none⟩) a.toNat a.toNat)) w') :
    WL P false n ops Q (⟨some d, .makeSlice T x y, ty, pos, after, none⟩ :: rest) f w := by
  refine S_new (mk := fun b => .slice (some ⟨b, 0, none⟩) a.toNat a.toNat) (e := E) (cs := (List.replicate a.toNat zv).toArray) rfl rfl hn (fun w1 => ?_) (fun b w' h1 h2 h3 h4 => K b w' h1 h2 h3 (by simpa using h4))
  have hw : IntKind.i64.wrap a = a := wrap64_id ⟨by omega, h2⟩
  have hpow : (2 : Int) ^ 48 = 281474976710656 := by decide
  have hroom : ∀ m (w : World), (askRoom m).run P w = .ok () w := fun m w => by unfold askRoom; split <;> simp [mark, Sem.run, pure]
  have hcond : ((decide (a < 0) || decide ((info.bytes : Int) * a > 2 ^ 48)) || decide (a < 0) || decide (a > a)) = false := by
    rw [hpow]; simp; omega
  have hzc : zv.cells = #[zv] := cells_sz1 hp
  simp only [execOp, Instr.makeSlice, hx, hy, asInt, asIntOf, Sem.run_bind, Sem.run_pure, hT, hI, Result.andThen_ok, hw]
  rw [if_neg (by rw [hpow]; simp; omega)]
  simp only [Sem.run_bind, hroom, Result.andThen_ok, hE, Nat.mul_one]
  by_cases hz0 : a.toNat = 0
  · simp only [hz0, if_true, Sem.run_bind, Sem.run_pure, Result.andThen_ok, newRow, newObj, Sem.run]
    have : ((Array.range 0).map fun x => (#[] : Array Value)[x % (#[] : Array Value).size]!) = (List.replicate 0 zv).toArray := by simp
    rw [this]
  · simp only [hz0, if_false, Sem.run_bind, Sem.run_pure, hz, Result.andThen_ok, newRow, newObj, Sem.run]
    have : (Array.range a.toNat).map (fun i => zv.cells[i % zv.cells.size]!) = (List.replicate a.toNat zv).toArray := by
      rw [hzc]
      apply Array.ext
      · simp
      · intro i h1 h2; simp [Nat.mod_one]
    rw [this]
end

/-! ### A struct's literal -/
def fillL (pl : List (Nat × Nat)) (cs : List Value) : List (Nat × Value) → List Value
  | [] => cs
  | (i, v) :: r => fillL pl (splice cs (pl.getD i (0, 0)).1 v.cells.toList) r
def fillOk (pl : List (Nat × Nat)) (n : Nat) : List (Nat × Value) → Bool
  | [] => true
  | (i, v) :: r => Nat.blt i pl.length && Nat.beq v.cells.size (pl.getD i (0, 0)).2 && Nat.ble ((pl.getD i (0, 0)).1 + v.cells.size) n && fillOk pl n r
theorem fill_fields {pl : Array (Nat × Nat)} : ∀ (ps : List (Nat × Value)) (cs : Array Value), fillOk pl.toList cs.size ps = true → Instr.fill (pl[·]?) cs ps = some (fillL pl.toList cs.toList ps).toArray := by
  intro ps
  induction ps with
  | nil => intro cs _; simp [Instr.fill, fillL]
  | cons p r ih =>
    obtain ⟨i, v⟩ := p
    intro cs h
    simp only [fillOk, Bool.and_eq_true] at h
    obtain ⟨⟨⟨h1, h2⟩, h3⟩, h4⟩ := h
    have hi : i < pl.size := by have := blt_lt h1; simpa using this
    have hp : pl[i]? = some pl[i] := by simp [hi]
    have hd : pl.toList.getD i (0, 0) = pl[i] := by simp [List.getD_eq_getElem?_getD, hi]
    rw [hd] at h2 h3
    have h2' := Nat.eq_of_beq_eq_true h2
    have h3' := Nat.le_of_ble_eq_true h3
    simp only [Instr.fill, hp]
    rw [if_neg (by simp [h2']; omega)]
    have hf : (v.cells.zipIdx.foldl (fun cs (c, j) => cs.setIfInBounds (pl[i].1 + j) c) cs) = (splice cs.toList pl[i].1 v.cells.toList).toArray := by
      apply Array.ext'
      rw [← Array.foldl_toList, Array.toList_zipIdx]
      have := foldl_set (cs := #[]) v.cells.toList 0 pl[i].1 cs
      rw [this]; simp
    rw [hf, ih _ (by simpa [splice_length] using h4)]
    simp only [fillL, hd]
section
variable {P : Program} {m : Bool} {n : Nat} {ops : List Oper} {Q : Exit → Fr → World → Prop} {rest : List Oper} {f : Fr} {w : World} {d : Nat} {zv : Value} {T ty : TypeId} {pos : String} {after : Array Edge} {fs : Array Field}
theorem S_build {ps : Array (Nat × Operand)} {pl : Array (Nat × Nat)} {cs : List Value} (hT : ∀ w, (underlying T).run P w = .ok (.struct fs) w) (hz : ∀ w, (zeroValue T).run P w = .ok zv w)
    (hpl : ∀ w, (fs.mapM fun (fd : Field) => do pure (fd.offset, ← sizeOf fd.type)).run P w = .ok pl w) (hok : fillOk pl.toList zv.cells.size (ps.toList.map fun p => (p.1, ev f p.2)) = true) (hcs : fillL pl.toList zv.cells.toList (ps.toList.map fun p => (p.1, ev f p.2)) = cs) (hn : Nat.blt d n = true)
    (K : WL P m n ops Q rest (upd f d (.agg cs.toArray)) w) : WL P m n ops Q (⟨some d, .build T ps, ty, pos, after, none⟩ :: rest) f w :=
  WL_val rfl rfl hn (v := .agg cs.toArray) (fun w1 _ => by
    subst hcs
    have hmap : (ps.map fun p => (p.1, ev f p.2)).toList = ps.toList.map fun p => (p.1, ev f p.2) := by simp
    have hf := fill_fields _ _ hok
    simp only [execOp, Instr.build, Sem.run_bind, hz, hT, Result.andThen_ok]
    have hpl' := hpl w1
    rw [hpl']
    simp only [Result.andThen_ok, hmap, hf, Sem.run_pure]) K
end

/-! ### A row of one-cell values of the call's own -/
section
variable {P : Program} {m : Bool} {n : Nat} {ops : List Oper} {Q : Exit → Fr → World → Prop} {rest : List Oper} {f : Fr} {w : World} {d : Nat} {T E T' ty : TypeId} {pos : String} {after : Array Edge} {x y : Operand} {α : Type} {enc : α → Value} {b : Nat} {L : List α} {k : IntKind}
theorem S_indexRow {mm cap : Nat} {i : Int} (hT : ∀ w, (underlying T).run P w = .ok (.slice E) w) (hE : ∀ w, (sizeOf E).run P w = .ok 1 w) (hx : ev f x = .slice (some ⟨b, 0, none⟩) mm cap) (hy : ev f y = .int k i)
    (h0 : 0 ≤ i) (h1 : i < mm) (hn : Nat.blt d n = true) (K : WL P m n ops Q rest (upd f d (.pointer (some ⟨b, i.toNat, none⟩))) w) : WL P m n ops Q (⟨some d, .indexAddr T x y, ty, pos, after, none⟩ :: rest) f w :=
  S_indexV hT hE hx hy h0 h1 hn (by simpa using K)
theorem S_loadRow {o : Nat} (hA : ∀ w, (isAgg T).run P w = .ok false w) (ho : Own w b E (L.map enc)) (hx : ev f x = .pointer (some ⟨b, o, none⟩)) (hi : o < L.length) (hn : Nat.blt d n = true) (K : WL P m n ops Q rest (upd f d (enc L[o])) w) :
    WL P m n ops Q (⟨some d, .load T x, ty, pos, after, none⟩ :: rest) f w :=
  S_load1 hA hx (ho.at (by simp [hi])) hn K
theorem splice_one {cs : List Value} {o : Nat} {v : Value} : splice cs o [v] = cs.set o v := rfl
theorem S_storeRow {o : Nat} {v : α} (hz : ∀ w, (sizeOf T).run P w = .ok 1 w) (ho : Own w b E (L.map enc)) (hx : ev f x = .pointer (some ⟨b, o, none⟩)) (hy : ev f y = enc v) (hp : plain1 (enc v) = true) (hi : o < L.length)
    (K : ∀ w', Ext [b] w w' → w'.heap.size = w.heap.size → Own w' b E ((L.set o v).map enc) → WL P false n ops Q rest f w') : WL P false n ops Q (⟨none, .store T x y, ty, pos, after, none⟩ :: rest) f w :=
  S_store (c := [enc v]) hz hx (by rw [hy, cells_sz1 hp]) rfl ho (by simp; omega) (by simp [hp]) (fun w' h1 h2 h3 => K w' h1 h2 (by rw [List.map_set]; exact h3))
end
theorem Own.rep {w : World} {b : Nat} {E : TypeId} {α : Type} {n : Nat} {a : α} {enc : α → Value} (h : Own w b E (List.replicate n (enc a))) : Own w b E ((List.replicate n a).map enc) := by simpa using h
theorem rd_bools {xs : List Bool} {w : World} {b : Nat} {T : TypeId} {M : List Nat} (ho : Own w b T (xs.map Value.bool)) (hb : b ∉ M) (hl : xs.length ≤ 9223372036854775807) : (rSlice rBool).rd M w [.slice (some ⟨b, 0, none⟩) xs.length xs.length] xs :=
  ⟨hl, _, _, rfl, (fun h => by cases h), fun i hi => ⟨b, 0, [.bool xs[i]], rfl, hb, by
    have := ho.at (i := 0 + i * 1) (v := .bool xs[i]) (by simp [hi])
    exact this, rfl⟩⟩
end Go.Wk
