/- Slices of the call's own: made, appended to, turned; the parts that memory is made of. -/
import Derived.Test.YtdgcgifigkfeaaaWlA
namespace Go.Wl
open Go Go.Wk

/-- A slice of the call's own: nil, or the head of a row. 'bs': the row's block. -/
def Ac {α : Type} (r : Rd α) (Z : Nat → Prop) (w : World) (v : Value) (l : List α) (bs : List Nat) : Prop :=
  (v = .slice none 0 0 ∧ l = [] ∧ bs = []) ∨
  ∃ b cap C T, v = .slice (some ⟨b, 0, none⟩) l.length cap ∧ bs = [b] ∧ Own w b T C ∧ C.length = cap * r.sz ∧ l.length ≤ cap ∧
    ∀ i (h : i < l.length), ∃ c, c.length = r.sz ∧ (∀ j, j < r.sz → C[i * r.sz + j]? = c[j]?) ∧ r.rd Z w c l[i]
/-- What is copied from: a slice whose elements read. -/
def Src {α : Type} (r : Rd α) (Z : Nat → Prop) (w : World) (v : Value) (xs : List α) : Prop :=
  ∃ A cap, v = .slice A xs.length cap ∧ ∃ cs : List (List Value), cs.length = xs.length ∧ (∀ i (h : i < xs.length) (h' : i < cs.length), r.rd Z w cs[i] xs[i]) ∧ (xs = [] ∨ ∃ b o, A = some ⟨b, o, none⟩ ∧ Cells w b o cs.flatten)
section
variable {α : Type} {r : Rd α} {Z Z' : Nat → Prop} {B bs : List Nat} {w w' : World} {v : Value} {l : List α}
theorem Ac.nil : Ac r Z w (.slice none 0 0) [] [] := .inl ⟨rfl, rfl, rfl⟩
theorem Ac.val (h : Ac r Z w v l bs) : ∃ A cap, v = .slice A l.length cap := by
  rcases h with ⟨rfl, rfl, rfl⟩ | ⟨b, cap, C, T, rfl, _⟩
  · exact ⟨none, 0, rfl⟩
  · exact ⟨_, _, rfl⟩
theorem Ac.lt (h : Ac r Z w v l bs) : ∀ b ∈ bs, b < w.heap.size := by
  rcases h with ⟨rfl, rfl, rfl⟩ | ⟨b, cap, C, T, rfl, rfl, ho, _⟩
  · simp
  · intro x hx; simp at hx; subst hx; exact ho.lt
theorem Ac.stab (h : Ac r Z w v l bs) (e : Ext B w w') (hB : ∀ b ∈ B, (b ∈ bs ∨ Z b) → w.heap.size ≤ b) (hZ : ∀ b, Z b → Z' b) : Ac r Z' w' v l bs := by
  rcases h with h | ⟨b, cap, C, T, hv, hb, ho, hC, hl, hc⟩
  · exact .inl h
  · have hlt := ho.lt
    refine .inr ⟨b, cap, C, T, hv, hb, ho.ext e (fun hm => by have := hB b hm (.inl (by simp [hb])); omega), hC, hl, fun i hi => ?_⟩
    obtain ⟨c, h1, h2, h3⟩ := hc i hi
    exact ⟨c, h1, h2, r.mono h3 e (fun x hx hz => hB x hx (.inr hz)) (fun x hx _ => hZ x hx)⟩
theorem Ac.rd (h : Ac r Z w v l bs) (hl : l.length ≤ 9223372036854775807) : (dSlice r).rd (fun b => Z b ∨ b ∈ bs) w [v] l := by
  rcases h with ⟨rfl, rfl, rfl⟩ | ⟨b, cap, C, T, rfl, rfl, ho, hC, hcap, hc⟩
  · exact dSlice_nil
  · refine ⟨hl, _, _, rfl, (fun h => by cases h), fun i hi => ?_⟩
    obtain ⟨c, h1, h2, h3⟩ := hc i hi
    exact ⟨b, 0, c, rfl, .inr (by simp), ⟨_, _, _, ho, fun j hj => by
      have := h2 j (by omega)
      simpa using this⟩, r.weak h3 (fun x hx _ => .inl hx)⟩
end
section
variable {α : Type} {r : Rd α} {Z : Nat → Prop} {w : World} {v : Value} {xs : List α}
theorem Src.data (h : (dSlice r).rd Z w [v] xs) : Src r Z w v xs := by
  obtain ⟨A, cap, rfl⟩ := dSlice_val h
  refine ⟨A, cap, rfl, ?_⟩
  by_cases hne : xs = []
  · subst hne; exact ⟨[], rfl, by simp, .inl rfl⟩
  · have hpos : 0 < xs.length := List.length_pos_iff.2 hne
    obtain ⟨b, o, c0, hA, _, _, _⟩ := dSlice_at h hpos
    have h' : ∀ i, i < xs.length → ∃ c, Cells w b (o + i * r.sz) c ∧ ∃ hi : i < xs.length, r.rd Z w c xs[i] := fun i hi => by
      obtain ⟨b', o', c, hA', _, hc, hr⟩ := dSlice_at h hi
      rw [hA] at hA'; cases hA'
      exact ⟨c, hc, hi, hr⟩
    obtain ⟨cs, hcl, hcs⟩ := choose_list xs.length h'
    have hsz : ∀ c ∈ cs, c.length = r.sz := fun c hc => by
      obtain ⟨i, hi, rfl⟩ := List.getElem_of_mem hc
      obtain ⟨_, _, hr⟩ := hcs i hi
      exact r.len hr
    refine ⟨cs, hcl, fun i hi hi' => ?_, .inr ⟨b, o, hA, ?_⟩⟩
    · obtain ⟨_, _, hr⟩ := hcs i hi'; exact hr
    · obtain ⟨⟨C, T, z, hh, _⟩, _⟩ := hcs 0 (by omega)
      refine ⟨C, T, z, hh, fun j hj => ?_⟩
      rw [flat_len hsz] at hj
      have hsz0 : 0 < r.sz := by rcases Nat.eq_zero_or_pos r.sz with h | h; rw [h] at hj; simp at hj; exact h
      have hjq : j / r.sz < cs.length := Nat.div_lt_of_lt_mul (by rw [Nat.mul_comm]; exact hj)
      have hjr : j % r.sz < r.sz := Nat.mod_lt _ hsz0
      have hjd : j / r.sz * r.sz + j % r.sz = j := by rw [Nat.mul_comm]; exact Nat.div_add_mod j r.sz
      obtain ⟨⟨C', T', z', hh', hc'⟩, _, hr⟩ := hcs (j / r.sz) hjq
      rw [hh] at hh'; cases hh'
      have e1 := hc' (j % r.sz) (by rw [r.len hr]; exact hjr)
      have e2 := flat_get hsz (j / r.sz) (j % r.sz) hjr
      rw [hjd] at e2
      rw [e2, List.getElem?_eq_getElem hjq]
      simp only [Option.bind_some]
      rw [← e1]; congr 1; omega
/-- The elements' cells of a slice of the call's own. -/
theorem Ac.rows {bs : List Nat} {b cap : Nat} {C : List Value} {T : TypeId} (ho : Own w b T C) (hc : ∀ i (h : i < xs.length), ∃ c, c.length = r.sz ∧ (∀ j, j < r.sz → C[i * r.sz + j]? = c[j]?) ∧ r.rd Z w c xs[i]) :
    ∃ cs : List (List Value), cs.length = xs.length ∧ (∀ i (h : i < xs.length) (h' : i < cs.length), r.rd Z w cs[i] xs[i]) ∧ Cells w b 0 cs.flatten := by
  have h' : ∀ i, i < xs.length → ∃ c : List Value, c.length = r.sz ∧ (∀ j, j < r.sz → C[i * r.sz + j]? = c[j]?) ∧ ∃ hi : i < xs.length, r.rd Z w c xs[i] := fun i hi => by
    obtain ⟨c, h1, h2, h3⟩ := hc i hi; exact ⟨c, h1, h2, hi, h3⟩
  obtain ⟨os, hol, hos⟩ := choose_list xs.length h'
  have hsz : ∀ c ∈ os, c.length = r.sz := fun c hc => by
    obtain ⟨i, hi, rfl⟩ := List.getElem_of_mem hc
    exact (hos i hi).1
  refine ⟨os, hol, fun i hi hi' => (hos i hi').2.2.2, _, _, _, ho, fun j hj => ?_⟩
  rw [flat_len hsz] at hj
  have hsz0 : 0 < r.sz := by rcases Nat.eq_zero_or_pos r.sz with h | h; rw [h] at hj; simp at hj; exact h
  have hjq : j / r.sz < os.length := Nat.div_lt_of_lt_mul (by rw [Nat.mul_comm]; exact hj)
  have hjr : j % r.sz < r.sz := Nat.mod_lt _ hsz0
  have hjd : j / r.sz * r.sz + j % r.sz = j := by rw [Nat.mul_comm]; exact Nat.div_add_mod j r.sz
  have e1 := (hos (j / r.sz) hjq).2.1 (j % r.sz) hjr
  have e2 := flat_get hsz (j / r.sz) (j % r.sz) hjr
  rw [hjd] at e2 e1
  rw [e2, List.getElem?_eq_getElem hjq]
  simpa using e1
theorem Src.ac {bs : List Nat} (h : Ac r Z w v xs bs) : Src r Z w v xs := by
  rcases h with ⟨rfl, rfl, rfl⟩ | ⟨b, cap, C, T, rfl, rfl, ho, hC, hcap, hc⟩
  · exact ⟨none, 0, rfl, [], rfl, by simp, .inl rfl⟩
  · obtain ⟨cs, h1, h2, h3⟩ := Ac.rows (bs := [b]) (cap := cap) ho hc
    exact ⟨_, _, rfl, cs, h1, h2, .inr ⟨b, 0, rfl, h3⟩⟩
end
/-- Rows of cells that read as the elements of a list. -/
def AllRd {α : Type} (r : Rd α) (Z : Nat → Prop) (w : World) : List (List Value) → List α → Prop
  | [], [] => True
  | c :: cs, x :: xs => r.rd Z w c x ∧ AllRd r Z w cs xs
  | _, _ => False
theorem AllRd.get {α : Type} {r : Rd α} {Z : Nat → Prop} {w : World} : ∀ {cs : List (List Value)} {xs : List α}, AllRd r Z w cs xs → cs.length = xs.length ∧ ∀ i (h : i < xs.length) (h' : i < cs.length), r.rd Z w cs[i] xs[i]
  | [], [], _ => ⟨rfl, fun i h => by simp at h⟩
  | c :: cs, x :: xs, ⟨h1, h2⟩ => by
    obtain ⟨a, b⟩ := AllRd.get h2
    refine ⟨by simp [a], fun i h h' => ?_⟩
    cases i with
    | zero => exact h1
    | succ i => simpa using b i (by simpa using h) (by simpa using h')
theorem AllRd.rep {α : Type} {r : Rd α} {Z : Nat → Prop} {w : World} {c : List Value} {x : α} (h : r.rd Z w c x) : ∀ n, AllRd r Z w (List.replicate n c) (List.replicate n x)
  | 0 => trivial
  | n + 1 => ⟨h, AllRd.rep h n⟩
theorem Ac.lit {α : Type} {r : Rd α} {Z : Nat → Prop} {w : World} {cs : List (List Value)} {l : List α} {b : Nat} {T : TypeId} {C : List Value} (ho : Own w b T C) (hC : C = cs.flatten) (h : AllRd r Z w cs l) : Ac r Z w (.slice (some ⟨b, 0, none⟩) l.length l.length) l [b] := by
  subst hC
  obtain ⟨h1, h2⟩ := h.get
  have hsz : ∀ c ∈ cs, c.length = r.sz := fun c hc => by
    obtain ⟨i, hi, rfl⟩ := List.getElem_of_mem hc
    exact r.len (h2 i (by omega) hi)
  refine .inr ⟨b, l.length, _, T, rfl, rfl, ho, by rw [flat_len hsz, h1], Nat.le_refl _, fun i hi => ?_⟩
  have hi' : i < cs.length := by omega
  refine ⟨cs[i], hsz _ (List.getElem_mem _), fun j hj => ?_, h2 i hi hi'⟩
  rw [flat_get hsz i j hj, List.getElem?_eq_getElem hi']; rfl

/-! ### The parts -/
abbrev iOwn (b : Nat) (T : TypeId) (cs : List Value) (O : List Nat) : It := ⟨[b], O, fun _ w => Own w b T cs⟩
abbrev iMap {κ : Type} (ky : Key κ) (b : Nat) (L : List (κ × Value)) (O : List Nat) : It := ⟨[b], O, fun _ w => MapAt ky w b L⟩
abbrev iIter {κ : Type} (ky : Key κ) (it b : Nat) (L D : List (κ × Value)) (O : List Nat) : It := ⟨[it, b], O, fun _ w => Iter ky w it b L D⟩
abbrev iData {α : Type} (r : Rd α) (cs : List Value) (x : α) : It := ⟨[], [], fun Z w => r.rd Z w cs x⟩
abbrev iAc {α : Type} (r : Rd α) (v : Value) (l : List α) (bs O : List Nat) : It := ⟨bs, O, fun Z w => Ac r Z w v l bs⟩
/-- A thing that lies in some blocks. -/
structure Ob (α : Type) where
  is : (Nat → Prop) → World → α → List Nat → Prop
  stab : ∀ {x F}, It.Stab ⟨F, [], fun Z w => is Z w x F⟩
  lt : ∀ {Z w x F}, is Z w x F → ∀ b ∈ F, b < w.heap.size
abbrev iOb {α : Type} (o : Ob α) (x : α) (F O : List Nat) : It := ⟨F, O, fun Z w => o.is Z w x F⟩
section
variable {b it : Nat} {T : TypeId} {cs : List Value} {O bs : List Nat} {v : Value} {α κ : Type} {r : Rd α} {l : List α} {x : α} {ky : Key κ} {L D : List (κ × Value)}
theorem sOwn : (iOwn b T cs O).Stab := fun Z Z' B w w' h e hB _ => h.ext e (fun hm => by have := hB b hm (.inl (by simp)); have := Own.lt h; omega)
theorem sMap : (iMap ky b L O).Stab := fun Z Z' B w w' h e hB _ => h.ext e (fun hm => by have := hB b hm (.inl (by simp)); have := MapAt.lt h; omega)
theorem sIter : (iIter ky it b L D O).Stab := fun Z Z' B w w' h e hB _ => Iter.ext h e (fun hm => by have := hB b hm (.inl (by simp)); have := MapAt.lt (Iter.map h); omega) (fun hm => by have := hB it hm (.inl (by simp)); have := Iter.lt h; omega)
theorem sData : (iData r cs x).Stab := fun Z Z' B w w' h e hB hZ => r.mono h e (fun b hb hz => hB b hb (.inr hz)) (fun b hb _ => hZ b hb)
theorem sAc : (iAc r v l bs O).Stab := fun Z Z' B w w' h e hB hZ => Ac.stab h e hB hZ
theorem sOb {o : Ob α} {F : List Nat} : (iOb o x F O).Stab := fun Z Z' B w w' h e hB hZ => o.stab Z Z' B w w' h e hB hZ
end
section
variable {P : Program} {α : Type} {r : Rd α} {Z : Nat → Prop} {bs : List Nat} {w : World} {v : Value} {l : List α} {T E : TypeId} {info : TypeInfo} {zv : Value}
theorem firstCells_run {sz : Nat} {A : Option Addr} {cap k : Nat} {cs : List (List Value)} (hl : cs.length = k) (hs : ∀ c ∈ cs, c.length = sz) (h : k = 0 ∨ ∃ b o, A = some ⟨b, o, none⟩ ∧ Cells w b o cs.flatten) :
    (Builtin.firstCells sz k (.slice A k cap)).run P w = .ok cs.flatten.toArray w := by
  cases A with
  | none =>
    rcases h with h | ⟨b, o, h, _⟩
    · subst h; have : cs = [] := List.eq_nil_of_length_eq_zero hl; subst this; simp [Builtin.firstCells, Sem.run, pure]
    · cases h
  | some a =>
    rcases h with h | ⟨b, o, h, hc⟩
    · subst h; have : cs = [] := List.eq_nil_of_length_eq_zero hl; subst this; simp [Builtin.firstCells, loadCells, loadCellsFrom, Sem.run, pure]
    · cases h
      have := loadCells_run (P := P) hc
      rw [flat_len hs, hl] at this
      simpa [Builtin.firstCells] using this
/-- append, whichever way it goes. -/
theorem append_run {xs : List α} {xv : Value} (hT : ∀ w, (underlying T).run P w = .ok (.slice E) w) (hI : ∀ w, (typeInfo E).run P w = .ok info w) (hE : ∀ w, (sizeOf E).run P w = .ok r.sz w) (hz : ∀ w, (zeroValue E).run P w = .ok zv w) (hzs : zv.cells.size = r.sz)
    (ha : Ac r Z w v l bs) (hx : Src r Z w xv xs) (hnz : ∀ b ∈ bs, ¬ Z b) (hb : (l.length + xs.length) * info.bytes ≤ 140737488355328) (hb1 : 1 ≤ info.bytes) :
    ∀ w1, Sim w w1 → ∃ v' w2 w', (Builtin.append_ #[T, T] T #[v, xv]).run P w1 = .ok v' w2 ∧ Sim w' w2 ∧ ∃ bs', Ac r Z w' v' (l ++ xs) bs' ∧ Ext bs w w' ∧ (∀ b ∈ bs', b ∈ bs ∨ w.heap.size ≤ b) := by
  intro w1 hs
  obtain ⟨kk, rfl⟩ := hs
  obtain ⟨A, cap, rfl⟩ := ha.val
  obtain ⟨B, xcap, rfl, cs, hcl, hcr0, hrow⟩ := hx
  have hcr : ∀ i (h : i < xs.length) (h' : i < cs.length), r.rd Z w cs[i] xs[i] := hcr0
  have hcs : ∀ c ∈ cs, c.length = r.sz := fun c hc => by
    obtain ⟨i, hi, rfl⟩ := List.getElem_of_mem hc
    exact r.len (hcr i (by omega) hi)
  have hrow' : xs.length = 0 ∨ ∃ b o, B = some ⟨b, o, none⟩ ∧ Cells { w with drawn := kk } b o cs.flatten := by
    rcases hrow with h | ⟨b, o, h1, h2⟩
    · exact .inl (by simp [h])
    · exact .inr ⟨b, o, h1, h2.sim ⟨kk, rfl⟩⟩
  have hnew : (Builtin.firstCells r.sz xs.length (.slice B xs.length xcap)).run P { w with drawn := kk } = .ok cs.flatten.toArray { w with drawn := kk } := firstCells_run hcl hcs hrow'
  by_cases hfit : l.length + xs.length ≤ cap
  · -- there is room
    rcases ha with ⟨hv, rfl, rfl⟩ | ⟨b, cap', C, T', hv, rfl, ho, hC, hcap, hc⟩
    · simp at hv
      obtain ⟨rfl, rfl⟩ := hv
      have hx0 : xs = [] := List.eq_nil_of_length_eq_zero (by have : ([] : List α).length + xs.length ≤ 0 := hfit; simp at this; simp [this])
      subst hx0
      refine ⟨.slice none 0 0, { w with drawn := kk }, w, ?_, ⟨kk, rfl⟩, [], Ac.nil, Ext.refl _ _, by simp⟩
      simp only [Builtin.append_, hT, hE, Builtin.lenOf, Sem.run_bind, Result.andThen_ok, Sem.run_pure, List.getElem?_toArray, List.getElem?_cons_zero, List.getElem?_cons_succ, Bool.false_eq_true, if_false, Bool.not_false, if_true]
      rw [if_pos hfit]
      simp only [Sem.run_bind, hnew, Result.andThen_ok, Sem.run_pure]; rfl
    · simp at hv
      obtain ⟨rfl, rfl⟩ := hv
      have hfl := flat_len hcs
      have hpl : ∀ u ∈ cs.flatten, plain1 u = true := by
        intro u hu
        obtain ⟨c, hc1, hc2⟩ := List.mem_flatten.1 hu
        obtain ⟨i, hi, rfl⟩ := List.getElem_of_mem hc1
        have := r.plain (hcr i (by omega) hi)
        rw [List.all_eq_true] at this
        exact this u hc2
      have hroom : l.length * r.sz + 0 + cs.flatten.length ≤ C.length := by
        rw [hfl, hC, hcl, Nat.add_zero, ← Nat.add_mul]; exact Nat.mul_le_mul_right _ hfit
      obtain ⟨w', hr, ho', he, hsz, hk⟩ := storeCells_run (P := P) cs.flatten (l.length * r.sz) 0 C w ho hroom hpl
      refine ⟨.slice (some ⟨b, 0, none⟩) (l.length + xs.length) cap, { w' with drawn := kk }, w', ?_, ⟨kk, rfl⟩, [b], ?_, he, by simp⟩
      · have e : (Addr.add ⟨b, 0, none⟩ (l.length * r.sz)) = ⟨b, l.length * r.sz, none⟩ := by
          unfold Addr.add; split
          · rename_i h; rw [h]
          · simp
        simp only [Builtin.append_, hT, hE, Builtin.lenOf, Sem.run_bind, Result.andThen_ok, Sem.run_pure, List.getElem?_toArray, List.getElem?_cons_zero, List.getElem?_cons_succ, Bool.false_eq_true, if_false, Bool.not_false, if_true]
        rw [if_pos hfit]
        simp only [Sem.run_bind, hnew, Result.andThen_ok, Sem.run_pure, e, hk kk]
      · refine .inr ⟨b, cap, splice C (l.length * r.sz + 0) cs.flatten, T', by simp, rfl, ho', by rw [splice_length, hC], by simpa using hfit, fun i hi => ?_⟩
        have hget := fun k => splice_get cs.flatten C (l.length * r.sz + 0) k hroom
        by_cases hil : i < l.length
        · obtain ⟨c, h1, h2, h3⟩ := hc i hil
          refine ⟨c, h1, fun j hj => ?_, ?_⟩
          · have hlt : i * r.sz + j < l.length * r.sz := by
              have : (i + 1) * r.sz ≤ l.length * r.sz := Nat.mul_le_mul_right _ hil
              rw [Nat.add_mul] at this; omega
            rw [hget, if_neg (by omega)]; exact h2 j hj
          · rw [List.getElem_append_left hil]
            exact r.mono h3 he (fun x hx hz => absurd hz (hnz x hx)) (fun x hx _ => hx)
        · have hix : i - l.length < xs.length := by simp at hi; omega
          have hic : i - l.length < cs.length := by omega
          refine ⟨cs[i - l.length], hcs _ (List.getElem_mem _), fun j hj => ?_, ?_⟩
          · have e1 : i * r.sz + j - (l.length * r.sz + 0) = (i - l.length) * r.sz + j := by
              rw [Nat.sub_mul]; have : l.length * r.sz ≤ i * r.sz := Nat.mul_le_mul_right _ (by omega); omega
            have hlt : (i - l.length) * r.sz + j < cs.flatten.length := by
              rw [hfl]
              have : (i - l.length + 1) * r.sz ≤ cs.length * r.sz := Nat.mul_le_mul_right _ hic
              rw [Nat.add_mul] at this; omega
            have hge : l.length * r.sz ≤ i * r.sz := Nat.mul_le_mul_right _ (by omega)
            rw [hget, if_pos (by rw [Nat.sub_mul] at hlt; omega), e1, flat_get hcs _ _ hj, List.getElem?_eq_getElem hic]; rfl
          · rw [List.getElem_append_right (by omega)]
            exact r.mono (hcr _ hix hic) he (fun x hx hz => absurd hz (hnz x hx)) (fun x hx _ => hx)
  · -- there is none
    have hneed : ¬ l.length + xs.length ≤ cap := hfit
    have hns := Wk.nextslicecap_le (need := l.length + xs.length) (cap := cap) (by omega)
    have hns' : ¬ (Builtin.nextslicecap (l.length + xs.length) cap * info.bytes > 2 ^ 48) := by
      have := Nat.mul_le_mul_right info.bytes hns
      have e : (2 : Nat) ^ 48 = 281474976710656 := by decide
      rw [Nat.mul_assoc] at this; omega
    have hlen : l.length + xs.length ≤ 140737488355328 := by
      have := Nat.mul_le_mul_left (l.length + xs.length) hb1; omega
    have hold : ∃ os : List (List Value), os.length = l.length ∧ (∀ c ∈ os, c.length = r.sz) ∧ (∀ i (h : i < l.length) (h' : i < os.length), r.rd Z w os[i] l[i]) ∧ (Builtin.firstCells r.sz l.length (.slice A l.length cap)).run P { w with drawn := kk + 1 } = .ok os.flatten.toArray { w with drawn := kk + 1 } := by
      rcases ha with ⟨hv, rfl, rfl⟩ | ⟨b, cap', C, T', hv, rfl, ho, hC, hcap, hc⟩
      · simp at hv
        obtain ⟨rfl, rfl⟩ := hv
        exact ⟨[], rfl, by simp, by simp, by simp [Builtin.firstCells, Sem.run, pure]⟩
      · simp at hv
        obtain ⟨rfl, rfl⟩ := hv
        have h' : ∀ i, i < l.length → ∃ c : List Value, c.length = r.sz ∧ (∀ j, j < r.sz → C[i * r.sz + j]? = c[j]?) ∧ ∃ hi : i < l.length, r.rd Z w c l[i] := fun i hi => by
          obtain ⟨c, h1, h2, h3⟩ := hc i hi; exact ⟨c, h1, h2, hi, h3⟩
        obtain ⟨os, hol, hos⟩ := choose_list l.length h'
        have hsz : ∀ c ∈ os, c.length = r.sz := fun c hc => by
          obtain ⟨i, hi, rfl⟩ := List.getElem_of_mem hc
          exact (hos i hi).1
        refine ⟨os, hol, hsz, fun i hi hi' => (hos i hi').2.2.2, firstCells_run hol hsz (.inr ⟨b, 0, rfl, _, _, _, ho.sim ⟨kk + 1, rfl⟩, fun j hj => ?_⟩)⟩
        rw [flat_len hsz] at hj
        have hsz0 : 0 < r.sz := by rcases Nat.eq_zero_or_pos r.sz with h | h; rw [h] at hj; simp at hj; exact h
        have hjq : j / r.sz < os.length := Nat.div_lt_of_lt_mul (by rw [Nat.mul_comm]; exact hj)
        have hjr : j % r.sz < r.sz := Nat.mod_lt _ hsz0
        have hjd : j / r.sz * r.sz + j % r.sz = j := by rw [Nat.mul_comm]; exact Nat.div_add_mod j r.sz
        have e1 := (hos (j / r.sz) hjq).2.1 (j % r.sz) hjr
        have e2 := flat_get hsz (j / r.sz) (j % r.sz) hjr
        rw [hjd] at e2 e1
        rw [e2, List.getElem?_eq_getElem hjq]
        simpa using e1
    obtain ⟨os, hol, hos, hor, holdr⟩ := hold
    have hnew1 : (Builtin.firstCells r.sz xs.length (.slice B xs.length xcap)).run P { w with drawn := kk + 1 } = .ok cs.flatten.toArray { w with drawn := kk + 1 } := firstCells_run hcl hcs (by
      rcases hrow with h | ⟨b, o, h1, h2⟩
      · exact .inl (by simp [h])
      · exact .inr ⟨b, o, h1, h2.sim ⟨kk + 1, rfl⟩⟩)
    let nc := (Question.appendCap (l.length + xs.length) cap E).cut (w.tape kk (Question.appendCap (l.length + xs.length) cap E))
    have hnc : l.length + xs.length ≤ nc := by show _ ≤ _ + _ % _; omega
    let row := os.flatten.toArray ++ cs.flatten.toArray ++ Builtin.zeroCells zv.cells (nc - (l.length + xs.length))
    refine ⟨.slice (some ⟨w.heap.size, 0, none⟩) (l.length + xs.length) nc, { w with drawn := kk + 1, heap := w.heap.push (.cells row E) }, { w with heap := w.heap.push (.cells row E) }, ?_, ⟨kk + 1, rfl⟩, [w.heap.size], ?_, (Ext.push w _).mono (by simp), by simp⟩
    · have hch : (choose (.appendCap (l.length + xs.length) cap E)).run P { w with drawn := kk } = .ok nc { w with drawn := kk + 1 } := by
        simp [choose, Sem.run, Question.forced, nc]
      have hroom : ∀ m (w : World), (askRoom m).run P w = .ok () w := fun m w => by unfold askRoom; split <;> simp [mark, Sem.run, pure]
      have hnl : ¬ ((l.length : Int) + (xs.length : Int) > 9223372036854775807 ∧ (false = true ∨ info.bytes = 0)) := by omega
      simp only [Builtin.append_, hT, hE, Builtin.lenOf, Sem.run_bind, Result.andThen_ok, Sem.run_pure, List.getElem?_toArray, List.getElem?_cons_zero, List.getElem?_cons_succ, Bool.false_eq_true, if_false, Bool.not_false, if_true]
      rw [if_neg hfit]
      simp only [Bool.false_eq_true, if_false, Sem.run_bind, hI, Result.andThen_ok, false_or]
      rw [if_neg (by intro h; have := h.2; omega)]
      simp only [Sem.run_bind, hI, Result.andThen_ok]
      rw [if_neg hns']
      simp only [Sem.run_bind, Sem.run_pure, hch, hI, hroom, holdr, hnew1, hz, Result.andThen_ok, newRow, newObj, Sem.run]
      rfl
    · have hlo := flat_len hos
      have hlc := flat_len hcs
      refine .inr ⟨w.heap.size, nc, row.toList, E, by simp, rfl, by simp [Own], ?_, by simpa using hnc, fun i hi => ?_⟩
      · simp only [row, Array.toList_append, List.length_append, Array.length_toList, List.size_toArray, hlo, hlc, zeroCells_len, hzs, hol, hcl]
        rw [← Nat.add_mul, ← Nat.add_mul]; congr 1; omega
      · have hrow : row.toList = os.flatten ++ (cs.flatten ++ (Builtin.zeroCells zv.cells (nc - (l.length + xs.length))).toList) := by simp [row]
        rw [hrow]
        by_cases hil : i < l.length
        · have hio : i < os.length := by omega
          refine ⟨os[i], hos _ (List.getElem_mem _), fun j hj => ?_, ?_⟩
          · have hlt : i * r.sz + j < os.flatten.length := by
              rw [hlo]; have : (i + 1) * r.sz ≤ os.length * r.sz := Nat.mul_le_mul_right _ hio
              rw [Nat.add_mul] at this; omega
            rw [List.getElem?_append_left hlt, flat_get hos _ _ hj, List.getElem?_eq_getElem hio]; rfl
          · rw [List.getElem_append_left hil]
            exact r.mono (hor i hil hio) (Ext.push w _) (fun x hx => by cases hx) (fun x hx _ => hx)
        · have hix : i - l.length < xs.length := by simp at hi; omega
          have hic : i - l.length < cs.length := by omega
          refine ⟨cs[i - l.length], hcs _ (List.getElem_mem _), fun j hj => ?_, ?_⟩
          · have hge : l.length * r.sz ≤ i * r.sz := Nat.mul_le_mul_right _ (by omega)
            have e1 : i * r.sz + j - os.flatten.length = (i - l.length) * r.sz + j := by rw [hlo, hol, Nat.sub_mul]; omega
            have hlt : (i - l.length) * r.sz + j < cs.flatten.length := by
              rw [hlc]; have : (i - l.length + 1) * r.sz ≤ cs.length * r.sz := Nat.mul_le_mul_right _ hic
              rw [Nat.add_mul] at this; omega
            rw [List.getElem?_append_right (by rw [hlo, hol]; omega), e1, List.getElem?_append_left hlt, flat_get hcs _ _ hj, List.getElem?_eq_getElem hic]; rfl
          · rw [List.getElem_append_right (by omega)]
            exact r.mono (hcr _ hix hic) (Ext.push w _) (fun x hx => by cases hx) (fun x hx _ => hx)

end
end Go.Wl
