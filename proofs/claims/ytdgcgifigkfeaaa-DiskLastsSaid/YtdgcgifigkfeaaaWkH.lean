/- append on a slice of the call's own. -/
import Derived.Test.YtdgcgifigkfeaaaWkG
namespace Go.Wk
open Go

theorem splice_get : ∀ (c cs : List Value) (o k : Nat), o + c.length ≤ cs.length → (splice cs o c)[k]? = if o ≤ k ∧ k < o + c.length then c[k - o]? else cs[k]? := by
  intro c
  induction c with
  | nil => intro cs o k _; simp [splice]; intro h1 h2; omega
  | cons v r ih =>
    intro cs o k h
    simp at h
    simp only [splice]
    rw [ih _ _ _ (by simp; omega)]
    by_cases hk : k = o
    · subst hk
      rw [if_neg (by omega), if_pos (by simp)]
      rw [List.getElem?_set_self (by omega)]; simp
    · by_cases h1 : o + 1 ≤ k ∧ k < o + 1 + r.length
      · rw [if_pos h1, if_pos (by simp; omega)]
        rw [show k - o = (k - (o + 1)) + 1 by omega]; simp
      · rw [if_neg h1, if_neg (by simp; omega)]
        rw [List.getElem?_set_ne (by omega)]

theorem growBy_le (newLen : Nat) : ∀ (rounds c : Nat), c < newLen → 256 ≤ c → Builtin.growBy newLen rounds c ≤ 2 * newLen := by
  intro rounds
  induction rounds with
  | zero => intro c h _; simp [Builtin.growBy]; omega
  | succ r ih =>
    intro c h h2
    simp only [Builtin.growBy]
    rw [if_neg (by omega)]
    by_cases h3 : c + (c + 768) / 4 < newLen
    · exact ih _ h3 (by omega)
    · cases r with
      | zero => simp [Builtin.growBy]; omega
      | succ r => simp only [Builtin.growBy]; rw [if_pos (by omega)]; omega
theorem nextslicecap_le {need cap : Nat} (h : cap < need) : Builtin.nextslicecap need cap ≤ 2 * need := by
  unfold Builtin.nextslicecap
  split
  · omega
  · split
    · omega
    · exact growBy_le _ _ _ h (by omega)

/-- A slice that is nil, or the head of a row of the call's own: it may be appended to. 'bs': the row's block. -/
def Acc {α : Type} (r : Rep α) (M : List Nat) (w : World) (v : Value) (l : List α) (bs : List Nat) : Prop :=
  (v = .slice none 0 0 ∧ l = [] ∧ bs = []) ∨
  ∃ b cap C T, v = .slice (some ⟨b, 0, none⟩) l.length cap ∧ bs = [b] ∧ Own w b T C ∧ C.length = cap * r.sz ∧ l.length ≤ cap ∧ b ∉ M ∧
    ∀ i (h : i < l.length), ∃ c, c.length = r.sz ∧ (∀ j, j < r.sz → C[i * r.sz + j]? = c[j]?) ∧ r.rd (b :: M) w c l[i]

section
variable {α : Type} {r : Rep α} {M M' B bs : List Nat} {w w' : World} {v : Value} {l : List α}
theorem Acc.nil : Acc r M w (.slice none 0 0) [] [] := .inl ⟨rfl, rfl, rfl⟩
theorem Acc.val (h : Acc r M w v l bs) : ∃ A cap, v = .slice A l.length cap := by
  rcases h with ⟨rfl, rfl, rfl⟩ | ⟨b, cap, C, T, rfl, _⟩
  · exact ⟨none, 0, rfl⟩
  · exact ⟨_, _, rfl⟩
theorem Acc.bs_lt (h : Acc r M w v l bs) : ∀ b ∈ bs, b < w.heap.size := by
  rcases h with ⟨rfl, rfl, rfl⟩ | ⟨b, cap, C, T, rfl, rfl, ho, _⟩
  · simp
  · intro x hx; simp at hx; subst hx; exact ho.lt
theorem Acc.bs_notin (h : Acc r M w v l bs) : ∀ b ∈ bs, b ∉ M := by
  rcases h with ⟨rfl, rfl, rfl⟩ | ⟨b, cap, C, T, rfl, rfl, ho, _, _, hb, _⟩
  · simp
  · intro x hx; simp at hx; subst hx; exact hb
/-- Other blocks turn. -/
theorem Acc.ext (h : Acc r M w v l bs) (e : Ext B w w') (hB : ∀ b ∈ B, b ∈ M ∨ w.heap.size ≤ b) : Acc r M w' v l bs := by
  rcases h with h | ⟨b, cap, C, T, hv, hb, ho, hC, hl, hM, hc⟩
  · exact .inl h
  · have hlt := ho.lt
    refine .inr ⟨b, cap, C, T, hv, hb, ho.ext e (fun hm => by rcases hB b hm with h | h; exact hM h; omega), hC, hl, hM, fun i hi => ?_⟩
    obtain ⟨c, h1, h2, h3⟩ := hc i hi
    exact ⟨c, h1, h2, r.mono h3 e (fun x hx => by rcases hB x hx with h | h; exact .inl (by simp [h]); exact .inr h) (fun x hx => .inl hx)⟩
theorem Acc.weak (h : Acc r M w v l bs) (hM : ∀ b ∈ M', b ∈ M ∨ w.heap.size ≤ b) : Acc r M' w v l bs := by
  rcases h with h | ⟨b, cap, C, T, hv, hb, ho, hC, hl, hn, hc⟩
  · exact .inl h
  · have hlt := ho.lt
    refine .inr ⟨b, cap, C, T, hv, hb, ho, hC, hl, fun hm => (by rcases hM b hm with h | h; exact hn h; omega), fun i hi => ?_⟩
    obtain ⟨c, h1, h2, h3⟩ := hc i hi
    exact ⟨c, h1, h2, r.mono h3 (Ext.refl [] w) (by simp) (fun x hx => by
      rcases List.mem_cons.1 hx with rfl | hx
      · exact .inl (by simp)
      · rcases hM x hx with h | h; exact .inl (by simp [h]); exact .inr h)⟩
/-- What was appended to reads as a slice. -/
theorem Acc.rd (h : Acc r M w v l bs) (hl : l.length ≤ 9223372036854775807) : (rSlice r).rd M w [v] l := by
  rcases h with ⟨rfl, rfl, rfl⟩ | ⟨b, cap, C, T, rfl, rfl, ho, hC, hcap, hb, hc⟩
  · exact rSlice_nil
  · refine ⟨hl, _, _, rfl, (fun h => by cases h), fun i hi => ?_⟩
    obtain ⟨c, h1, h2, h3⟩ := hc i hi
    exact ⟨b, 0, c, rfl, hb, ⟨_, _, _, ho, fun j hj => by
      have := h2 j (by omega)
      simpa using this⟩, r.mono h3 (Ext.refl [] w) (by simp) (fun x hx => .inl (by simp [hx]))⟩
/-- A slice's literal. -/
theorem Acc.lit {b : Nat} {T : TypeId} {C : List Value} (ho : Own w b T C) (hC : C.length = l.length * r.sz) (hb : b ∉ M) (hc : ∀ i (h : i < l.length), r.rd (b :: M) w ((C.drop (i * r.sz)).take r.sz) l[i]) :
    Acc r M w (.slice (some ⟨b, 0, none⟩) l.length l.length) l [b] :=
  .inr ⟨b, l.length, C, T, rfl, rfl, ho, hC, Nat.le_refl _, hb, fun i hi => ⟨_, r.len (hc i hi), fun j hj => by
    rw [List.getElem?_take]
    simp [hj, List.getElem?_drop], hc i hi⟩⟩
end

theorem flat_get {cs : List (List Value)} {sz : Nat} (h : ∀ c ∈ cs, c.length = sz) : ∀ i j, j < sz → cs.flatten[i * sz + j]? = (cs[i]?).bind (·[j]?) := by
  induction cs with
  | nil => intro i j _; simp
  | cons c cs ih =>
    intro i j hj
    have hc : c.length = sz := h c (by simp)
    cases i with
    | zero => simp [List.getElem?_append, hc, hj]
    | succ i =>
      rw [List.flatten_cons, List.getElem?_append_right (by rw [hc, Nat.add_mul]; omega), hc]
      rw [show (i + 1) * sz + j - sz = i * sz + j by rw [Nat.add_mul]; omega]
      rw [ih (fun c' h' => h c' (by simp [h'])) i j hj]; simp
theorem flat_len {cs : List (List Value)} {sz : Nat} (h : ∀ c ∈ cs, c.length = sz) : cs.flatten.length = cs.length * sz := by
  induction cs with
  | nil => simp
  | cons c cs ih => rw [List.flatten_cons, List.length_append, ih (fun c' h' => h c' (by simp [h'])), h c (by simp), List.length_cons, Nat.add_mul]; omega

theorem choose_list {β : Type} {p : Nat → β → Prop} : ∀ n, (∀ i, i < n → ∃ b, p i b) → ∃ bs : List β, bs.length = n ∧ ∀ i (hi : i < bs.length), p i bs[i] := by
  intro n
  induction n with
  | zero => intro _; exact ⟨[], rfl, by simp⟩
  | succ n ih =>
    intro h
    obtain ⟨bs, h1, h2⟩ := ih (fun i hi => h i (by omega))
    obtain ⟨b, hb⟩ := h n (by omega)
    refine ⟨bs ++ [b], by simp [h1], fun i hi => ?_⟩
    by_cases hi' : i < bs.length
    · rw [List.getElem_append_left hi']; exact h2 i hi'
    · have : i = n := by simp at hi; omega
      subst this
      rw [List.getElem_append_right (by omega)]; simpa [h1] using hb

section
variable {α : Type} {r : Rep α} {M : List Nat} {w : World} {v : Value} {l : List α}
/-- A slice's cells in a row. -/
theorem rSlice_row {A : Option Addr} {cap : Nat} (h : (rSlice r).rd M w [.slice A l.length cap] l) : ∃ cs : List (List Value), cs.length = l.length ∧ (∀ c ∈ cs, c.length = r.sz) ∧ (∀ i (h : i < l.length) (h' : i < cs.length), r.rd M w cs[i] l[i]) ∧
    (l = [] ∨ ∃ b o, A = some ⟨b, o, none⟩ ∧ Cells w b o cs.flatten) := by
  obtain ⟨_, A', cap', e, _, h⟩ := h
  simp at e
  obtain ⟨rfl, rfl⟩ := e
  by_cases hne : l = []
  · subst hne; exact ⟨[], rfl, by simp, by simp, .inl rfl⟩
  · have hpos : 0 < l.length := List.length_pos_iff.2 hne
    obtain ⟨b, o, c0, hA, _, _, _⟩ := h 0 hpos
    have h' : ∀ i, i < l.length → ∃ c, Cells w b (o + i * r.sz) c ∧ ∃ hi : i < l.length, r.rd M w c l[i] := fun i hi => by
      obtain ⟨b', o', c, hA', _, hc, hr⟩ := h i hi
      rw [hA] at hA'; cases hA'
      exact ⟨c, hc, hi, hr⟩
    obtain ⟨cs, hcl, hcs⟩ := choose_list l.length h'
    have hsz : ∀ c ∈ cs, c.length = r.sz := fun c hc => by
      obtain ⟨i, hi, rfl⟩ := List.getElem_of_mem hc
      obtain ⟨_, _, hr⟩ := hcs i hi
      exact r.len hr
    refine ⟨cs, hcl, hsz, fun i hi hi' => ?_, .inr ⟨b, o, hA, ?_⟩⟩
    · obtain ⟨_, _, hr⟩ := hcs i hi'; exact hr
    · obtain ⟨⟨C, T, z, hh, _⟩, _⟩ := hcs 0 (by omega)
      refine ⟨C, T, z, hh, fun j hj => ?_⟩
      rw [flat_len hsz] at hj
      have hsz0 : 0 < r.sz := by rcases Nat.eq_zero_or_pos r.sz with h | h; rw [h] at hj; simp at hj; exact h
      have hjq : j / r.sz < cs.length := Nat.div_lt_of_lt_mul (by rw [Nat.mul_comm]; exact hj)
      have hjr : j % r.sz < r.sz := Nat.mod_lt _ hsz0
      have hjd : j / r.sz * r.sz + j % r.sz = j := by rw [Nat.mul_comm]; exact Nat.div_add_mod j r.sz
      obtain ⟨⟨C', T', z', hh', hc'⟩, _, hr⟩ := hcs (j / r.sz) hjq
      rw [hh] at hh'; cases hh'
      have e1 := hc' (j % r.sz) (by rw [r.len hr]; exact hjr)
      have e2 := flat_get hsz (j / r.sz) (j % r.sz) hjr
      rw [hjd] at e2
      rw [e2, List.getElem?_eq_getElem hjq]
      simp only [Option.bind_some]
      rw [← e1]; congr 1; omega
end

section
variable {P : Program} {α : Type} {r : Rep α} {M bs : List Nat} {w : World} {v : Value} {l : List α} {T E : TypeId} {info : TypeInfo} {zv : Value}

theorem loadCells_run {b o : Nat} {cs : List Value} (hc : Cells w b o cs) : (loadCells ⟨b, o, none⟩ cs.length).run P w = .ok cs.toArray w := by
  have h := loadCellsFrom_run (P := P) hc cs.length 0 #[] (by omega)
  simpa [loadCells] using h

theorem firstCells_run {A : Option Addr} {cap k : Nat} {cs : List (List Value)} (hl : cs.length = k) (hs : ∀ c ∈ cs, c.length = r.sz) (h : k = 0 ∨ ∃ b o, A = some ⟨b, o, none⟩ ∧ Cells w b o cs.flatten) :
    (Builtin.firstCells r.sz k (.slice A k cap)).run P w = .ok cs.flatten.toArray w := by
  cases A with
  | none =>
    rcases h with h | ⟨b, o, h, _⟩
    · subst h; have : cs = [] := List.eq_nil_of_length_eq_zero hl; subst this; simp [Builtin.firstCells, Sem.run, pure]
    · cases h
  | some a =>
    rcases h with h | ⟨b, o, h, hc⟩
    · subst h; have : cs = [] := List.eq_nil_of_length_eq_zero hl; subst this; simp [Builtin.firstCells, loadCells, loadCellsFrom, Sem.run, pure]
    · cases h
      have := loadCells_run (P := P) hc
      rw [flat_len hs, hl] at this
      simpa [Builtin.firstCells] using this

theorem zeroCells_len (z : Array Value) (n : Nat) : (Builtin.zeroCells z n).size = n * z.size := by simp [Builtin.zeroCells]

/-- append, whichever way it goes. -/
theorem append_run {xs : List α} {xv : Value} (hT : ∀ w, (underlying T).run P w = .ok (.slice E) w) (hI : ∀ w, (typeInfo E).run P w = .ok info w) (hE : ∀ w, (sizeOf E).run P w = .ok r.sz w) (hz : ∀ w, (zeroValue E).run P w = .ok zv w) (hzs : zv.cells.size = r.sz)
    (ha : Acc r M w v l bs) (hx : (rSlice r).rd (bs ++ M) w [xv] xs) (hb : (l.length + xs.length) * info.bytes ≤ 140737488355328) (hb1 : 1 ≤ info.bytes) (hM : ∀ b ∈ M, b < w.heap.size) :
    ∀ w1, Sim w w1 → ∃ v' w2 w', (Builtin.append_ #[T, T] T #[v, xv]).run P w1 = .ok v' w2 ∧ Sim w' w2 ∧ ∃ bs', Acc r M w' v' (l ++ xs) bs' ∧ Ext bs w w' ∧ (∀ b ∈ bs', b ∈ bs ∨ w.heap.size ≤ b) := by
  intro w1 hs
  obtain ⟨kk, rfl⟩ := hs
  obtain ⟨A, cap, rfl⟩ := ha.val
  obtain ⟨B, xcap, rfl⟩ := rSlice_val hx
  obtain ⟨cs, hcl, hcs, hcr, hrow⟩ := rSlice_row hx
  have hrow' : xs.length = 0 ∨ ∃ b o, B = some ⟨b, o, none⟩ ∧ Cells { w with drawn := kk } b o cs.flatten := by
    rcases hrow with h | ⟨b, o, h1, h2⟩
    · exact .inl (by simp [h])
    · exact .inr ⟨b, o, h1, h2.sim ⟨kk, rfl⟩⟩
  have hnew : (Builtin.firstCells r.sz xs.length (.slice B xs.length xcap)).run P { w with drawn := kk } = .ok cs.flatten.toArray { w with drawn := kk } := firstCells_run hcl hcs hrow'
  by_cases hfit : l.length + xs.length ≤ cap
  · -- there is room
    rcases ha with ⟨hv, rfl, rfl⟩ | ⟨b, cap', C, T', hv, rfl, ho, hC, hcap, hbM, hc⟩
    · simp at hv
      obtain ⟨rfl, rfl⟩ := hv
      have hx0 : xs = [] := List.eq_nil_of_length_eq_zero (by have : ([] : List α).length + xs.length ≤ 0 := hfit; simp at this; simp [this])
      subst hx0
      refine ⟨.slice none 0 0, { w with drawn := kk }, w, ?_, ⟨kk, rfl⟩, [], Acc.nil, Ext.refl _ _, by simp⟩
      simp only [Builtin.append_, hT, hE, Builtin.lenOf, Sem.run_bind, Result.andThen_ok, Sem.run_pure, List.getElem?_toArray, List.getElem?_cons_zero, List.getElem?_cons_succ, Bool.false_eq_true, if_false, Bool.not_false, if_true]
      rw [if_pos hfit]
      simp only [Sem.run_bind, hnew, Result.andThen_ok, Sem.run_pure]; rfl
    · simp at hv
      obtain ⟨rfl, rfl⟩ := hv
      have hfl := flat_len hcs
      have hpl : ∀ u ∈ cs.flatten, plain1 u = true := by
        intro u hu
        obtain ⟨c, hc1, hc2⟩ := List.mem_flatten.1 hu
        obtain ⟨i, hi, rfl⟩ := List.getElem_of_mem hc1
        have := r.plain (hcr i (by omega) hi)
        rw [List.all_eq_true] at this
        exact this u hc2
      have hroom : l.length * r.sz + 0 + cs.flatten.length ≤ C.length := by
        rw [hfl, hC, hcl, Nat.add_zero, ← Nat.add_mul]; exact Nat.mul_le_mul_right _ hfit
      obtain ⟨w', hr, ho', he, hsz, hk⟩ := storeCells_run (P := P) cs.flatten (l.length * r.sz) 0 C w ho hroom hpl
      refine ⟨.slice (some ⟨b, 0, none⟩) (l.length + xs.length) cap, { w' with drawn := kk }, w', ?_, ⟨kk, rfl⟩, [b], ?_, he, by simp⟩
      · have e : (Addr.add ⟨b, 0, none⟩ (l.length * r.sz)) = ⟨b, l.length * r.sz, none⟩ := by
          unfold Addr.add; split
          · rename_i h; rw [h]
          · simp
        simp only [Builtin.append_, hT, hE, Builtin.lenOf, Sem.run_bind, Result.andThen_ok, Sem.run_pure, List.getElem?_toArray, List.getElem?_cons_zero, List.getElem?_cons_succ, Bool.false_eq_true, if_false, Bool.not_false, if_true]
        rw [if_pos hfit]
        simp only [Sem.run_bind, hnew, Result.andThen_ok, Sem.run_pure, e, hk kk]
      · refine .inr ⟨b, cap, splice C (l.length * r.sz + 0) cs.flatten, T', by simp, rfl, ho', by rw [splice_length, hC], by simpa using hfit, hbM, fun i hi => ?_⟩
        have hget := fun k => splice_get cs.flatten C (l.length * r.sz + 0) k hroom
        by_cases hil : i < l.length
        · obtain ⟨c, h1, h2, h3⟩ := hc i hil
          refine ⟨c, h1, fun j hj => ?_, ?_⟩
          · have hlt : i * r.sz + j < l.length * r.sz := by
              have : (i + 1) * r.sz ≤ l.length * r.sz := Nat.mul_le_mul_right _ hil
              rw [Nat.add_mul] at this; omega
            rw [hget, if_neg (by omega)]; exact h2 j hj
          · rw [List.getElem_append_left hil]
            exact r.mono h3 he (fun x hx => .inl (by simp at hx; simp [hx])) (fun x hx => .inl hx)
        · have hix : i - l.length < xs.length := by simp at hi; omega
          have hic : i - l.length < cs.length := by omega
          refine ⟨cs[i - l.length], hcs _ (List.getElem_mem _), fun j hj => ?_, ?_⟩
          · have e1 : i * r.sz + j - (l.length * r.sz + 0) = (i - l.length) * r.sz + j := by
              rw [Nat.sub_mul]; have : l.length * r.sz ≤ i * r.sz := Nat.mul_le_mul_right _ (by omega); omega
            have hlt : (i - l.length) * r.sz + j < cs.flatten.length := by
              rw [hfl]
              have : (i - l.length + 1) * r.sz ≤ cs.length * r.sz := Nat.mul_le_mul_right _ hic
              rw [Nat.add_mul] at this; omega
            have hge : l.length * r.sz ≤ i * r.sz := Nat.mul_le_mul_right _ (by omega)
            rw [hget, if_pos (by rw [Nat.sub_mul] at hlt; omega), e1, flat_get hcs _ _ hj, List.getElem?_eq_getElem hic]; rfl
          · rw [List.getElem_append_right (by omega)]
            refine r.mono (hcr _ hix hic) he (fun x hx => .inl (by simp at hx; simp [hx])) (fun x hx => .inl ?_)
            simpa using hx
  · -- there is none
    have hneed : ¬ l.length + xs.length ≤ cap := hfit
    have hns := nextslicecap_le (need := l.length + xs.length) (cap := cap) (by omega)
    have hns' : ¬ (Builtin.nextslicecap (l.length + xs.length) cap * info.bytes > 2 ^ 48) := by
      have := Nat.mul_le_mul_right info.bytes hns
      have e : (2 : Nat) ^ 48 = 281474976710656 := by decide
      rw [Nat.mul_assoc] at this; omega
    have hlen : l.length + xs.length ≤ 140737488355328 := by
      have := Nat.mul_le_mul_left (l.length + xs.length) hb1; omega
    have hold : ∃ os : List (List Value), os.length = l.length ∧ (∀ c ∈ os, c.length = r.sz) ∧ (∀ i (h : i < l.length) (h' : i < os.length), r.rd (bs ++ M) w os[i] l[i]) ∧ (Builtin.firstCells r.sz l.length (.slice A l.length cap)).run P { w with drawn := kk + 1 } = .ok os.flatten.toArray { w with drawn := kk + 1 } := by
      rcases ha with ⟨hv, rfl, rfl⟩ | ⟨b, cap', C, T', hv, rfl, ho, hC, hcap, hbM, hc⟩
      · simp at hv
        obtain ⟨rfl, rfl⟩ := hv
        exact ⟨[], rfl, by simp, by simp, by simp [Builtin.firstCells, Sem.run, pure]⟩
      · simp at hv
        obtain ⟨rfl, rfl⟩ := hv
        have h' : ∀ i, i < l.length → ∃ c : List Value, c.length = r.sz ∧ (∀ j, j < r.sz → C[i * r.sz + j]? = c[j]?) ∧ ∃ hi : i < l.length, r.rd (b :: M) w c l[i] := fun i hi => by
          obtain ⟨c, h1, h2, h3⟩ := hc i hi; exact ⟨c, h1, h2, hi, h3⟩
        obtain ⟨os, hol, hos⟩ := choose_list l.length h'
        have hsz : ∀ c ∈ os, c.length = r.sz := fun c hc => by
          obtain ⟨i, hi, rfl⟩ := List.getElem_of_mem hc
          exact (hos i hi).1
        refine ⟨os, hol, hsz, fun i hi hi' => (hos i hi').2.2.2, firstCells_run hol hsz (.inr ⟨b, 0, rfl, _, _, _, ho.sim ⟨kk + 1, rfl⟩, fun j hj => ?_⟩)⟩
        rw [flat_len hsz] at hj
        have hsz0 : 0 < r.sz := by rcases Nat.eq_zero_or_pos r.sz with h | h; rw [h] at hj; simp at hj; exact h
        have hjq : j / r.sz < os.length := Nat.div_lt_of_lt_mul (by rw [Nat.mul_comm]; exact hj)
        have hjr : j % r.sz < r.sz := Nat.mod_lt _ hsz0
        have hjd : j / r.sz * r.sz + j % r.sz = j := by rw [Nat.mul_comm]; exact Nat.div_add_mod j r.sz
        have e1 := (hos (j / r.sz) hjq).2.1 (j % r.sz) hjr
        have e2 := flat_get hsz (j / r.sz) (j % r.sz) hjr
        rw [hjd] at e2 e1
        rw [e2, List.getElem?_eq_getElem hjq]
        simpa using e1
    obtain ⟨os, hol, hos, hor, holdr⟩ := hold
    have hnew1 : (Builtin.firstCells r.sz xs.length (.slice B xs.length xcap)).run P { w with drawn := kk + 1 } = .ok cs.flatten.toArray { w with drawn := kk + 1 } := firstCells_run hcl hcs (by
      rcases hrow with h | ⟨b, o, h1, h2⟩
      · exact .inl (by simp [h])
      · exact .inr ⟨b, o, h1, h2.sim ⟨kk + 1, rfl⟩⟩)
    let nc := (Question.appendCap (l.length + xs.length) cap E).cut (w.tape kk (Question.appendCap (l.length + xs.length) cap E))
    have hnc : l.length + xs.length ≤ nc := by show _ ≤ _ + _ % _; omega
    let row := os.flatten.toArray ++ cs.flatten.toArray ++ Builtin.zeroCells zv.cells (nc - (l.length + xs.length))
    refine ⟨.slice (some ⟨w.heap.size, 0, none⟩) (l.length + xs.length) nc, { w with drawn := kk + 1, heap := w.heap.push (.cells row E) }, { w with heap := w.heap.push (.cells row E) }, ?_, ⟨kk + 1, rfl⟩, [w.heap.size], ?_, (Ext.push w _).mono (by simp), by simp⟩
    · have hch : (choose (.appendCap (l.length + xs.length) cap E)).run P { w with drawn := kk } = .ok nc { w with drawn := kk + 1 } := by
        simp [choose, Sem.run, Question.forced, nc]
      have hroom : ∀ m (w : World), (askRoom m).run P w = .ok () w := fun m w => by unfold askRoom; split <;> simp [mark, Sem.run, pure]
      have hnl : ¬ ((l.length : Int) + (xs.length : Int) > 9223372036854775807 ∧ (false = true ∨ info.bytes = 0)) := by omega
      simp only [Builtin.append_, hT, hE, Builtin.lenOf, Sem.run_bind, Result.andThen_ok, Sem.run_pure, List.getElem?_toArray, List.getElem?_cons_zero, List.getElem?_cons_succ, Bool.false_eq_true, if_false, Bool.not_false, if_true]
      rw [if_neg hfit]
      simp only [Bool.false_eq_true, if_false, Sem.run_bind, hI, Result.andThen_ok, false_or]
      rw [if_neg (by intro h; have := h.2; omega)]
      simp only [Sem.run_bind, hI, Result.andThen_ok]
      rw [if_neg hns']
      simp only [Sem.run_bind, Sem.run_pure, hch, hI, hroom, holdr, hnew1, hz, Result.andThen_ok, newRow, newObj, Sem.run]
      rfl
    · have hlo := flat_len hos
      have hlc := flat_len hcs
      refine .inr ⟨w.heap.size, nc, row.toList, E, by simp, rfl, by simp [Own], ?_, by simpa using hnc, fun hm => by have := hM _ hm; omega, fun i hi => ?_⟩
      · simp only [row, Array.toList_append, List.length_append, Array.length_toList, List.size_toArray, hlo, hlc, zeroCells_len, hzs, hol, hcl]
        rw [← Nat.add_mul, ← Nat.add_mul]; congr 1; omega
      · have hrow : row.toList = os.flatten ++ (cs.flatten ++ (Builtin.zeroCells zv.cells (nc - (l.length + xs.length))).toList) := by simp [row]
        rw [hrow]
        by_cases hil : i < l.length
        · have hio : i < os.length := by omega
          refine ⟨os[i], hos _ (List.getElem_mem _), fun j hj => ?_, ?_⟩
          · have hlt : i * r.sz + j < os.flatten.length := by
              rw [hlo]; have : (i + 1) * r.sz ≤ os.length * r.sz := Nat.mul_le_mul_right _ hio
              rw [Nat.add_mul] at this; omega
            rw [List.getElem?_append_left hlt, flat_get hos _ _ hj, List.getElem?_eq_getElem hio]; rfl
          · rw [List.getElem_append_left hil]
            exact r.mono (hor i hil hio) (Ext.push w _) (by simp) (fun x hx => by
              rcases List.mem_cons.1 hx with rfl | hx
              · exact .inr (Nat.le_refl _)
              · exact .inl (by simp [hx]))
        · have hix : i - l.length < xs.length := by simp at hi; omega
          have hic : i - l.length < cs.length := by omega
          refine ⟨cs[i - l.length], hcs _ (List.getElem_mem _), fun j hj => ?_, ?_⟩
          · have hge : l.length * r.sz ≤ i * r.sz := Nat.mul_le_mul_right _ (by omega)
            have e1 : i * r.sz + j - os.flatten.length = (i - l.length) * r.sz + j := by rw [hlo, hol, Nat.sub_mul]; omega
            have hlt : (i - l.length) * r.sz + j < cs.flatten.length := by
              rw [hlc]; have : (i - l.length + 1) * r.sz ≤ cs.length * r.sz := Nat.mul_le_mul_right _ hic
              rw [Nat.add_mul] at this; omega
            rw [List.getElem?_append_right (by rw [hlo, hol]; omega), e1, List.getElem?_append_left hlt, flat_get hcs _ _ hj, List.getElem?_eq_getElem hic]; rfl
          · rw [List.getElem_append_right (by omega)]
            exact r.mono (hcr _ hix hic) (Ext.push w _) (by simp) (fun x hx => by
              rcases List.mem_cons.1 hx with rfl | hx
              · exact .inr (Nat.le_refl _)
              · exact .inl (by simp [hx]))

variable {n : Nat} {ops : List Oper} {Q : Exit → Fr → World → Prop} {rest : List Oper} {f : Fr} {d : Nat} {ty : TypeId} {pos : String} {after : Array Edge} {x y : Operand}
theorem S_append {xs : List α} (hT : ∀ w, (underlying T).run P w = .ok (.slice E) w) (hI : ∀ w, (typeInfo E).run P w = .ok info w) (hE : ∀ w, (sizeOf E).run P w = .ok r.sz w) (hz : ∀ w, (zeroValue E).run P w = .ok zv w) (hzs : zv.cells.size = r.sz)
    (ha : Acc r M w (ev f x) l bs) (hx : (rSlice r).rd (bs ++ M) w [ev f y] xs) (hb : (l.length + xs.length) * info.bytes ≤ 140737488355328) (hb1 : 1 ≤ info.bytes) (hM : ∀ b ∈ M, b < w.heap.size) (hn : Nat.blt d n = true)
    (K : ∀ v w' bs', Acc r M w' v (l ++ xs) bs' → Ext bs w w' → (∀ b ∈ bs', b ∈ bs ∨ w.heap.size ≤ b) → WL P false n ops Q rest (upd f d v) w') :
    WL P false n ops Q (⟨some d, .call ⟨.builtin .append, #[x, y], #[T, T]⟩, T, pos, after, none⟩ :: rest) f w :=
  WL_valW rfl rfl hn fun w1 hs => by
    obtain ⟨v', w2, w', hr, hs', bs', h1, h2, h3⟩ := append_run hT hI hE hz hzs ha hx hb hb1 hM w1 hs
    refine ⟨v', w2, w', ?_, hs', K v' w' bs' h1 h2 h3⟩
    simp only [execOp, resolve, invoke, builtin, Sem.run_bind, Sem.run_pure, Result.andThen_ok]
    have : (#[x, y] : Array Operand).map (ev f) = #[ev f x, ev f y] := by simp
    rw [this, hr]; rfl
end
end Go.Wk
