/- One rule for each operation that touches memory, in parts. -/
import Derived.Test.YtdgcgifigkfeaaaWlB
namespace Go.Wl
open Go Go.Wk

/-! ### Cells at an address -/
def CellsA (w : World) (a : Addr) (cs : List Value) : Prop := a.spot = none ∧ Cells w a.block a.off cs
theorem eA_spot (A : Option Addr) (q : Nat) : (eA A q).spot = none := by cases A with
  | none => rfl
  | some a => obtain ⟨b, o, s⟩ := a; rfl
section
variable {α β : Type} {r : Rd α} {s : Rd β} {D : Nat → Prop} {w : World} {A : Option Addr} {nn cap : Nat} {l : List α}
theorem dSlice_n (h : (dSlice r).rd D w [.slice A nn cap] l) : l.length = nn := by
  obtain ⟨_, A', cap', e, _⟩ := h
  simp at e; exact e.2.1.symm
/-- A part of an element. -/
theorem cell_ix [Inhabited α] {o q sz : Nat} {i : Int} {g : α → β} (h : (dSlice r).rd D w [.slice A nn cap] l) (sub : Sub r o s g) (hsz : r.sz = sz) (hq : q = i.toNat * sz + o) (h0 : 0 ≤ i) (h1 : i < nn) :
    ∃ c, CellsA w (eA A q) c ∧ s.rd D w c (g (ix l i)) := by
  subst hsz; subst hq
  have hn := dSlice_n h
  subst hn
  have hi : i.toNat < l.length := by omega
  obtain ⟨b, o', c, rfl, _, hc, hr⟩ := dSlice_at h hi
  have hl := r.len hr
  have hs := sub.1
  refine ⟨(c.drop o).take s.sz, ⟨rfl, ?_⟩, by rw [ix_get hi]; exact sub.2 hr⟩
  obtain ⟨C, T, z, hh, hcc⟩ := hc
  refine ⟨C, T, z, hh, fun j hj => ?_⟩
  simp only [List.length_take, List.length_drop] at hj
  have := hcc (o + j) (by omega)
  rw [List.getElem?_take, if_pos (by omega), List.getElem?_drop, ← this]
  show C[o' + (i.toNat * r.sz + o) + j]? = _
  congr 1; omega
end

section
variable {P : Program} {m : Bool} {n : Nat} {ops : List Oper} {Q : Exit → Fr → World → Prop} {rest : List Oper} {f : Fr} {w w0 : World} {d : Nat} {Z D : Nat → Prop} {B0 : List Nat} {L : List It}
variable {ty T T' T2 E : TypeId} {pos : String} {after : Array Edge} {x y z : Operand} {k : IntKind} {v zv : Value} {i : Int} {p : Bool}
variable {α β : Type} {r : Rd α} {s : Rd β} {A : Option Addr} {nn cap q sz b : Nat} {l : List α} {cs O bs : List Nat}

theorem Z_index (h : (dSlice r).rd D w [.slice A nn cap] l) (hT : ∀ w, (underlying T).run P w = .ok (.slice E) w) (hE : ∀ w, (sizeOf E).run P w = .ok sz w) (hsz : r.sz = sz) (hx : ev f x = .slice A nn cap) (hy : ev f y = .int k i)
    (h0 : 0 ≤ i) (h1 : i < nn) (hn : Nat.blt d n = true) (K : WL P m n ops Q rest (upd f d (.pointer (some (eA A (i.toNat * sz))))) w) :
    WL P m n ops Q (⟨some d, .indexAddr T x y, ty, pos, after, none⟩ :: rest) f w := by
  have hl := dSlice_n h
  subst hl
  obtain ⟨b, o, c, rfl, _, _, _⟩ := dSlice_at h (show i.toNat < l.length by omega)
  refine WL_val rfl rfl hn (v := .pointer (some ⟨b, o + i.toNat * sz, none⟩)) (fun w1 hs => ?_) K
  simp only [execOp, hx, hy, Sem.run_bind, run_indexAddr hT hE h0 h1]
  rfl
theorem Z_field {fi : Nat} {fs : Array Field} {fd : Field} {mm : Nat} (hT : ∀ w, (underlying T).run P w = .ok (.struct fs) w) (hf : fs[fi]? = some fd) (hz : ∀ w, (sizeOf fd.type).run P w = .ok (mm + 1) w) (hx : ev f x = .pointer (some (eA A q))) (hn : Nat.blt d n = true)
    (K : WL P m n ops Q rest (upd f d (.pointer (some (eA A (q + fd.offset))))) w) : WL P m n ops Q (⟨some d, .fieldAddr T x fi, ty, pos, after, none⟩ :: rest) f w :=
  WL_val rfl rfl hn (v := .pointer (some (eA A (q + fd.offset)))) (fun w1 hs => by
    simp [execOp, hx, Instr.fieldAt, Instr.sureAddr, fieldPlace, hT, hf, hz, go_sem, eA_add]) K
theorem Z_load {a : Addr} (hA : ∀ w, (isAgg T).run P w = .ok false w) (hx : ev f x = .pointer (some a)) (hc : CellsA w a [v]) (hn : Nat.blt d n = true) (K : WL P m n ops Q rest (upd f d v) w) :
    WL P m n ops Q (⟨some d, .load T x, ty, pos, after, none⟩ :: rest) f w := by
  obtain ⟨b, o, s⟩ := a
  obtain ⟨h1, h2⟩ := hc
  simp only at h1 h2; subst h1
  exact S_load1 hA hx h2 hn K
theorem Z_loadAgg {a : Addr} {mm : Nat} {cs : List Value} (hA : ∀ w, (isAgg T).run P w = .ok true w) (hz : ∀ w, (sizeOf T).run P w = .ok mm w) (hl : cs.length = mm) (hx : ev f x = .pointer (some a)) (hc : CellsA w a cs) (hn : Nat.blt d n = true)
    (K : WL P m n ops Q rest (upd f d (.agg cs.toArray)) w) : WL P m n ops Q (⟨some d, .load T x, ty, pos, after, none⟩ :: rest) f w := by
  obtain ⟨b, o, s⟩ := a
  obtain ⟨h1, h2⟩ := hc
  simp only at h1 h2; subst h1
  exact S_loadAgg hA hz hl hx h2 hn K

/-! ### Boxes -/
theorem Z_alloc (hs : Sep B0 w0 Z w L) (hz : ∀ w, (zeroValue T).run P w = .ok zv w) (hn : Nat.blt d n = true) (K : ∀ b w', Sep B0 w0 Z w' (iOwn b T zv.cells.toList [] :: L) → WL P false n ops Q rest (upd f d (.pointer (some ⟨b, 0, none⟩))) w') :
    WL P false n ops Q (⟨some d, .alloc T, ty, pos, after, none⟩ :: rest) f w :=
  S_alloc hz hn fun b w' e h1 h2 ho => K b w' (hs.add e ho sOwn (fun x hx => by simp at hx; subst hx; omega) rfl)
theorem Z_box (hs : Sep B0 w0 Z w L) (hn : Nat.blt d n = true) (K : ∀ b w', Sep B0 w0 Z w' (iOwn b T (ev f x).cells.toList [] :: L) → WL P false n ops Q rest (upd f d (.pointer (some ⟨b, 0, none⟩))) w') :
    WL P false n ops Q (⟨some d, .box T x, ty, pos, after, none⟩ :: rest) f w :=
  S_box hn fun b w' e h1 h2 ho => K b w' (hs.add e ho sOwn (fun x hx => by simp at hx; subst hx; omega) rfl)
theorem Z_store {o mm : Nat} {cs c : List Value} (hs : Sep B0 w0 Z w L) (j : Nat) (hj : L[j]? = some (iOwn b E cs O)) (hz : ∀ w, (sizeOf T).run P w = .ok mm w) (hx : ev f x = .pointer (some ⟨b, o, none⟩)) (hc : (ev f y).cells.toList = c) (hm : c.length = mm) (hl : o + mm ≤ cs.length) (hp : c.all plain1 = true)
    (K : ∀ w', Sep B0 w0 Z w' (L.set j (iOwn b E (splice cs o c) O)) → WL P false n ops Q rest f w') :
    WL P false n ops Q (⟨none, .store T x y, ty, pos, after, none⟩ :: rest) f w :=
  S_store hz hx hc hm (hs.at j hj) hl hp fun w' e h1 ho => K w' (hs.upd j hj e ho sOwn (fun x hx => ⟨.inl hx, by have := hs.lt j hj x hx; have := e.size; omega⟩) rfl)

/-! ### Slices of the call's own -/
theorem Z_append {xs al : List α} {info : TypeInfo} (hs : Sep B0 w0 Z w L) (j : Nat) (hj : L[j]? = some (iAc r (ev f x) al bs O)) (hx : Src r Z w (ev f y) xs)
    (hT : ∀ w, (underlying T).run P w = .ok (.slice E) w) (hI : ∀ w, (typeInfo E).run P w = .ok info w) (hE : ∀ w, (sizeOf E).run P w = .ok r.sz w) (hz : ∀ w, (zeroValue E).run P w = .ok zv w) (hzs : zv.cells.size = r.sz)
    (hb : (al.length + xs.length) * info.bytes ≤ 140737488355328) (hb1 : 1 ≤ info.bytes) (hn : Nat.blt d n = true)
    (K : ∀ A cap bs' w', Sep B0 w0 Z w' (L.set j (iAc r (.slice A (al ++ xs).length cap) (al ++ xs) bs' O)) → WL P false n ops Q rest (upd f d (.slice A (al ++ xs).length cap)) w') :
    WL P false n ops Q (⟨some d, .call ⟨.builtin .append, #[x, y], #[T, T]⟩, T, pos, after, none⟩ :: rest) f w :=
  WL_valW rfl rfl hn fun w1 hw => by
    obtain ⟨v', w2, w', hr, hs', bs', h1, h2, h3⟩ := append_run hT hI hE hz hzs (hs.at j hj) hx (hs.nz j hj) hb hb1 w1 hw
    obtain ⟨A, cap, rfl⟩ := h1.val
    refine ⟨_, w2, w', ?_, hs', K A cap bs' w' (hs.upd j hj h2 h1 sAc (fun b hb => ⟨h3 b hb, h1.lt b hb⟩) rfl)⟩
    simp only [execOp, resolve, invoke, builtin, Sem.run_bind, Sem.run_pure, Result.andThen_ok]
    have : (#[x, y] : Array Operand).map (ev f) = #[ev f x, ev f y] := by simp
    rw [this, hr]; rfl
theorem Z_buildSlice {len : Nat} {ps : Array (Nat × Operand)} {vs : List (Nat × Value)} {css : List (List Value)} {al : List α} (hs : Sep B0 w0 Z w L) (hT : ∀ w, (underlying T).run P w = .ok (.slice E) w) (hE : ∀ w, (sizeOf E).run P w = .ok sz w) (hz : ∀ w, (zeroValue E).run P w = .ok zv w)
    (hv : ps.toList.map (fun p => (p.1, ev f p.2)) = vs) (hlen : vs.length = len) (hord : inOrder 0 vs = true) (hsz : vs.all (fun p => Nat.beq p.2.cells.size sz) = true) (hcs : (vs.flatMap fun p => p.2.cells.toList) = css.flatten) (hsmall : Nat.ble (len * sz) 16777216 = true) (hal : al.length = len) (hr : AllRd r Z w css al) (hn : Nat.blt d n = true)
    (K : ∀ b w', Sep B0 w0 Z w' (iAc r (.slice (some ⟨b, 0, none⟩) len len) al [b] [] :: L) → WL P false n ops Q rest (upd f d (.slice (some ⟨b, 0, none⟩) len len)) w') :
    WL P false n ops Q (⟨some d, .buildSlice T len ps, ty, pos, after, none⟩ :: rest) f w :=
  S_buildSlice hT hE hz hv hlen hord hsz hcs hsmall hn fun b w' e h1 h2 ho => by
    have all : ∀ {cs : List (List Value)} {xs : List α}, AllRd r Z w cs xs → AllRd r Z w' cs xs := by
      intro cs
      induction cs with
      | nil => intro xs h; cases xs <;> exact h
      | cons c cs ih => intro xs h; cases xs with
        | nil => exact h
        | cons x xs => exact ⟨r.ext h.1 e, ih h.2⟩
    have ha := Ac.lit ho rfl (all hr)
    rw [hal] at ha
    exact K b w' (hs.add e ha sAc (fun x hx => by simp at hx; subst hx; omega) rfl)
theorem flat_rep {c : List Value} {k sz : Nat} (h : c.length = sz) (hp : 0 < sz) : (List.replicate k c).flatten = (List.range (k * sz)).map (fun i => c.getD (i % sz) default) := by
  apply List.ext_getElem?
  intro i
  have hsz : ∀ x ∈ List.replicate k c, x.length = sz := fun x hx => by rw [List.eq_of_mem_replicate hx]; exact h
  by_cases hi : i < k * sz
  · have e := flat_get hsz (i / sz) (i % sz) (Nat.mod_lt _ hp)
    rw [Nat.mul_comm (i / sz), Nat.div_add_mod] at e
    have hq : i / sz < k := Nat.div_lt_of_lt_mul (by rw [Nat.mul_comm]; exact hi)
    have hm : i % sz < c.length := by rw [h]; exact Nat.mod_lt _ hp
    rw [e, List.getElem?_replicate, if_pos hq, Option.bind_some, List.getElem?_map, List.getElem?_range hi]
    simp [List.getD_eq_getElem?_getD, hm]
  · rw [List.getElem?_eq_none (by rw [flat_len hsz, List.length_replicate]; omega), List.getElem?_eq_none (by simp; omega)]
theorem Z_makeSlice {a : Int} {info : TypeInfo} {zc : List Value} {zx : α} (hs : Sep B0 w0 Z w L) (hT : ∀ w, (underlying T).run P w = .ok (.slice E) w) (hI : ∀ w, (typeInfo E).run P w = .ok info w) (hE : ∀ w, (sizeOf E).run P w = .ok sz w) (hz : ∀ w, (zeroValue E).run P w = .ok zv w)
    (hzc : zv.cells = zc.toArray) (hsz : r.sz = sz) (hpos : 0 < sz) (hzr : ∀ Z w, r.rd Z w zc zx)
    (hx : ev f x = .int .i64 a) (hy : ev f y = .int .i64 a) (h0 : 0 ≤ a) (h1 : info.bytes * a ≤ 140737488355328) (h2 : a ≤ 9223372036854775807) (hn : Nat.blt d n = true)
    (K : ∀ b w', Sep B0 w0 Z w' (iAc r (.slice (some ⟨b, 0, none⟩) a.toNat a.toNat) (List.replicate a.toNat zx) [b] [] :: L) → WL P false n ops Q rest (upd f d (.slice (some ⟨b, 0, none⟩) a.toNat a.toNat)) w') :
    WL P false n ops Q (⟨some d, .makeSlice T x y, ty, pos, after, none⟩ :: rest) f w := by
  have hzl : zc.length = sz := by have := r.len (hzr Z w); omega
  refine S_new (mk := fun b => .slice (some ⟨b, 0, none⟩) a.toNat a.toNat) (e := E) (cs := (List.replicate a.toNat zc).flatten.toArray) rfl rfl hn (fun w1 => ?_) (fun b w' e h1 h2 ho => ?_)
  · have hw : IntKind.i64.wrap a = a := wrap64_id ⟨by omega, h2⟩
    have hpow : (2 : Int) ^ 48 = 281474976710656 := by decide
    have hroom : ∀ m (w : World), (askRoom m).run P w = .ok () w := fun m w => by unfold askRoom; split <;> simp [mark, Sem.run, pure]
    simp only [execOp, Instr.makeSlice, hx, hy, asInt, asIntOf, Sem.run_bind, Sem.run_pure, hT, hI, Result.andThen_ok, hw]
    rw [if_neg (by rw [hpow]; simp; omega)]
    simp only [Sem.run_bind, hroom, Result.andThen_ok, hE]
    by_cases hz0 : a.toNat = 0
    · simp only [hz0, Nat.zero_mul, if_true, Sem.run_bind, Sem.run_pure, Result.andThen_ok, newRow, newObj, Sem.run]
      have : ((Array.range 0).map fun x => (#[] : Array Value)[x % (#[] : Array Value).size]!) = (List.replicate 0 zc).flatten.toArray := by simp
      rw [this]
    · have hne : ¬ a.toNat * sz = 0 := by
        intro h; rcases Nat.mul_eq_zero.1 h with h | h <;> omega
      simp only [hne, if_false, Sem.run_bind, Sem.run_pure, hz, Result.andThen_ok, newRow, newObj, Sem.run]
      have : (Array.range (a.toNat * sz)).map (fun i => zv.cells[i % zv.cells.size]!) = (List.replicate a.toNat zc).flatten.toArray := by
        rw [hzc, flat_rep hzl hpos]
        apply Array.ext'
        simp only [Array.toList_map, Array.toList_range, List.size_toArray, hzl]
        apply List.map_congr_left
        intro i _
        simp [List.getD_eq_getElem?_getD]
      rw [this]
  · have ho' : Own w' b E (List.replicate a.toNat zc).flatten := by simpa using ho
    have ha := Ac.lit ho' rfl (AllRd.rep (hzr Z w') a.toNat)
    rw [List.length_replicate] at ha
    exact K b w' (hs.add e ha sAc (fun x hx => by simp at hx; subst hx; omega) rfl)
/-- An element, or a part of it, is stored. -/
theorem Ac.put {o : Nat} {al : List α} {c : List Value} {e : α} {w1 : World} (h : Ac r Z w (.slice A nn cap) al bs) (hi : 0 ≤ i ∧ i < nn) (hcs : ∀ c0, r.rd Z w c0 (al.getD i.toNat e) → c0.length = r.sz → o + c.length ≤ r.sz ∧ r.rd Z w (splice c0 o c) e) (hp : c.all plain1 = true) (hnz : ∀ b ∈ bs, ¬ Z b) :
    ∃ b T C, A = some ⟨b, 0, none⟩ ∧ bs = [b] ∧ Own w b T C ∧ i.toNat * r.sz + o + c.length ≤ C.length ∧ ∀ w', Ext [b] w w' → Own w' b T (splice C (i.toNat * r.sz + o) c) → Ac r Z w' (.slice A nn cap) (al.set i.toNat e) bs := by
  rcases h with ⟨h1, rfl, rfl⟩ | ⟨b, cap', C, T, hv, rfl, ho, hC, hle, hc⟩
  · simp at h1; omega
  · simp at hv
    obtain ⟨rfl, rfl, rfl⟩ := hv
    have hil : i.toNat < al.length := by omega
    obtain ⟨c0, g1, g2, g3⟩ := hc i.toNat hil
    obtain ⟨k1, k2⟩ := hcs c0 (by rw [List.getD_eq_getElem?_getD, List.getElem?_eq_getElem hil]; exact g3) g1
    have hroom : i.toNat * r.sz + o + c.length ≤ C.length := by
      have : (i.toNat + 1) * r.sz ≤ cap * r.sz := Nat.mul_le_mul_right _ (by omega)
      rw [Nat.add_mul] at this; omega
    refine ⟨b, T, C, rfl, rfl, ho, hroom, fun w' e' ho' => .inr ⟨b, cap, _, T, by simp, rfl, ho', by rw [splice_length, hC], by simpa using hle, fun j hj => ?_⟩⟩
    have hget := fun q => splice_get c C (i.toNat * r.sz + o) q hroom
    by_cases hji : j = i.toNat
    · subst hji
      refine ⟨splice c0 o c, by rw [splice_length, g1], fun q hq => ?_, ?_⟩
      · rw [hget, splice_get c c0 o q (by omega)]
        by_cases h1 : o ≤ q ∧ q < o + c.length
        · rw [if_pos (by omega), if_pos h1]; congr 1; omega
        · rw [if_neg (by omega), if_neg h1]; exact g2 q hq
      · rw [List.getElem_set_self]; exact r.mono k2 e' (fun x hx hz => absurd hz (hnz x hx)) (fun x hx _ => hx)
    · have hj' : j < al.length := by simpa using hj
      obtain ⟨c1, f1, f2, f3⟩ := hc j hj'
      refine ⟨c1, f1, fun q hq => ?_, ?_⟩
      · rw [hget, if_neg]
        · exact f2 q hq
        · rintro ⟨a1, a2⟩
          rcases Nat.lt_or_gt_of_ne hji with h | h
          · have : (j + 1) * r.sz ≤ i.toNat * r.sz := Nat.mul_le_mul_right _ h
            rw [Nat.add_mul] at this; omega
          · have : (i.toNat + 1) * r.sz ≤ j * r.sz := Nat.mul_le_mul_right _ h
            rw [Nat.add_mul] at this; omega
      · rw [List.getElem_set_ne (Ne.symm hji)]; exact r.mono f3 e' (fun x hx hz => absurd hz (hnz x hx)) (fun x hx _ => hx)
theorem Z_storeEl {o mm : Nat} {al : List α} {c : List Value} {e : α} (hs : Sep B0 w0 Z w L) (j : Nat) (hj : L[j]? = some (iAc r (.slice A nn cap) al bs O)) (hz : ∀ w, (sizeOf T).run P w = .ok mm w) (hx : ev f x = .pointer (some (eA A q))) (hsz : r.sz = sz) (hq : q = i.toNat * sz + o)
    (hc : (ev f y).cells.toList = c) (hm : c.length = mm) (h0 : 0 ≤ i) (h1 : i < nn) (hcs : ∀ c0, r.rd Z w c0 (al.getD i.toNat e) → c0.length = r.sz → o + c.length ≤ r.sz ∧ r.rd Z w (splice c0 o c) e) (hp : c.all plain1 = true)
    (K : ∀ w', Sep B0 w0 Z w' (L.set j (iAc r (.slice A nn cap) (al.set i.toNat e) bs O)) → WL P false n ops Q rest f w') :
    WL P false n ops Q (⟨none, .store T x y, ty, pos, after, none⟩ :: rest) f w := by
  subst hsz; subst hq
  obtain ⟨b, T1, C, rfl, rfl, ho, hroom, hk⟩ := Ac.put (w1 := w) (hs.at j hj) ⟨h0, h1⟩ hcs hp (hs.nz j hj)
  refine S_store hz (o := i.toNat * r.sz + o) (by rw [hx]; simp [eA]) hc hm ho (by omega) hp fun w' e' _ ho' => K w' (hs.upd j hj e' (hk w' e' ho') sAc (fun x hx => ⟨.inl hx, by have := hs.lt j hj x hx; have := e'.size; omega⟩) rfl)

/-! ### Calls -/
theorem S_call1 {X : Type} {val : X → Value} {R : X → World → Prop} {Kf : FuncId} {xs : Array Operand} {Ts : Array TypeId} {args : List Value} (hK : ∀ as w, (callFunc Kf as).run P w = .ok (.enter Kf as) w) (ha : xs.toList.map (ev f) = args)
    (hc : CallR P Kf args w (fun v w' => ∃ x, v = val x ∧ R x w')) (hn : Nat.blt d n = true) (K : ∀ x w', R x w' → WL P false n ops Q rest (upd f d (val x)) w') : WL P false n ops Q (⟨some d, .call ⟨.value (.func Kf), xs, Ts⟩, ty, pos, after, none⟩ :: rest) f w :=
  S_call hK ha hc hn (fun _ _ ⟨x, h1, h2⟩ => by rw [h1]; exact K x _ h2)
theorem S_call2 {X Y : Type} {val : X → Y → Value} {R : X → Y → World → Prop} {Kf : FuncId} {xs : Array Operand} {Ts : Array TypeId} {args : List Value} (hK : ∀ as w, (callFunc Kf as).run P w = .ok (.enter Kf as) w) (ha : xs.toList.map (ev f) = args)
    (hc : CallR P Kf args w (fun v w' => ∃ x y, v = val x y ∧ R x y w')) (hn : Nat.blt d n = true) (K : ∀ x y w', R x y w' → WL P false n ops Q rest (upd f d (val x y)) w') : WL P false n ops Q (⟨some d, .call ⟨.value (.func Kf), xs, Ts⟩, ty, pos, after, none⟩ :: rest) f w :=
  S_call hK ha hc hn (fun _ _ ⟨x, y, h1, h2⟩ => by rw [h1]; exact K x y _ h2)
theorem S_call3 {X Y U : Type} {val : X → Y → U → Value} {R : X → Y → U → World → Prop} {Kf : FuncId} {xs : Array Operand} {Ts : Array TypeId} {args : List Value} (hK : ∀ as w, (callFunc Kf as).run P w = .ok (.enter Kf as) w) (ha : xs.toList.map (ev f) = args)
    (hc : CallR P Kf args w (fun v w' => ∃ x y u, v = val x y u ∧ R x y u w')) (hn : Nat.blt d n = true) (K : ∀ x y u w', R x y u w' → WL P false n ops Q rest (upd f d (val x y u)) w') : WL P false n ops Q (⟨some d, .call ⟨.value (.func Kf), xs, Ts⟩, ty, pos, after, none⟩ :: rest) f w :=
  S_call hK ha hc hn (fun _ _ ⟨x, y, u, h1, h2⟩ => by rw [h1]; exact K x y u _ h2)
theorem S_call4 {X Y U V : Type} {val : X → Y → U → V → Value} {R : X → Y → U → V → World → Prop} {Kf : FuncId} {xs : Array Operand} {Ts : Array TypeId} {args : List Value} (hK : ∀ as w, (callFunc Kf as).run P w = .ok (.enter Kf as) w) (ha : xs.toList.map (ev f) = args)
    (hc : CallR P Kf args w (fun v w' => ∃ x y u t, v = val x y u t ∧ R x y u t w')) (hn : Nat.blt d n = true) (K : ∀ x y u t w', R x y u t w' → WL P false n ops Q rest (upd f d (val x y u t)) w') : WL P false n ops Q (⟨some d, .call ⟨.value (.func Kf), xs, Ts⟩, ty, pos, after, none⟩ :: rest) f w :=
  S_call hK ha hc hn (fun _ _ ⟨x, y, u, t, h1, h2⟩ => by rw [h1]; exact K x y u t _ h2)

/-! ### Pointers, errors -/
theorem S_nilCheck {a : Addr} (hx : ev f x = .pointer (some a)) (hn : Nat.blt d n = true) (K : WL P m n ops Q rest (upd f d (.pointer (some a))) w) : WL P m n ops Q (⟨some d, .nilCheck x, ty, pos, after, none⟩ :: rest) f w :=
  WL_val rfl rfl hn (v := .pointer (some a)) (fun _ _ => by simp [execOp, hx, go_sem]) K
theorem eqP_nil1 {e : TypeId} (hT : ∀ w, (underlying T).run P w = .ok (.pointer e) w) {a : Addr} (w : World) : (Op.equal T (.pointer (some a)) (.pointer none)).run P w = .ok false w := by
  have h : ∀ d, (Op.equalIn (d + 1) T (.pointer (some a)) (.pointer none)).run P w = .ok false w := fun d => by
    unfold Op.equalIn; rw [Sem.run_bind, hT, Result.andThen_ok]; rfl
  exact h 9999
theorem eqP_nil0 {e : TypeId} (hT : ∀ w, (underlying T).run P w = .ok (.pointer e) w) (w : World) : (Op.equal T (.pointer none) (.pointer none)).run P w = .ok true w := by
  have h : ∀ d, (Op.equalIn (d + 1) T (.pointer none) (.pointer none)).run P w = .ok true w := fun d => by
    unfold Op.equalIn; rw [Sem.run_bind, hT, Result.andThen_ok]; rfl
  exact h 9999
theorem S_eqlP {e : TypeId} {a : Addr} (hT : ∀ w, (underlying T).run P w = .ok (.pointer e) w) (hx : ev f x = .pointer (some a)) (hn : Nat.blt d n = true) (K : WL P m n ops Q rest (upd f d (.bool false)) w) :
    WL P m n ops Q (⟨some d, .binOp .eql T x (.const (.pointer none)) T', ty, pos, after, none⟩ :: rest) f w :=
  WL_val rfl rfl hn (v := .bool false) (fun w1 _ => by
    have hy : ev f (.const (.pointer none)) = Value.pointer none := rfl
    simp [execOp, hx, hy, eqGuard, binOp, go_sem, eqP_nil1 hT]) K
theorem S_eqlP0 {e : TypeId} (hT : ∀ w, (underlying T).run P w = .ok (.pointer e) w) (hx : ev f x = .pointer none) (hn : Nat.blt d n = true) (K : WL P m n ops Q rest (upd f d (.bool true)) w) :
    WL P m n ops Q (⟨some d, .binOp .eql T x (.const (.pointer none)) T', ty, pos, after, none⟩ :: rest) f w :=
  WL_val rfl rfl hn (v := .bool true) (fun w1 _ => by
    have hy : ev f (.const (.pointer none)) = Value.pointer none := rfl
    simp [execOp, hx, hy, eqGuard, binOp, go_sem, eqP_nil0 hT]) K
theorem S_neqP {e : TypeId} {a : Addr} (hT : ∀ w, (underlying T).run P w = .ok (.pointer e) w) (hx : ev f x = .pointer (some a)) (hn : Nat.blt d n = true) (K : WL P m n ops Q rest (upd f d (.bool true)) w) :
    WL P m n ops Q (⟨some d, .binOp .neq T x (.const (.pointer none)) T', ty, pos, after, none⟩ :: rest) f w :=
  WL_val rfl rfl hn (v := .bool true) (fun w1 _ => by
    have hy : ev f (.const (.pointer none)) = Value.pointer none := rfl
    simp [execOp, hx, hy, eqGuard, binOp, go_sem, eqP_nil1 hT]) K
theorem S_neqP0 {e : TypeId} (hT : ∀ w, (underlying T).run P w = .ok (.pointer e) w) (hx : ev f x = .pointer none) (hn : Nat.blt d n = true) (K : WL P m n ops Q rest (upd f d (.bool false)) w) :
    WL P m n ops Q (⟨some d, .binOp .neq T x (.const (.pointer none)) T', ty, pos, after, none⟩ :: rest) f w :=
  WL_val rfl rfl hn (v := .bool false) (fun w1 _ => by
    have hy : ev f (.const (.pointer none)) = Value.pointer none := rfl
    simp [execOp, hx, hy, eqGuard, binOp, go_sem, eqP_nil0 hT]) K
/-- A slice compared with nil. -/
theorem eqL_nil1 {e : TypeId} {a : Addr} (hT : ∀ w, (underlying T).run P w = .ok (.slice e) w) (w : World) : (Op.equal T (.slice (some a) nn cap) (.slice none 0 0)).run P w = .ok false w := by
  have h : ∀ d, (Op.equalIn (d + 1) T (.slice (some a) nn cap) (.slice none 0 0)).run P w = .ok false w := fun d => by
    unfold Op.equalIn; rw [Sem.run_bind, hT, Result.andThen_ok]; rfl
  exact h 9999
theorem eqL_nil0 {e : TypeId} (hT : ∀ w, (underlying T).run P w = .ok (.slice e) w) (w : World) : (Op.equal T (.slice none nn cap) (.slice none 0 0)).run P w = .ok true w := by
  have h : ∀ d, (Op.equalIn (d + 1) T (.slice none nn cap) (.slice none 0 0)).run P w = .ok true w := fun d => by
    unfold Op.equalIn; rw [Sem.run_bind, hT, Result.andThen_ok]; rfl
  exact h 9999
theorem S_eqlL {e : TypeId} (hT : ∀ w, (underlying T).run P w = .ok (.slice e) w) (hx : ev f x = .slice A nn cap) (hn : Nat.blt d n = true) (K : WL P m n ops Q rest (upd f d (.bool A.isNone)) w) :
    WL P m n ops Q (⟨some d, .binOp .eql T x (.const (.slice none 0 0)) T', ty, pos, after, none⟩ :: rest) f w :=
  WL_val rfl rfl hn (v := .bool A.isNone) (fun w1 _ => by
    have hy : ev f (.const (.slice none 0 0)) = Value.slice none 0 0 := rfl
    cases A with
    | none => simp [execOp, hx, hy, eqGuard, binOp, go_sem, eqL_nil0 hT]
    | some a => simp [execOp, hx, hy, eqGuard, binOp, go_sem, eqL_nil1 hT]) K
/-- An error by its number; 0: none. -/
noncomputable def errv (T : TypeId) (e : Int) : Value := @ite Value (e = 0) (Classical.propDecidable _) .nilIface (.iface T (.int .i64 e))
theorem errv_0 {T : TypeId} : Value.nilIface = errv T 0 := by rw [errv, if_pos rfl]
theorem S_neqE {ms : Array (String × TypeId)} {Te : TypeId} {e : Int} (hT : ∀ w, (underlying T).run P w = .ok (.interface ms) w) (hx : ev f x = errv Te e) (hn : Nat.blt d n = true) (K : WL P m n ops Q rest (upd f d (.bool (decide (e ≠ 0)))) w) :
    WL P m n ops Q (⟨some d, .binOp .neq T x (.const .nilIface) T', ty, pos, after, none⟩ :: rest) f w := by
  by_cases h : e = 0
  · subst h
    rw [decide_eq_false (by simp)] at K
    exact S_neqN0 hT (hx.trans errv_0.symm) hn K
  · have hx' : ev f x = .iface Te (.int .i64 e) := by rw [hx, errv, if_neg h]
    refine S_neqN hT hx' hn ?_
    rw [decide_eq_true h] at K; exact K
theorem S_eqlE {ms : Array (String × TypeId)} {Te : TypeId} {e : Int} (hT : ∀ w, (underlying T).run P w = .ok (.interface ms) w) (hx : ev f x = errv Te e) (hn : Nat.blt d n = true) (K : WL P m n ops Q rest (upd f d (.bool (decide (e = 0)))) w) :
    WL P m n ops Q (⟨some d, .binOp .eql T x (.const .nilIface) T', ty, pos, after, none⟩ :: rest) f w := by
  by_cases h : e = 0
  · subst h
    rw [decide_eq_true rfl] at K
    exact S_eqlN0 hT (hx.trans errv_0.symm) hn K
  · have hx' : ev f x = .iface Te (.int .i64 e) := by rw [hx, errv, if_neg h]
    refine S_eqlN hT hx' hn ?_
    rw [decide_eq_false h] at K; exact K
theorem errv_ne {T : TypeId} {e : Int} (h : e ≠ 0) : Value.iface T (.int .i64 e) = errv T e := by rw [errv, if_neg h]
end
end Go.Wl
