/- Strings, arrays of bytes by value, maps whose values are known. -/
import Derived.Test.YtdgcgifigkfeaaaWlE
namespace Go.Wl
open Go Go.Wk

/-! ### Maps as lists of pairs -/
def emap {κ α : Type} (enc : α → Value) (L : List (κ × α)) : List (κ × Value) := L.map fun p => (p.1, enc p.2)
theorem emap_keys {κ α : Type} {enc : α → Value} {L : List (κ × α)} : (emap enc L).map (·.1) = L.map (·.1) := by simp [emap]
section
variable {κ α : Type} [DecidableEq κ]
def aget : List (κ × α) → κ → Option α
  | [], _ => none
  | p :: r, k => if k = p.1 then some p.2 else aget r k
def aput : List (κ × α) → κ → α → List (κ × α)
  | [], k, v => [(k, v)]
  | p :: r, k, v => if k = p.1 then (k, v) :: r else p :: aput r k v
def adel (L : List (κ × α)) (k : κ) : List (κ × α) := L.filter fun p => ¬ k = p.1
theorem aget_put {L : List (κ × α)} {k j : κ} {v : α} : aget (aput L k v) j = if j = k then some v else aget L j := by
  induction L with
  | nil => by_cases h : j = k <;> simp [aput, aget, h]
  | cons p r ih =>
    simp only [aput]
    by_cases hk : k = p.1
    · rw [if_pos hk]
      by_cases hj : j = k
      · simp [aget, hj]
      · simp [aget, hj, ← hk]
    · rw [if_neg hk]
      simp only [aget, ih]
      by_cases hj : j = p.1
      · rw [if_pos hj, if_pos hj, if_neg (fun e => hk (by rw [← e]; exact hj))]
      · rw [if_neg hj, if_neg hj]
theorem aget_del {L : List (κ × α)} {k j : κ} : aget (adel L k) j = if j = k then none else aget L j := by
  induction L with
  | nil => simp [adel, aget]
  | cons p r ih =>
    unfold adel at ih ⊢
    by_cases hk : k = p.1
    · rw [List.filter_cons_of_neg (by simp [hk]), ih]
      by_cases hj : j = k
      · rw [if_pos hj, if_pos hj]
      · rw [if_neg hj, if_neg hj]; simp only [aget]; rw [if_neg (by rw [← hk]; exact hj)]
    · rw [List.filter_cons_of_pos (by simp [hk])]
      simp only [aget, ih]
      by_cases hj : j = p.1
      · rw [if_pos hj, if_pos hj, if_neg (fun e => hk (by rw [← e]; exact hj))]
      · rw [if_neg hj, if_neg hj]
theorem aget_mem {L : List (κ × α)} {k : κ} : (aget L k).isSome = true ↔ k ∈ L.map (·.1) := by
  induction L with
  | nil => simp [aget]
  | cons p r ih =>
    simp only [aget]
    by_cases hk : k = p.1
    · simp [hk]
    · rw [if_neg hk, ih]; simp [hk]
theorem aget_of_mem {L : List (κ × α)} (h : (L.map (·.1)).Nodup) {k : κ} {v : α} (hm : (k, v) ∈ L) : aget L k = some v := by
  induction L with
  | nil => cases hm
  | cons p r ih =>
    simp only [List.map_cons, List.nodup_cons] at h
    simp only [aget]
    rcases List.mem_cons.1 hm with rfl | hm
    · simp
    · rw [if_neg (fun e => h.1 (by rw [← e]; exact List.mem_map.2 ⟨(k, v), hm, rfl⟩))]
      exact ih h.2 hm
theorem aput_nodup {L : List (κ × α)} {k : κ} {v : α} (h : (L.map (·.1)).Nodup) : ((aput L k v).map (·.1)).Nodup := by
  have keys : ∀ (L : List (κ × α)) x, x ∈ (aput L k v).map (·.1) → x = k ∨ x ∈ L.map (·.1) := by
    intro L
    induction L with
    | nil => intro x hx; simp [aput] at hx; exact .inl hx
    | cons p r ih =>
      intro x hx
      simp only [aput] at hx
      by_cases hk : k = p.1
      · rw [if_pos hk] at hx; simp only [List.map_cons, List.mem_cons] at hx ⊢
        rcases hx with h | h
        · exact .inl h
        · exact .inr (.inr h)
      · rw [if_neg hk] at hx; simp only [List.map_cons, List.mem_cons] at hx ⊢
        rcases hx with h | h
        · exact .inr (.inl h)
        · rcases ih x h with h | h
          · exact .inl h
          · exact .inr (.inr h)
  induction L with
  | nil => simp [aput]
  | cons p r ih =>
    simp only [List.map_cons, List.nodup_cons] at h
    simp only [aput]
    by_cases hk : k = p.1
    · rw [if_pos hk]; simp only [List.map_cons, List.nodup_cons]; rw [hk]; exact h
    · rw [if_neg hk]; simp only [List.map_cons, List.nodup_cons]
      exact ⟨fun hm => by rcases keys r p.1 hm with e | e; exact hk e.symm; exact h.1 e, ih h.2⟩
theorem adel_nodup {L : List (κ × α)} {k : κ} (h : (L.map (·.1)).Nodup) : ((adel L k).map (·.1)).Nodup := by
  unfold adel
  exact List.Sublist.nodup (List.Sublist.map _ List.filter_sublist) h
variable {enc : α → Value} {L : List (κ × α)} {k : κ} {v : α}
theorem emap_get : getL (emap enc L) k = (aget L k).map enc := by
  induction L with
  | nil => rfl
  | cons p r ih => simp only [emap, List.map_cons, getL, aget]; split
                   · rfl
                   · exact ih
theorem emap_put : putL (emap enc L) k (enc v) = emap enc (aput L k v) := by
  induction L with
  | nil => rfl
  | cons p r ih =>
    simp only [emap, List.map_cons, putL, aput]
    by_cases h : k = p.1
    · rw [if_pos h, if_pos h]; rfl
    · rw [if_neg h, if_neg h, List.map_cons]; exact congrArg _ ih
theorem emap_del : delL (emap enc L) k = emap enc (adel L k) := by
  unfold delL emap adel
  rw [List.filter_map]; rfl
end

abbrev av (s : Str) : Value := .agg (s.map bv).toArray
section
variable {P : Program} {m : Bool} {n : Nat} {ops : List Oper} {Q : Exit → Fr → World → Prop} {rest : List Oper} {f : Fr} {w w0 : World} {d : Nat} {Z D : Nat → Prop} {B0 : List Nat} {L : List It}
variable {ty T T' T2 E Kt : TypeId} {pos : String} {after : Array Edge} {x y z : Operand} {k : IntKind} {v zv : Value} {i : Int} {p : Bool}
variable {α β κ : Type} {r : Rd α} {A : Option Addr} {nn cap q sz b it : Nat} {O bs : List Nat} {s t : Str} {c : UInt8} {ky : Key κ} {enc : α → Value} {am : List (κ × α)} {key : κ}

/-! ### Maps -/
theorem Z_makeMap (ky : Key κ) (enc : α → Value) (hs : Sep B0 w0 Z w L) (hn : Nat.blt d n = true) (K : ∀ b w', Sep B0 w0 Z w' (iMap ky b (emap enc []) [] :: L) → WL P false n ops Q rest (upd f d (.map (some b))) w') :
    WL P false n ops Q (⟨some d, .makeMap T none, ty, pos, after, none⟩ :: rest) f w :=
  S_makeMap hn fun b w' e h1 h2 hm => K b w' (hs.add e hm sMap (fun x hx => by simp at hx; subst hx; omega) rfl)
theorem Z_mapUpdate [DecidableEq κ] {vv : α} (hs : Sep B0 w0 Z w L) (j : Nat) (hj : L[j]? = some (iMap ky b (emap enc am) O)) (hT : ∀ w, (underlying T).run P w = .ok (.map Kt E) w) (hK : ∀ w, (underlying Kt).run P w = .ok ky.kind w) (hx : ev f x = .map (some b)) (hy : ev f y = ky.enc key) (hv : ev f z = enc vv)
    (K : ∀ w', Sep B0 w0 Z w' (L.set j (iMap ky b (emap enc (aput am key vv)) O)) → WL P false n ops Q rest f w') : WL P false n ops Q (⟨none, .mapUpdate T x y z, ty, pos, after, none⟩ :: rest) f w :=
  S_mapUpdate hT hK hx hy hv (hs.at j hj) fun w' e h1 hm => K w' (hs.upd j hj e (by rw [← emap_put]; exact hm) sMap (fun x hx => ⟨.inl hx, by have := hs.lt j hj x hx; have := e.size; omega⟩) rfl)
theorem Z_insert [DecidableEq κ] {vv : α} (hs : Sep B0 w0 Z w L) (j : Nat) (hj : L[j]? = some (iMap ky b (emap enc am) O)) (hT : ∀ w, (underlying T).run P w = .ok (.map Kt E) w) (hK : ∀ w, (underlying Kt).run P w = .ok ky.kind w) (hx : ev f x = .map (some b)) (hy : ev f y = ky.enc key) (hv : ev f z = enc vv)
    (K : ∀ w', Sep B0 w0 Z w' (L.set j (iMap ky b (emap enc (aput am key vv)) O)) → WL P false n ops Q rest f w') : WL P false n ops Q (⟨none, .insert T x y z, ty, pos, after, none⟩ :: rest) f w :=
  S_insert hT hK hx hy hv (hs.at j hj) fun w' e h1 hm => K w' (hs.upd j hj e (by rw [← emap_put]; exact hm) sMap (fun x hx => ⟨.inl hx, by have := hs.lt j hj x hx; have := e.size; omega⟩) rfl)
theorem Z_delete [DecidableEq κ] (hs : Sep B0 w0 Z w L) (j : Nat) (hj : L[j]? = some (iMap ky b (emap enc am) O)) (hT : ∀ w, (underlying T).run P w = .ok (.map Kt E) w) (hK : ∀ w, (underlying Kt).run P w = .ok ky.kind w) (hx : ev f x = .map (some b)) (hy : ev f y = ky.enc key)
    (K : ∀ w', Sep B0 w0 Z w' (L.set j (iMap ky b (emap enc (adel am key)) O)) → WL P false n ops Q rest f w') : WL P false n ops Q (⟨none, .call ⟨.builtin .delete, #[x, y], #[T, Kt]⟩, ty, pos, after, none⟩ :: rest) f w :=
  S_delete hT hK hx hy (hs.at j hj) fun w' e h1 hm => K w' (hs.upd j hj e (by rw [← emap_del]; exact hm) sMap (fun x hx => ⟨.inl hx, by have := hs.lt j hj x hx; have := e.size; omega⟩) rfl)
theorem Z_lookup [DecidableEq κ] {z0 : α} (h : MapAt ky w b (emap enc am)) (hT : ∀ w, (underlying T).run P w = .ok (.map Kt E) w) (hK : ∀ w, (underlying Kt).run P w = .ok ky.kind w) (hz : ∀ w, (zeroValue E).run P w = .ok zv w) (hz0 : zv = enc z0) (hx : ev f x = .map (some b)) (hy : ev f y = ky.enc key)
    (hn : Nat.blt d n = true) (K : WL P m n ops Q rest (upd f d (enc ((aget am key).getD z0))) w) : WL P m n ops Q (⟨some d, .lookup T x y false, ty, pos, after, none⟩ :: rest) f w :=
  S_lookup hT hK hz hx hy h (by rw [emap_get, hz0]; cases aget am key <;> rfl) hn K
theorem Z_lookupOk [DecidableEq κ] {z0 : α} (h : MapAt ky w b (emap enc am)) (hT : ∀ w, (underlying T).run P w = .ok (.map Kt E) w) (hK : ∀ w, (underlying Kt).run P w = .ok ky.kind w) (hz : ∀ w, (zeroValue E).run P w = .ok zv w) (hz0 : zv = enc z0) (hx : ev f x = .map (some b)) (hy : ev f y = ky.enc key)
    (hn : Nat.blt d n = true) (K : WL P m n ops Q rest (upd f d (.tuple #[enc ((aget am key).getD z0), .bool (aget am key).isSome])) w) : WL P m n ops Q (⟨some d, .lookup T x y true, ty, pos, after, none⟩ :: rest) f w :=
  S_lookupOk hT hK hz hx hy h (by rw [emap_get, hz0]; cases aget am key <;> rfl) (by rw [emap_get]; cases aget am key <;> rfl) hn K
/-- Ranging: the part of the map becomes one of map and iterator. -/
theorem Z_range (hs : Sep B0 w0 Z w L) (j : Nat) (hj : L[j]? = some (iMap ky b (emap enc am) O)) (hT : ∀ w, (underlying T).run P w = .ok (.map Kt E) w) (hx : ev f x = .map (some b)) (hn : Nat.blt d n = true)
    (K : ∀ it w', Sep B0 w0 Z w' (L.set j (iIter ky it b (emap enc am) (emap enc []) O)) → WL P false n ops Q rest (upd f d (.pointer (some ⟨it, 0, none⟩))) w') :
    WL P false n ops Q (⟨some d, .range T x, ty, pos, after, none⟩ :: rest) f w :=
  S_range hT hx (hs.at j hj) hn fun it w' e h1 h2 hi => K it w' (hs.upd j hj (e.mono (fun x hx => by cases hx)) hi sIter (fun x hx => by
    have hb : b < w.heap.size := hs.lt j hj b (by simp)
    simp only [List.mem_cons, List.not_mem_nil, or_false] at hx ⊢
    rcases hx with rfl | rfl
    · exact ⟨.inr (by omega), by omega⟩
    · exact ⟨.inl rfl, by omega⟩) rfl)
theorem Z_next [DecidableEq κ] {dm : List (κ × α)} {N : TypeId} (hs : Sep B0 w0 Z w L) (j : Nat) (hj : L[j]? = some (iIter ky it b (emap enc am) (emap enc dm) O)) (hx : ev f x = .pointer (some ⟨it, 0, none⟩)) (hn : Nat.blt d n = true)
    (K1 : ∀ k v w', (k, v) ∈ am → k ∉ dm.map (·.1) → Sep B0 w0 Z w' (L.set j (iIter ky it b (emap enc am) (emap enc (dm ++ [(k, v)])) O)) → WL P false n ops Q rest (upd f d (.tuple #[.bool true, ky.enc k, enc v])) w')
    (K2 : (∀ k, k ∈ am.map (·.1) → k ∈ dm.map (·.1)) → WL P false n ops Q rest (upd f d (.tuple #[.bool false])) w) :
    WL P false n ops Q (⟨some d, .next x false, N, pos, after, none⟩ :: rest) f w := by
  refine S_next hx (hs.at j hj) hn ?_ ?_
  · intro k v w' hm _ hk e h1 hi
    obtain ⟨⟨k', v'⟩, hm', e'⟩ := List.mem_map.1 hm
    simp only [Prod.mk.injEq] at e'
    obtain ⟨rfl, rfl⟩ := e'
    rw [emap_keys] at hk
    refine K1 k' v' w' hm' hk (hs.upd j hj (e.mono (fun x hx => .inl (by simp at hx ⊢; exact .inl hx))) (by simpa [emap] using hi) sIter (fun x hx => ⟨.inl hx, by have := hs.lt j hj x hx; have := e.size; omega⟩) rfl)
  · intro h
    refine K2 fun k hk => ?_
    obtain ⟨⟨k', v'⟩, hm, rfl⟩ := List.mem_map.1 hk
    have := h (k', enc v') (List.mem_map.2 ⟨(k', v'), hm, rfl⟩)
    obtain ⟨⟨k2, v2⟩, h2, e⟩ := List.mem_map.1 this
    simp only [Prod.mk.injEq] at e
    exact List.mem_map.2 ⟨(k2, v2), h2, e.1⟩
theorem Z_entry {dm : List (κ × α)} {kk : κ} {vv : α} (h : Iter ky w it b (emap enc am) (emap enc (dm ++ [(kk, vv)]))) (hx : ev f x = .pointer (some ⟨it, 0, none⟩)) (hn : Nat.blt d n = true)
    (K : WL P m n ops Q rest (upd f d (.tuple #[ky.enc kk, enc vv])) w) : WL P m n ops Q (⟨some d, .entry x, ty, pos, after, none⟩ :: rest) f w :=
  S_entry hx (D := emap enc dm) (by simpa [emap] using h) hn K
/-- The ranging is over. -/
theorem Sep.unIter (hs : Sep B0 w0 Z w L) (j : Nat) {dm : List (κ × α)} (hj : L[j]? = some (iIter ky it b (emap enc am) (emap enc dm) O)) : Sep B0 w0 Z w (L.set j (iMap ky b (emap enc am) O)) :=
  hs.upd j hj (Ext.refl _ _) (Iter.map (hs.at j hj)) sMap (fun x hx => ⟨.inl (by simp at hx ⊢; exact .inr hx), hs.lt j hj x (by simp at hx ⊢; exact .inr hx)⟩) rfl
theorem MapAt.keys {dm : List (κ × α)} (h : MapAt ky w b (emap enc dm)) : (dm.map (·.1)).Nodup := by have := MapAt.nodup h; rwa [emap_keys] at this

/-! ### Strings -/
theorem S_lenT (hT : ∀ w, (underlying T).run P w = .ok .string w) (hx : ev f x = sv s) (hn : Nat.blt d n = true) (K : WL P m n ops Q rest (upd f d (.int .i64 s.length)) w) :
    WL P m n ops Q (⟨some d, .call ⟨.builtin .len, #[x], #[T]⟩, ty, pos, after, none⟩ :: rest) f w :=
  S_lenS hT hx hn (by rw [sv_size]; exact K)
theorem S_indexT (hT : ∀ w, (underlying T).run P w = .ok .string w) (hx : ev f x = sv s) (hy : ev f y = .int k i) (h0 : 0 ≤ i) (h1 : i < s.length) (hn : Nat.blt d n = true) (K : WL P m n ops Q rest (upd f d (bv (ix s i))) w) :
    WL P m n ops Q (⟨some d, .index T x y, ty, pos, after, none⟩ :: rest) f w :=
  WL_val rfl rfl hn (v := bv (ix s i)) (fun _ _ => by
    have hi : i.toNat < s.length := by omega
    have e : (⟨s.toArray⟩ : ByteArray)[i.toNat]? = some (ix s i) := by
      rw [ix_get hi]
      have h' : i.toNat < (⟨s.toArray⟩ : ByteArray).size := by rw [sv_size]; exact hi
      rw [getElem?_pos (⟨s.toArray⟩ : ByteArray) i.toNat h']
      rfl
    simp [execOp, hx, hy, sv, Instr.index, asIntOf, hT, go_sem, h0, e, bv]) K
theorem ba_extract {s : Str} {a b : Nat} (h : a ≤ b) (h2 : b ≤ s.length) : (⟨s.toArray⟩ : ByteArray).extract a b = ⟨((s.take b).drop a).toArray⟩ := by
  apply ByteArray.ext
  apply Array.ext'
  simp [ByteArray.data_extract, List.drop_take]
theorem S_sliceT {lo hi : Option Operand} {a e : Int} (hT : ∀ w, (underlying T).run P w = .ok .string w) (hx : ev f x = sv s) (hlo : match lo with | some o => ev f o = .int .i64 a | none => a = 0) (hhi : match hi with | some o => ev f o = .int .i64 e | none => e = s.length) (h0 : 0 ≤ a ∧ a ≤ e ∧ e ≤ s.length) (hn : Nat.blt d n = true)
    (K : WL P m n ops Q rest (upd f d (sv ((s.take e.toNat).drop a.toNat))) w) : WL P m n ops Q (⟨some d, .slice T x lo hi none, ty, pos, after, none⟩ :: rest) f w :=
  WL_val rfl rfl hn (v := sv ((s.take e.toNat).drop a.toNat)) (fun _ _ => by
    have hx' := ba_extract (s := s) (a := a.toNat) (b := e.toNat) (by omega) (by omega)
    have hz := sv_size s
    cases lo with
    | none =>
      simp only at hlo; subst hlo
      cases hi with
      | none =>
        simp only at hhi; subst hhi
        simp only [sv] at hx ⊢
        simp [execOp, hx, Instr.sliceAt, Instr.slice, Instr.sliceBounds, hT, go_sem] at hx' ⊢
        try exact hx'
      | some o2 =>
        simp only at hhi
        simp only [sv] at hx ⊢
        simp [execOp, hx, hhi, Instr.sliceAt, Instr.slice, Instr.sliceBounds, Instr.sliceBound, asIntOf, hT, go_sem, h0] at hx' ⊢
        try exact hx'
    | some o1 =>
      simp only at hlo
      cases hi with
      | none =>
        simp only at hhi; subst hhi
        simp only [sv] at hx ⊢
        simp [execOp, hx, hlo, Instr.sliceAt, Instr.slice, Instr.sliceBounds, Instr.sliceBound, asIntOf, hT, go_sem, h0] at hx' ⊢
        try exact hx'
      | some o2 =>
        simp only at hhi
        simp only [sv] at hx ⊢
        simp [execOp, hx, hlo, hhi, Instr.sliceAt, Instr.slice, Instr.sliceBounds, Instr.sliceBound, asIntOf, hT, go_sem, h0, show e ≤ (s.length : Int) from h0.2.2, show 0 ≤ e by omega, Int.toNat_of_nonneg (show 0 ≤ e by omega)] at hx' ⊢
        try exact hx') K
end
end Go.Wl
