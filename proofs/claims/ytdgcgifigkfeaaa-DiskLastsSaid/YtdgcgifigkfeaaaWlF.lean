/- Arrays of bytes by value; bytes and strings converted. -/
import Derived.Test.YtdgcgifigkfeaaaWlD
namespace Go.Wl
open Go Go.Wk

/-- A variable that holds an array of bytes. -/
abbrev iAr (b : Nat) (T : TypeId) (s : Str) (O : List Nat) : It := ⟨[b], O, fun _ w => Own w b T (s.map bv)⟩
theorem sAr {b : Nat} {T : TypeId} {s : Str} {O : List Nat} : (iAr b T s O).Stab := fun Z Z' B w w' h e hB _ => h.ext e (fun hm => by have := hB b hm (.inl (by simp)); have := Own.lt h; omega)
theorem bv_plain (s : Str) : (s.map bv).all plain1 = true := by simp [bv, plain1]
theorem av_cells (s : Str) : (av s).cells.toList = s.map bv := by simp [Value.cells]
theorem dArr_splice {n : Nat} {Z : Nat → Prop} {w : World} {s : Str} (hs : s.length = n) (c0 : List Value) (h : c0.length = n) : 0 + (s.map bv).length ≤ n ∧ (dArr n).rd Z w (splice c0 0 (s.map bv)) s := by
  refine ⟨by simp [hs], ?_⟩
  rw [splice_full (by simp [hs, h])]
  exact ⟨rfl, hs⟩
theorem Ac.ofAr {Z : Nat → Prop} {w : World} {b : Nat} {T : TypeId} {s : Str} (h : Own w b T (s.map bv)) : Ac dByte Z w (.slice (some ⟨b, 0, none⟩) s.length s.length) s [b] :=
  .inr ⟨b, s.length, _, T, rfl, rfl, h, by simp [dByte], Nat.le_refl _, fun i hi => ⟨[bv s[i]], rfl, fun j hj => by
    have : j = 0 := by simp [dByte] at hj; omega
    subst this
    simp [dByte, hi], rfl⟩⟩
theorem Sep.arAc {B0 : List Nat} {w0 w : World} {Z : Nat → Prop} {L : List It} {b nn : Nat} {T : TypeId} {s : Str} {O : List Nat} (hs : Sep B0 w0 Z w L) (j : Nat) (hj : L[j]? = some (iAr b T s O)) (hn : s.length = nn) : Sep B0 w0 Z w (L.set j (iAc dByte (.slice (some ⟨b, 0, none⟩) nn nn) s [b] O)) := by
  subst hn
  exact hs.upd j hj (Ext.refl _ _) (Ac.ofAr (hs.at j hj)) sAc (fun x hx => ⟨.inl hx, hs.lt j hj x hx⟩) rfl
theorem Ac.n {α : Type} {r : Rd α} {Z : Nat → Prop} {w : World} {A : Option Addr} {nn cap : Nat} {l : List α} {bs : List Nat} (h : Ac r Z w (.slice A nn cap) l bs) : l.length = nn := by
  obtain ⟨A', cap', e⟩ := h.val
  simp at e; exact e.2.1.symm
theorem bytes_run {P : Program} (s : Str) : ∀ (acc : ByteArray) (w : World), (forIn (m := Sem) (s.map bv) acc (fun (c : Value) (t : ByteArray) => match c with | .int .u8 n => pure (ForInStep.yield (t.push (UInt8.ofNat n.toNat))) | _ => do stuck "bytesToString: byte expected"; pure (ForInStep.yield t))).run P w = .ok (acc ++ ⟨s.toArray⟩) w := by
  induction s with
  | nil =>
    intro acc w
    have : acc ++ (⟨#[]⟩ : ByteArray) = acc := by apply ByteArray.ext; simp
    simp [go_sem, this]
  | cons c r ih =>
    intro acc w
    simp only [List.map_cons, List.forIn_cons, Sem.run_bind]
    have e : UInt8.ofNat ((c.toNat : Int).toNat) = c := by simp
    have h1 : ((match bv c with | .int .u8 n => pure (ForInStep.yield (acc.push (UInt8.ofNat n.toNat))) | _ => do stuck "bytesToString: byte expected"; pure (ForInStep.yield acc) : Sem (ForInStep ByteArray))).run P w = .ok (.yield (acc.push c)) w := by
      simp only [bv, e]; rfl
    rw [h1, Result.andThen_ok]
    refine (ih (acc.push c) w).trans ?_
    congr 1
    apply ByteArray.ext
    simp
section
variable {P : Program} {m : Bool} {n : Nat} {ops : List Oper} {Q : Exit → Fr → World → Prop} {rest : List Oper} {f : Fr} {w w0 : World} {d : Nat} {Z D : Nat → Prop} {B0 : List Nat} {L : List It}
variable {ty T T' T2 E S : TypeId} {pos : String} {after : Array Edge} {x y z : Operand} {k : IntKind} {v zv : Value} {i : Int} {p : Bool}
variable {A : Option Addr} {nn cap q sz b : Nat} {O bs : List Nat} {s t : Str} {c : UInt8}
theorem Z_allocAr (hs : Sep B0 w0 Z w L) (hz : ∀ w, (zeroValue T).run P w = .ok zv w) (hz0 : zv = av s) (hn : Nat.blt d n = true) (K : ∀ b w', Sep B0 w0 Z w' (iAr b T s [] :: L) → WL P false n ops Q rest (upd f d (.pointer (some ⟨b, 0, none⟩))) w') :
    WL P false n ops Q (⟨some d, .alloc T, ty, pos, after, none⟩ :: rest) f w :=
  S_alloc hz hn fun b w' e h1 h2 ho => K b w' (hs.add e (by subst hz0; rw [av_cells] at ho; exact ho) sAr (fun x hx => by simp at hx; subst hx; omega) rfl)
theorem Z_storeAr (hs : Sep B0 w0 Z w L) (j : Nat) (hj : L[j]? = some (iAr b E s O)) (hz : ∀ w, (sizeOf T).run P w = .ok nn w) (hx : ev f x = .pointer (some ⟨b, 0, none⟩)) (hy : ev f y = av t) (h1 : s.length = nn) (h2 : t.length = nn)
    (K : ∀ w', Sep B0 w0 Z w' (L.set j (iAr b E t O)) → WL P false n ops Q rest f w') :
    WL P false n ops Q (⟨none, .store T x y, ty, pos, after, none⟩ :: rest) f w :=
  S_store hz hx (by rw [hy, av_cells]) (by simp [h2]) (hs.at j hj) (by simp [h1]) (bv_plain t) fun w' e _ ho => K w' (hs.upd j hj e (by rw [splice_full (by simp [h1, h2])] at ho; exact ho) sAr (fun x hx => ⟨.inl hx, by have := hs.lt j hj x hx; have := e.size; omega⟩) rfl)
theorem S_loadAr (hA : ∀ w, (isAgg T).run P w = .ok true w) (hz : ∀ w, (sizeOf T).run P w = .ok nn w) (ho : Own w b E (s.map bv)) (hl : s.length = nn) (hx : ev f x = .pointer (some ⟨b, 0, none⟩)) (hn : Nat.blt d n = true) (K : WL P m n ops Q rest (upd f d (av s)) w) :
    WL P m n ops Q (⟨some d, .load T x, ty, pos, after, none⟩ :: rest) f w :=
  S_loadAgg hA hz (by simp [hl]) hx ho.all hn K
/-- The first bytes of a slice as an array. -/
theorem S_arrPtr (hT : ∀ w, (underlying T).run P w = .ok (.array nn E) w) (hx : ev f x = .slice A q cap) (hl : nn ≤ q) (hn : Nat.blt d n = true) (K : WL P m n ops Q rest (upd f d (.pointer A)) w) :
    WL P m n ops Q (⟨some d, .sliceToArrayPointer T x, ty, pos, after, none⟩ :: rest) f w :=
  WL_val rfl rfl hn (v := .pointer A) (fun _ _ => by simp [execOp, hx, Instr.arrayAt, hT, go_sem, Nat.not_lt.2 hl]) K
theorem S_loadArr (hA : ∀ w, (isAgg T).run P w = .ok true w) (hz : ∀ w, (sizeOf T).run P w = .ok nn w) (h : (dSlice dByte).rd D w [.slice A q cap] s) (hl : nn ≤ q) (hp : 0 < nn) (hx : ev f x = .pointer A) (hn : Nat.blt d n = true) (K : WL P m n ops Q rest (upd f d (av (s.take nn))) w) :
    WL P m n ops Q (⟨some d, .load T x, ty, pos, after, none⟩ :: rest) f w := by
  have hq := dSlice_n h
  subst hq
  obtain ⟨b, o, c0, rfl, _, ⟨C, T1, z, hh, _⟩, _⟩ := dSlice_at h (show 0 < s.length by omega)
  refine Z_loadAgg hA hz (cs := (s.take nn).map bv) (by simp; omega) hx ⟨rfl, C, T1, z, hh, fun j hj => ?_⟩ hn K
  simp only [List.length_map, List.length_take] at hj
  obtain ⟨b', o', c, hA', _, ⟨C', T', z', hh', hc'⟩, hr⟩ := dSlice_at h (show j < s.length by omega)
  simp only [Option.some.injEq, Addr.mk.injEq] at hA'
  obtain ⟨rfl, rfl, _⟩ := hA'
  rw [hh] at hh'; cases hh'
  have hr' : c = [bv s[j]] := hr
  subst hr'
  have := hc' 0 (by simp)
  simp only [dByte, Nat.mul_one, Nat.add_zero, List.getElem?_cons_zero] at this
  show C[o + j]? = _
  rw [this, List.getElem?_map, List.getElem?_take, if_pos (by omega), List.getElem?_eq_getElem (by omega)]; rfl
/-- All of an array's variable as a slice, or its first bytes. -/
theorem S_sliceAr {hi : Option Operand} {e : Int} (hT : ∀ w, (underlying T).run P w = .ok (.array nn E) w) (hE : ∀ w, (sizeOf E).run P w = .ok 1 w) (hx : ev f x = .pointer (some (eA A q))) (hhi : match hi with | some o => ev f o = .int .i64 e | none => e = nn) (h0 : 0 ≤ e ∧ e ≤ nn) (hn : Nat.blt d n = true)
    (K : WL P m n ops Q rest (upd f d (.slice (some (eA A q)) e.toNat nn)) w) : WL P m n ops Q (⟨some d, .slice T x none hi none, ty, pos, after, none⟩ :: rest) f w :=
  WL_val rfl rfl hn (v := .slice (some (eA A q)) e.toNat nn) (fun _ _ => by
    have e0 : (eA A q).add 0 = eA A q := by rw [eA_add, Nat.add_zero]
    cases hi with
    | none =>
      simp only at hhi; subst hhi
      simp [execOp, hx, Instr.sliceAt, Instr.sureAddr, Instr.sliceBounds, hT, hE, go_sem, e0]
    | some o =>
      simp only at hhi
      simp [execOp, hx, hhi, Instr.sliceAt, Instr.sureAddr, Instr.sliceBounds, Instr.sliceBound, asIntOf, hT, hE, go_sem, h0, e0]) K
theorem S_sliceAr0 {hi : Option Operand} {e : Int} (hT : ∀ w, (underlying T).run P w = .ok (.array nn E) w) (hE : ∀ w, (sizeOf E).run P w = .ok 1 w) (hx : ev f x = .pointer (some ⟨b, 0, none⟩)) (hhi : match hi with | some o => ev f o = .int .i64 e | none => e = nn) (h0 : 0 ≤ e ∧ e ≤ nn) (hn : Nat.blt d n = true)
    (K : WL P m n ops Q rest (upd f d (.slice (some ⟨b, 0, none⟩) e.toNat nn)) w) : WL P m n ops Q (⟨some d, .slice T x none hi none, ty, pos, after, none⟩ :: rest) f w :=
  S_sliceAr (A := some ⟨b, 0, none⟩) (q := 0) hT hE hx hhi h0 hn K
theorem eA_own {A : Option Addr} {b : Nat} (h : A = some ⟨b, 0, none⟩) (q : Nat) : eA A q = ⟨b, q, none⟩ := by subst h; simp [eA]
/-- copy into the first bytes of a row, out of an array's variable. -/
theorem Z_copyRow {al : List Str} {T3 : TypeId} {e : Int} (hs : Sep B0 w0 Z w L) (j : Nat) (hj : L[j]? = some (iAc (dArr sz) (.slice A nn cap) al bs O)) (ho : Own w b S (s.map bv)) (hT : ∀ w, (underlying T).run P w = .ok (.slice E) w) (hE : ∀ w, (sizeOf E).run P w = .ok 1 w)
    (hx : ev f x = .slice (some (eA A q)) sz sz) (hq : q = i.toNat * sz) (hy : ev f y = .slice (some ⟨b, 0, none⟩) e.toNat sz) (h0 : 0 ≤ i) (h1 : i < nn) (hsl : s.length = sz) (he : 0 ≤ e ∧ e ≤ sz) (hn : Nat.blt d n = true)
    (K : ∀ w', Sep B0 w0 Z w' (L.set j (iAc (dArr sz) (.slice A nn cap) (al.set i.toNat (s.take e.toNat ++ (ix al i).drop e.toNat)) bs O)) → WL P false n ops Q rest (upd f d (.int .i64 e)) w') :
    WL P false n ops Q (⟨some d, .call ⟨.builtin .copy, #[x, y], #[T, T2]⟩, T3, pos, after, none⟩ :: rest) f w := by
  subst hq
  have hnl := Ac.n (hs.at j hj)
  have hlen : e.toNat ≤ s.length := by omega
  obtain ⟨b', T1, C, rfl, rfl, hown, hroom, hk⟩ := Ac.put (w1 := w) (o := 0) (c := (s.take e.toNat).map bv) (e := s.take e.toNat ++ (ix al i).drop e.toNat) (hs.at j hj) ⟨h0, h1⟩ (fun c0 hr hc0 => by
    have hget : ∀ dd, al.getD i.toNat dd = ix al i := fun dd => by rw [ix_get (by omega), List.getD_eq_getElem?_getD, List.getElem?_eq_getElem (by omega)]; rfl
    rw [hget] at hr
    obtain ⟨rfl, hl0⟩ := hr
    refine ⟨by simp [dArr]; omega, ?_, by simp [hl0]; omega⟩
    have hsp := splice_append ((s.take e.toNat).map bv) [] (((ix al i).take e.toNat).map bv) (((ix al i).drop e.toNat).map bv) (by simp; omega)
    rw [List.nil_append, ← List.map_append, List.take_append_drop] at hsp
    simp only [List.length_nil, List.nil_append] at hsp
    rw [hsp, List.map_append]) (bv_plain _) (hs.nz j hj)
  refine WL_valW rfl rfl hn fun w1 hw => ?_
  obtain ⟨kk, rfl⟩ := hw
  obtain ⟨w', hr, ho', he', hsz', hk'⟩ := storeCells_run (P := P) ((s.take e.toNat).map bv) (i.toNat * sz) 0 C w hown (by have := hroom; simp only [dArr] at this; omega) (by have := bv_plain (s.take e.toNat); rwa [List.all_eq_true] at this)
  refine ⟨.int .i64 e, { w' with drawn := kk }, w', ?_, ⟨kk, rfl⟩, K w' (hs.upd j hj he' (hk w' he' (by simpa [dArr] using ho')) sAc (fun x hx => ⟨.inl hx, by have := hs.lt j hj x hx; have := he'.size; omega⟩) rfl)⟩
  have hcells : Cells { w with drawn := kk } b 0 ((s.take e.toNat).map bv) := (ho.cells 0 _ ((s.drop e.toNat).map bv) (by rw [List.drop_zero, ← List.map_append, List.take_append_drop])).sim ⟨kk, rfl⟩
  have hload := loadCells_run (P := P) hcells
  have hl2 : ((s.take e.toNat).map bv).length = e.toNat := by simp; omega
  rw [hl2] at hload
  have : (#[x, y] : Array Operand).map (ev f) = #[ev f x, ev f y] := by simp
  simp only [execOp, resolve, invoke, builtin, Sem.run_bind, Sem.run_pure, Result.andThen_ok, this, hx, hy, Builtin.copy_, List.getElem?_toArray, List.getElem?_cons_zero, List.getElem?_cons_succ, hT, Builtin.lenOf, hE]
  have hmin : Nat.min e.toNat sz = e.toNat := by show min _ _ = _; omega
  simp only [hmin, Builtin.firstCells, Nat.mul_one, hload, Result.andThen_ok, List.toList_toArray]
  have ha : eA (some ⟨b', 0, none⟩) (i.toNat * sz) = ⟨b', i.toNat * sz, none⟩ := by simp [eA]
  rw [ha, hk' kk]
  simp [go_sem, goInt, Int.toNat_of_nonneg he.1]
/-- Bytes to a string. -/
theorem S_bytesStr {U : TypeId} (hS : ∀ w, (underlying S).run P w = .ok (.slice E) w) (hT : ∀ w, (underlying T).run P w = .ok .string w) (hE : ∀ w, (underlying E).run P w = .ok (.int .u8) w) (h : Src dByte Z w (ev f x) s) (hn : Nat.blt d n = true) (K : WL P m n ops Q rest (upd f d (sv s)) w) :
    WL P m n ops Q (⟨some d, .convert S T x, U, pos, after, none⟩ :: rest) f w :=
  WL_val rfl rfl hn (v := sv s) (fun w1 hs => by
    obtain ⟨A, cap, hv, cs, hcl, hcr, hrow⟩ := h
    have hflat : cs.flatten = s.map bv := by
      apply List.ext_getElem?
      intro j
      have hsz : ∀ c ∈ cs, c.length = 1 := fun c hc => by
        obtain ⟨i, hi, rfl⟩ := List.getElem_of_mem hc
        exact dByte.len (hcr i (by omega) hi)
      have e := flat_get hsz j 0 (by omega)
      simp only [Nat.mul_one, Nat.add_zero] at e
      rw [e, List.getElem?_map]
      by_cases hj : j < s.length
      · have hr : cs[j]'(by omega) = [bv s[j]] := hcr j hj (by omega)
        rw [List.getElem?_eq_getElem (by omega), hr, List.getElem?_eq_getElem hj]; rfl
      · rw [List.getElem?_eq_none (by omega), List.getElem?_eq_none (by omega)]; rfl
    simp only [execOp, hv, convert, Sem.run_bind, hS, hT, hE, Result.andThen_ok]
    have hfold := bytes_run (P := P) s ByteArray.empty w1
    rcases A with _ | a
    · rcases hrow with h0 | ⟨b, o, h0, _⟩
      · subst h0; simp [Conv.bytesToString, go_sem, sv]; rfl
      · cases h0
    · rcases hrow with h0 | ⟨b, o, h0, hc⟩
      · subst h0; simp [Conv.bytesToString, go_sem, sv, loadCells, loadCellsFrom]; rfl
      · simp at h0; subst h0
        have hload := loadCells_run (P := P) (hc.sim hs)
        rw [hflat, List.length_map] at hload
        simp only [Conv.bytesToString, Sem.run_bind, hload, Result.andThen_ok]
        have h2 : Sem.run P (forIn (List.map bv s).toArray ByteArray.empty fun c __s => match c with | Value.int IntKind.u8 n => pure (ForInStep.yield (__s.push (UInt8.ofNat n.toNat))) | x => do { stuck "bytesToString: byte expected"; pure (ForInStep.yield __s) }) w1 = .ok (ByteArray.empty ++ ⟨s.toArray⟩) w1 := by
          rw [List.forIn_toArray]; exact hfold
        refine Eq.trans (congrArg (fun r => (Result.andThen r fun a w' => Sem.run P (pure (Value.string a)) w').andThen fun a w' => Sem.run P (pure (Next.value a)) w') h2) ?_
        have : ByteArray.empty ++ (⟨s.toArray⟩ : ByteArray) = ⟨s.toArray⟩ := by apply ByteArray.ext; simp
        simp [go_sem, sv, this]) K
theorem S_convI {U : TypeId} {k2 : IntKind} {a : Int} {dk : TypeDesc} (hS : ∀ w, (underlying S).run P w = .ok dk w) (hT : ∀ w, (underlying T).run P w = .ok (.int k2) w) (hx : ev f x = .int k a) (hn : Nat.blt d n = true) (K : WL P m n ops Q rest (upd f d (.int k2 (k2.wrap a))) w) :
    WL P m n ops Q (⟨some d, .convert S T x, U, pos, after, none⟩ :: rest) f w :=
  WL_val rfl rfl hn (v := .int k2 (k2.wrap a)) (fun _ _ => by simp [execOp, hx, convert, hS, hT, Conv.intToInt, go_sem]) K
theorem u8_wrap (a : Int) : Value.int .u8 (IntKind.u8.wrap a) = bv (UInt8.ofInt a) := by
  unfold bv
  congr 1
  have h1 : IntKind.u8.wrap a = a % 256 := by simp [IntKind.wrap, IntKind.bits, IntKind.signed]
  rw [h1]
  have h2 : (UInt8.ofInt a).toNat = (a % 256).toNat := by
    simp [UInt8.ofInt, UInt8.toNat_ofNat']
    omega
  rw [h2]; omega
theorem S_convB {U : TypeId} {a : Int} {dk : TypeDesc} (hS : ∀ w, (underlying S).run P w = .ok dk w) (hT : ∀ w, (underlying T).run P w = .ok (.int .u8) w) (hx : ev f x = .int k a) (hn : Nat.blt d n = true) (K : WL P m n ops Q rest (upd f d (bv (UInt8.ofInt a))) w) :
    WL P m n ops Q (⟨some d, .convert S T x, U, pos, after, none⟩ :: rest) f w :=
  S_convI hS hT hx hn (by rw [u8_wrap]; exact K)
end
/-! ### Parts that a call only reads -/
abbrev iOwnF (b : Nat) (T : TypeId) (cs : List Value) : It := ⟨[], [], fun Z w => Z b ∧ Own w b T cs⟩
abbrev iMapF {κ : Type} (ky : Key κ) (b : Nat) (L : List (κ × Value)) : It := ⟨[], [], fun Z w => Z b ∧ MapAt ky w b L⟩
abbrev iAcF {α : Type} (r : Rd α) (v : Value) (l : List α) : It := ⟨[], [], fun Z w => ∃ bs, (∀ b ∈ bs, Z b) ∧ Ac r Z w v l bs⟩
theorem sOwnF {b : Nat} {T : TypeId} {cs : List Value} : (iOwnF b T cs).Stab := fun Z Z' B w w' h e hB hZ => ⟨hZ _ h.1, h.2.ext e (fun hm => by have := hB b hm (.inr h.1); have := Own.lt h.2; omega)⟩
theorem sMapF {κ : Type} {ky : Key κ} {b : Nat} {L : List (κ × Value)} : (iMapF ky b L).Stab := fun Z Z' B w w' h e hB hZ => ⟨hZ _ h.1, h.2.ext e (fun hm => by have := hB b hm (.inr h.1); have := MapAt.lt h.2; omega)⟩
theorem sAcF {α : Type} {r : Rd α} {v : Value} {l : List α} : (iAcF r v l).Stab := fun Z Z' B w w' ⟨bs, hb, h⟩ e hB hZ => ⟨bs, fun b hm => hZ b (hb b hm), h.stab e (fun b hm hz => hB b hm (.inr (hz.elim (hb b) id))) hZ⟩
/-- Ranging over a map that is only read. -/
abbrev iIterF {κ : Type} (ky : Key κ) (it b : Nat) (L D : List (κ × Value)) : It := ⟨[it], [], fun Z w => Z b ∧ Iter ky w it b L D⟩
theorem sIterF {κ : Type} {ky : Key κ} {it b : Nat} {L D : List (κ × Value)} : (iIterF ky it b L D).Stab := fun Z Z' B w w' h e hB hZ => ⟨hZ _ h.1, Iter.ext h.2 e (fun hm => by have := hB b hm (.inr h.1); have := MapAt.lt (Iter.map h.2); omega) (fun hm => by have := hB it hm (.inl (by simp)); have := Iter.lt h.2; omega)⟩
section
variable {P : Program} {n : Nat} {ops : List Oper} {Q : Exit → Fr → World → Prop} {rest : List Oper} {f : Fr} {w w0 : World} {d : Nat} {Z : Nat → Prop} {B0 : List Nat} {L : List It}
variable {ty T E Kt : TypeId} {pos : String} {after : Array Edge} {x y : Operand} {b it : Nat} {α κ : Type} {ky : Key κ} {enc : α → Value} {am : List (κ × α)}
theorem Z_rangeF (hs : Sep B0 w0 Z w L) (j : Nat) (hj : L[j]? = some (iMapF ky b (emap enc am))) (hT : ∀ w, (underlying T).run P w = .ok (.map Kt E) w) (hx : ev f x = .map (some b)) (hn : Nat.blt d n = true)
    (K : ∀ it w', Sep B0 w0 Z w' (iIterF ky it b (emap enc am) (emap enc []) :: L) → WL P false n ops Q rest (upd f d (.pointer (some ⟨it, 0, none⟩))) w') :
    WL P false n ops Q (⟨some d, .range T x, ty, pos, after, none⟩ :: rest) f w :=
  S_range hT hx (hs.at j hj).2 hn fun it w' e h1 h2 hi => K it w' (hs.add e ⟨(hs.at j hj).1, hi⟩ sIterF (fun x hx => by simp at hx; subst hx; omega) rfl)
theorem Z_nextF [DecidableEq κ] {dm : List (κ × α)} {N : TypeId} (hs : Sep B0 w0 Z w L) (j : Nat) (hj : L[j]? = some (iIterF ky it b (emap enc am) (emap enc dm))) (hx : ev f x = .pointer (some ⟨it, 0, none⟩)) (hn : Nat.blt d n = true)
    (K1 : ∀ k v w', (k, v) ∈ am → k ∉ dm.map (·.1) → Sep B0 w0 Z w' (L.set j (iIterF ky it b (emap enc am) (emap enc (dm ++ [(k, v)])))) → WL P false n ops Q rest (upd f d (.tuple #[.bool true, ky.enc k, enc v])) w')
    (K2 : (∀ k, k ∈ am.map (·.1) → k ∈ dm.map (·.1)) → WL P false n ops Q rest (upd f d (.tuple #[.bool false])) w) :
    WL P false n ops Q (⟨some d, .next x false, N, pos, after, none⟩ :: rest) f w := by
  refine S_next hx (hs.at j hj).2 hn ?_ ?_
  · intro k v w' hm _ hk e h1 hi
    obtain ⟨⟨k', v'⟩, hm', e'⟩ := List.mem_map.1 hm
    simp only [Prod.mk.injEq] at e'
    obtain ⟨rfl, rfl⟩ := e'
    rw [emap_keys] at hk
    refine K1 k' v' w' hm' hk (hs.upd j hj e ⟨(hs.at j hj).1, by simpa [emap] using hi⟩ sIterF (fun x hx => ⟨.inl hx, by have := hs.lt j hj x hx; have := e.size; omega⟩) rfl)
  · intro h
    refine K2 fun k hk => ?_
    obtain ⟨⟨k', v'⟩, hm, rfl⟩ := List.mem_map.1 hk
    have := h (k', enc v') (List.mem_map.2 ⟨(k', v'), hm, rfl⟩)
    obtain ⟨⟨k2, v2⟩, h2, e⟩ := List.mem_map.1 this
    simp only [Prod.mk.injEq] at e
    exact List.mem_map.2 ⟨(k2, v2), h2, e.1⟩
end
end Go.Wl
