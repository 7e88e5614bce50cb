/- Arguments as the statements read them, read as ours; and what a law's statement asks behind the call. -/
import Derived.Test.YtdgcgifigkfeaaaWkQ
import Derived.ProofKit
namespace Go.Wk
open Go Go.ChangeShapes Go.WideShapes Go.RowKit

/-! ### Opening -/
def Opens {α : Type} (P : Program) (t : TypeId) (r : Rep α) : Prop :=
  ∀ {H : Type} {enc : TypeId × Value → H} {fuel : Nat} {w : World} {sp : Nat → Bool} {cs : List Value} {x : DataW H × List MemPlace}, DataW.trod enc P w 0 sp true fuel t cs = some x → ∃ y, r.rd [] w cs y
section
variable {P : Program} {t e : TypeId}
theorem inI_wf {n : Int} (h : (Lit.int .i64 n).wf = true) : InI n := by
  simp [Lit.wf, IntKind.min, IntKind.max, IntKind.signed, IntKind.bits] at h
  exact ⟨by omega, by omega⟩
theorem opens_int (ht : P.underlying t = some (.int .i64)) : Opens P t rInt := fun h => by
  obtain ⟨n, rfl, _, hw⟩ := DataW.trod_int ht h
  exact ⟨n, rfl, inI_wf hw⟩
theorem opens_byte (ht : P.underlying t = some (.int .u8)) : Opens P t rByte := fun h => by
  obtain ⟨n, rfl, _, hw⟩ := DataW.trod_int ht h
  simp [Lit.wf, IntKind.min, IntKind.max, IntKind.signed, IntKind.bits] at hw
  refine ⟨UInt8.ofNat n.toNat, ?_⟩
  show _ = _
  congr 2
  have : n.toNat % 256 = n.toNat := Nat.mod_eq_of_lt (by omega)
  simp [this]
  omega
theorem opens_bool (ht : P.underlying t = some .bool) : Opens P t rBool := fun h => by
  obtain ⟨b, rfl, _⟩ := DataW.trod_bool ht h
  exact ⟨b, rfl⟩
theorem opens_str (ht : P.underlying t = some .string) : Opens P t rStr := fun h => by
  obtain ⟨s, rfl, hx, hs⟩ := DataW.trod_string ht h
  refine ⟨s.data.toList, ?_, ?_⟩
  · show _ = _
    unfold sv
    cases s; rfl
  · have : s.data.toList.length ≤ maxLen := hs
    simp only [maxLen] at this
    omega
theorem mapM_get {α β : Type} {f : α → Option β} {l : List α} {r : List β} (h : l.mapM f = some r) : ∀ (i : Nat) (a : α), l[i]? = some a → f a = r[i]? := fun i a ha => mapM_some_get h i a ha
theorem cells_of {w : World} {a : Addr} {n : Nat} {cs : List Value} (hn : 0 < n) (h : w.cells? 0 a n = some cs) : a.spot = none ∧ cs.length = n ∧ Cells w a.block a.off cs := by
  unfold World.cells? at h
  rw [if_pos (Nat.zero_le _)] at h
  have hlen : cs.length = n := by simpa using mapM_some_length h
  have hget : ∀ i, i < n → w.cell? (a.add i) = cs[i]? := fun i hi => mapM_some_get h i i (by simp [hi])
  have h0 := hget 0 hn
  rw [List.getElem?_eq_getElem (by omega)] at h0
  have hspot : a.spot = none := by simpa [Addr.add] using World.cell?_spot h0
  refine ⟨hspot, hlen, ?_⟩
  obtain ⟨b, o, s⟩ := a
  simp only at hspot
  subst hspot
  simp only [Addr.add, if_true] at h0
  unfold World.cell? at h0
  cases hh : w.heap[b]? with
  | none => simp [hh] at h0
  | some ob =>
    cases ob with
    | cells C T z =>
      refine ⟨C, T, z, hh, fun j hj => ?_⟩
      have := hget j (by omega)
      unfold World.cell? Addr.add at this
      by_cases hj0 : j = 0
      · subst hj0; simp [hh] at this; simpa using this
      · simp [hj0, hh] at this; exact this
    | _ => simp [hh] at h0
theorem opens_slice {α : Type} {r : Rep α} (ht : P.underlying t = some (.slice e)) (hsz : P.cellsOf e = r.sz) (hp : 0 < r.sz) (ho : Opens P e r) : Opens P t (rSlice r) := fun {H enc fuel w sp cs x} h => by
  rcases DataW.trod_slice ht h with ⟨rfl, _⟩ | ⟨a, len, cap, elems, rest, n, _, rfl, _, _, hlc, hcm, hel, hget, _⟩
  · exact ⟨[], rSlice_nil⟩
  · have each : ∀ i, i < len → ∃ c y, Cells w a.block (a.off + i * r.sz) c ∧ r.rd [] w c y ∧ a.spot = none := by
      intro i hi
      have h1 := hget i hi
      rw [List.getElem?_eq_getElem (by omega)] at h1
      simp only [Option.bind_eq_some_iff] at h1
      obtain ⟨c, hc, hx⟩ := h1
      obtain ⟨y, hy⟩ := ho hx
      rw [hsz] at hc
      have hc' := cells_of hp hc
      have hs0 : a.spot = none := by
        have h0 := hget 0 (by omega)
        rw [List.getElem?_eq_getElem (by omega)] at h0
        simp only [Option.bind_eq_some_iff] at h0
        obtain ⟨c0, hc0, _⟩ := h0
        rw [hsz] at hc0
        have := (cells_of hp hc0).1
        simpa [Addr.add] using this
      refine ⟨c, y, ?_, hy, hs0⟩
      have := hc'.2.2
      unfold Addr.add at this
      split at this
      · rename_i e0
        rw [e0]; exact this
      · exact this
    have each' : ∀ i : Fin len, ∃ y : α, ∃ c, Cells w a.block (a.off + i * r.sz) c ∧ r.rd [] w c y := fun i => by
      obtain ⟨c, y, h1, h2, _⟩ := each i i.2; exact ⟨y, c, h1, h2⟩
    have ⟨f, hf⟩ := Classical.axiomOfChoice each'
    refine ⟨List.ofFn f, ?_, ?_⟩
    · simp [maxLen] at hcm ⊢; omega
    · refine ⟨some a, cap, by simp, fun h => (by cases h), fun i hi => ?_⟩
      have hi' : i < len := by simpa using hi
      obtain ⟨c, h1, h2⟩ := hf ⟨i, hi'⟩
      obtain ⟨_, _, _, _, hs0⟩ := each i hi'
      refine ⟨a.block, a.off, c, ?_, by simp, h1, ?_⟩
      · obtain ⟨b, o, s⟩ := a; simp only at hs0; subst hs0; rfl
      · simpa using h2
theorem opens_arg {α : Type} {r : Rep α} (ho : Opens P t r) {H : Type} {enc : TypeId × Value → H} {w : World} {sp : Nat → Bool} {v : Value} {d : DataW H} {ps : List MemPlace} (hv : v.cells.toList = [v]) (h : DataW.Trod enc P w 0 sp true t v d ps) : ∃ y, r.rd [] w [v] y := by
  obtain ⟨n, h⟩ := h
  rw [hv] at h
  exact ho h
theorem okc_slice {w : World} {R : Reach} {b0 : Nat} {v : Value} (ht : P.underlying t = some (.slice e)) (h : Value.okWide P w R b0 t v) : v.cells.toList = [v] := by
  obtain ⟨a, n, c, rfl⟩ := okWide_slice ht h; simp [Value.cells]
theorem okc_int {w : World} {R : Reach} {b0 : Nat} {v : Value} {k : IntKind} (ht : P.underlying t = some (.int k)) (h : Value.okWide P w R b0 t v) : v.cells.toList = [v] := by
  obtain ⟨n, rfl⟩ := okWide_int ht h; simp [Value.cells]
theorem okc_str {w : World} {R : Reach} {b0 : Nat} {v : Value} (ht : P.underlying t = some .string) (h : Value.okWide P w R b0 t v) : v.cells.toList = [v] := by
  obtain ⟨n, rfl⟩ := okWide_string ht h; simp [Value.cells]
theorem okc_bool {w : World} {R : Reach} {b0 : Nat} {v : Value} (ht : P.underlying t = some .bool) (h : Value.okWide P w R b0 t v) : v.cells.toList = [v] := by
  simp only [Value.okWide, ht, Cell.okWide] at h
  cases v <;> simp_all [Cell.ok, Value.cells]
end

theorem cutL {α : Type} {cs : List α} {o a b : Nat} : (cs.drop o).take (a + b) = (cs.drop o).take a ++ (cs.drop (o + a)).take b := by
  rw [List.take_add, List.drop_drop]
theorem wholeL {α : Type} {cs : List α} {n : Nat} (h : cs.length = n) : cs = (cs.drop 0).take n := by rw [List.drop_zero, List.take_of_length_le (by omega)]

/-! ### Behind the call -/
theorem trodAll_stays {P : Program} {H : Type} {enc : TypeId × Value → H} {W W' : World} {sp : Nat → Bool} (hl : laidOutB P = true) : ∀ {ts : List TypeId} {vs : List Value} {ds : List (DataW H)} {ps : List MemPlace}, (∀ t ∈ ts, P.readableRec t = true ∧ t < P.types.size) →
    DataW.TrodAll enc P W 0 (fun _ => true) true ts vs ds ps → (∀ p ∈ ps, W.sameAt W' p) → (∀ p ∈ ps, sp p.block = true) → DataW.TrodAll enc P W' 0 sp true ts vs ds ps
  | [], [], [], _, _, h, _, _ => h
  | t :: ts, v :: vs, d :: ds, ps, ht, ⟨p, q, h1, h2, e⟩, hs, hsp => ⟨p, q, WideElems.Trod_stays hl (ht t (by simp)).1 (ht t (by simp)).2 h1 (fun x hx => hs x (by rw [e]; exact List.mem_append_left _ hx)) (fun x hx => hsp x (by rw [e]; exact List.mem_append_left _ hx)),
      trodAll_stays hl (fun u hu => ht u (by simp [hu])) h2 (fun x hx => hs x (by rw [e]; exact List.mem_append_right _ hx)) (fun x hx => hsp x (by rw [e]; exact List.mem_append_right _ hx)), e⟩
theorem frozen_old {W W' : World} (e : Ext [] W W') {b o : Nat} (hb : b < W.heap.size) : W'.frozen? ⟨b, o, none⟩ = W.frozen? ⟨b, o, none⟩ := by
  unfold World.frozen?
  rw [e.block b hb (by simp)]
theorem law_post {P : Program} {f : Func} {s : ChangeSpec} {tb : TypeId} {H : Type} {enc : TypeId × Value → H} {apart fresh handsOn again : Bool} {W W' W2 : World} {args : Array Value} {ds gs : List (DataW H)} {before : List MemPlace}
    (hl : laidOutB P = true) (hr : ∀ t ∈ f.params.toList, P.readableRec t = true ∧ t < P.types.size) (hrt : f.resultTypes = #[tb]) (htb : P.underlying tb = some .bool) (hvs : s.vars = [])
    (hfn : s.fn H (ds ++ gs) = { results := [.lit (.bool true)], args := ds }) (hW : DataW.Whole enc P f.params.toList s.vars apart W args.toList ds gs before) (e : Ext [] W W') (hs : Sim W' W2) :
    s.post enc P f apart fresh handsOn again W args (.bool true) W2 := by
  have e2 : Ext [] W W2 := e.sim hs
  have hlt := hW.lt
  have hold : ∀ p ∈ before, (fun b => decide (b < W.heap.size)) p.block = true := fun p hp => by simpa using hlt p hp
  obtain ⟨pa, pv, hA, hV, hps, hz, hn⟩ := hW
  have hV' := hV
  rw [hvs] at hV'
  obtain ⟨hg, hpv⟩ := trodVars_none hV'
  subst hg; subst hpv
  rw [List.append_nil] at hps
  subst hps
  have hsame : ∀ p ∈ before, W.sameAt W2 p := fun p hp => by
    cases p with
    | cell b off =>
      show W2.cell? _ = W.cell? _
      unfold World.cell?
      rw [e2.block b (hlt _ hp) (by simp)]
    | map b => exact e2.block b (hlt _ hp) (by simp)
  have hargs : ∀ sp : Nat → Bool, (∀ p ∈ before, sp p.block = true) → DataW.TrodAll enc P W2 0 sp true f.params.toList args.toList ds before := fun sp hsp => trodAll_stays hl hr hA hsame hsp
  have hres : ∀ (b : Nat) (sp : Nat → Bool) (hd : Bool), DataW.TrodAll enc P W2 b sp hd f.resultTypes.toList ((Value.bool true).resultList f.resultTypes.size) [.lit (.bool true)] [] := fun b sp hd => by
    rw [hrt]; exact trodAll_mk1 (shut_bool htb _)
  have hvars : ∀ sp : Nat → Bool, DataW.TrodVars enc P W2 sp s.vars [] [] := fun sp => by rw [hvs]; rfl
  have hok : ∀ (j : Nat) (t : TypeId) (r : Value), f.resultTypes[j]? = some t → ((Value.bool true).resultList f.resultTypes.size)[j]? = some r → Value.okWide P W2 .any 0 t r := ok_one hrt rfl (okWide_bool_mk htb _)
  refine ⟨ds, [], before, [], before, [], ⟨before, [], hA, hV, by simp, hz, hn⟩, by rw [hfn]; exact hres _ _ _, by rw [hfn]; exact hargs _ hold, by rw [hfn]; exact hvars _, e2.below.frame _, fun _ => ?_⟩
  refine ⟨hok, _, _, ([] ++ before) ++ [], ⟨[] ++ before, [], trodAll_append (hargs _ (fun _ _ => rfl)) (hres _ _ _), hvars _, rfl, ?_, ?_⟩, ?_⟩
  · intro b off hp
    have hp' : MemPlace.cell b off ∈ before := by simpa using hp
    rw [frozen_old e2 (show b < W.heap.size from hlt _ hp')]
    exact hz b off hp'
  · intro ha; simpa using hn ha
  · intro p hp _; simpa using hp
theorem law_calls {P : Program} {K : FuncId} {f : Func} {s : ChangeSpec} {tb : TypeId} {H : Type} {enc : TypeId × Value → H} {apart fresh handsOn again : Bool} {W : World} {args : Array Value} {ds gs : List (DataW H)} {before : List MemPlace}
    (hl : laidOutB P = true) (hr : ∀ t ∈ f.params.toList, P.readableRec t = true ∧ t < P.types.size) (hrt : f.resultTypes = #[tb]) (htb : P.underlying tb = some .bool) (hvs : s.vars = [])
    (hfn : s.fn H (ds ++ gs) = { results := [.lit (.bool true)], args := ds }) (hW : DataW.Whole enc P f.params.toList s.vars apart W args.toList ds gs before)
    (h : CallR P K args.toList W fun v w' => v = .bool true ∧ Ext [] W w') :
    Calls P K args W fun e W' => ∃ v, e = .returned v ∧ s.post enc P f apart fresh handsOn again W args v W' := by
  have hc := h W (Sim.refl W)
  simp only [Array.toArray_toList] at hc
  refine Calls.mono hc ?_
  rintro e W2 ⟨_, w', rfl, hs, rfl, hx⟩
  exact ⟨_, rfl, law_post hl hr hrt htb hvs hfn hW hx hs⟩
end Go.Wk
