/- Arguments as the statements read them, read as ours (readings with blocks). -/
import Derived.Test.YtdgcgifigkfeaaaWkO
import Derived.Test.YtdgcgifigkfeaaaWlG
namespace Go.Wl
open Go Go.Wk Go.ChangeShapes Go.WideShapes Go.RowKit
def OpensD {α : Type} (P : Program) (t : TypeId) (r : Rd α) : Prop :=
  ∀ {H : Type} {enc : TypeId × Value → H} {fuel : Nat} {w : World} {sp : Nat → Bool} {cs : List Value} {x : DataW H × List MemPlace}, DataW.trod enc P w 0 sp true fuel t cs = some x → ∃ y, r.rd (fun _ => True) w cs y
section
variable {P : Program} {t e : TypeId}
theorem opensD_int (ht : P.underlying t = some (.int .i64)) : OpensD P t dInt := fun h => by
  obtain ⟨n, rfl, _, hw⟩ := DataW.trod_int ht h
  exact ⟨n, rfl, inI_wf hw⟩
theorem opensD_byte (ht : P.underlying t = some (.int .u8)) : OpensD P t dByte := fun h => by
  obtain ⟨y, e⟩ := opens_byte ht h
  exact ⟨y, e⟩
theorem opensD_bool (ht : P.underlying t = some .bool) : OpensD P t dBool := fun h => by
  obtain ⟨b, rfl, _⟩ := DataW.trod_bool ht h
  exact ⟨b, rfl⟩
theorem opensD_str (ht : P.underlying t = some .string) : OpensD P t dStr := fun h => by
  obtain ⟨y, e⟩ := opens_str ht h
  exact ⟨y, e⟩
theorem opensD_slice {α : Type} {r : Rd α} (ht : P.underlying t = some (.slice e)) (hsz : P.cellsOf e = r.sz) (hp : 0 < r.sz) (ho : OpensD P e r) : OpensD P t (dSlice r) := fun {H enc fuel w sp cs x} h => by
  rcases DataW.trod_slice ht h with ⟨rfl, _⟩ | ⟨a, len, cap, elems, rest, n, _, rfl, _, _, hlc, hcm, hel, hget, _⟩
  · exact ⟨[], dSlice_nil⟩
  · have each : ∀ i, i < len → ∃ c y, Cells w a.block (a.off + i * r.sz) c ∧ r.rd (fun _ => True) w c y ∧ a.spot = none := by
      intro i hi
      have h1 := hget i hi
      rw [List.getElem?_eq_getElem (by omega)] at h1
      simp only [Option.bind_eq_some_iff] at h1
      obtain ⟨c, hc, hx⟩ := h1
      obtain ⟨y, hy⟩ := ho hx
      rw [hsz] at hc
      have hc' := cells_of hp hc
      have hs0 : a.spot = none := by
        have h0 := hget 0 (by omega)
        rw [List.getElem?_eq_getElem (by omega)] at h0
        simp only [Option.bind_eq_some_iff] at h0
        obtain ⟨c0, hc0, _⟩ := h0
        rw [hsz] at hc0
        have := (cells_of hp hc0).1
        simpa [Addr.add] using this
      refine ⟨c, y, ?_, hy, hs0⟩
      have := hc'.2.2
      unfold Addr.add at this
      split at this
      · rename_i e0
        rw [e0]; exact this
      · exact this
    have each' : ∀ i : Fin len, ∃ y : α, ∃ c, Cells w a.block (a.off + i * r.sz) c ∧ r.rd (fun _ => True) w c y := fun i => by
      obtain ⟨c, y, h1, h2, _⟩ := each i i.2; exact ⟨y, c, h1, h2⟩
    have ⟨f, hf⟩ := Classical.axiomOfChoice each'
    refine ⟨List.ofFn f, ?_, some a, cap, by simp, fun h => (by cases h), fun i hi => ?_⟩
    · simp [maxLen] at hcm ⊢; omega
    · have hi' : i < len := by simpa using hi
      obtain ⟨c, h1, h2⟩ := hf ⟨i, hi'⟩
      obtain ⟨_, _, _, _, hs0⟩ := each i hi'
      refine ⟨a.block, a.off, c, ?_, trivial, h1, ?_⟩
      · obtain ⟨b, o, s⟩ := a; simp only at hs0; subst hs0; rfl
      · simpa using h2
theorem opensD_arg {α : Type} {r : Rd α} (ho : OpensD P t r) {H : Type} {enc : TypeId × Value → H} {w : World} {sp : Nat → Bool} {v : Value} {d : DataW H} {ps : List MemPlace} (hv : v.cells.toList = [v]) (h : DataW.Trod enc P w 0 sp true t v d ps) : ∃ y, r.rd (fun _ => True) w [v] y := by
  obtain ⟨n, h⟩ := h
  rw [hv] at h
  exact ho h
end
end Go.Wl
