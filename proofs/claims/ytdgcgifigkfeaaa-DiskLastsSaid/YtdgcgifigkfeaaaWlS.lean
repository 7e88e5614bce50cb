/- Sorting a slice of the call's own: the shelf's contract read as one of ours. -/
import Derived.Test.YtdgcgifigkfeaaaWlF
import Derived.Sort.Grow
namespace Go.Wl
open Go Go.Wk

def srt (l : List Int) : List Int := l.mergeSort fun x y => decide (x ≤ y)
theorem srt_len (l : List Int) : (srt l).length = l.length := (List.mergeSort_perm l _).length_eq
theorem srt_mem {l : List Int} {x : Int} : x ∈ srt l ↔ x ∈ l := (List.mergeSort_perm l _).mem_iff
theorem srt_le (l : List Int) : (srt l).Pairwise (· ≤ ·) := by
  have h := List.pairwise_mergeSort (le := fun x y : Int => decide (x ≤ y)) (fun a b c h1 h2 => by simp at *; omega) (fun a b => by simp; omega) l
  exact h.imp fun h => by simpa using h
theorem srt_nodup {l : List Int} (h : l.Nodup) : (srt l).Nodup := (List.mergeSort_perm l _).nodup_iff.2 h
theorem srt_lt {l : List Int} (h : l.Nodup) : (srt l).Pairwise (· < ·) := by
  have h1 := srt_le l
  have h2 : (srt l).Pairwise (· ≠ ·) := srt_nodup h
  exact (h1.and h2).imp fun ⟨a, b⟩ => by omega

theorem sort_ac {P : Program} {K : FuncId} (hN : ∀ (p : Option Addr) (cap : Nat) (w : World), Calls P K #[.slice p 0 cap] w fun e w' => e = .returned (.tuple #[]) ∧ w' = w)
    (hS : ∀ (blk off cap : Nat) (zs : List Int) (w : World), Sort.Holds (Value.int .i64) w blk off zs.toArray → blk < w.heap.size → zs.length < 4611686018427387904 →
      Calls P K #[.slice (some ⟨blk, off, none⟩) zs.length cap] w fun e w' => e = .returned (.tuple #[]) ∧ ∃ n os, w' = Sort.grow (Sort.putRow (Value.int .i64) (Sort.ahead w n) blk off (zs.mergeSort fun x y => decide (x ≤ y)).toArray) os)
    {Z : Nat → Prop} {bs : List Nat} {w : World} {v : Value} {l : List Int} (h : Ac dInt Z w v l bs) (hl : l.length < 4611686018427387904) :
    CallR P K [v] w fun _ w' => Ac dInt Z w' v (srt l) bs ∧ Ext bs w w' := by
  intro w1 hs
  obtain ⟨k, rfl⟩ := hs
  rcases h with ⟨rfl, rfl, rfl⟩ | ⟨b, cap, C, T, rfl, rfl, ho, hC, hle, hc⟩
  · refine Calls.mono (hN none 0 _) ?_
    rintro e w2 ⟨rfl, rfl⟩
    exact ⟨_, w, rfl, ⟨k, rfl⟩, .inl ⟨rfl, by simp [srt], rfl⟩, Ext.refl _ _⟩
  · have hget : ∀ i (h : i < l.length), C[i]? = some (.int .i64 l[i]) ∧ InI l[i] := by
      intro i hi
      obtain ⟨c, h1, h2, h3⟩ := hc i hi
      have := h2 0 (by simp [dInt])
      simp only [dInt, Nat.mul_one, Nat.add_zero] at this h3
      rw [this, h3.1]; exact ⟨rfl, h3.2⟩
    have hlt := ho.lt
    refine Calls.mono (hS b 0 cap l { w with drawn := k } (fun j hj => ?_) hlt hl) ?_
    · have hj' : j < l.length := by simpa using hj
      constructor
      · simp only [World.cell?, show ({ w with drawn := k } : World).heap[b]? = _ from ho]
        simp [(hget j hj').1, hj']
      · simp [World.frozen?, show ({ w with drawn := k } : World).heap[b]? = _ from ho]
    · rintro e w2 ⟨rfl, n, os, rfl⟩
      have hh : (Sort.grow (Sort.putRow (Value.int .i64) (Sort.ahead w n) b 0 (srt l).toArray) os).heap[b]? = some (.cells (Sort.putCells (Value.int .i64) 0 (srt l).toArray C.toArray) T (0, 0)) := by
        rw [Sort.heap_grow_old _ _ (by simpa using hlt)]
        simp only [Sort.putRow, Sort.mapBlock, Sort.ahead, Array.getElem?_modify, if_true]
        rw [show w.heap[b]? = _ from ho]; rfl
      have hsz : C.length = cap := by simpa [dInt] using hC
      have ho' : Own (Sort.grow (Sort.putRow (Value.int .i64) (Sort.ahead w n) b 0 (srt l).toArray) os) b T (Sort.putCells (Value.int .i64) 0 (srt l).toArray C.toArray).toList := by
        show _ = _
        rw [hh]
      refine ⟨_, Sort.grow (Sort.putRow (Value.int .i64) (Sort.ahead w n) b 0 (srt l).toArray) os, rfl, ⟨k + n, rfl⟩, .inr ⟨b, cap, _, T, by rw [srt_len], rfl, ho', ?_, by rw [srt_len]; exact hle, ?_⟩, ⟨rfl, rfl, rfl, ?_, ?_⟩⟩
      · simp [Sort.putCells, dInt, hsz]
      · intro i hi
        have hi' : i < l.length := by rw [← srt_len]; exact hi
        refine ⟨[.int .i64 (srt l)[i]], rfl, fun j hj => ?_, rfl, ?_⟩
        · have : j = 0 := by simp [dInt] at hj; omega
          subst this
          have hci : i < C.length := by omega
          simp [Sort.putCells, dInt, Array.getElem?_mapIdx, hci, hi]
        · obtain ⟨j, hj, e⟩ := List.getElem_of_mem (srt_mem.1 (List.getElem_mem hi))
          rw [← e]; exact (hget j hj).2
      · simp [Sort.ahead]
      · intro x hx hn
        have hne : x ≠ b := by simpa using hn
        rw [Sort.heap_grow_old _ _ (by simpa using hx)]
        simp only [Sort.putRow, Sort.mapBlock, Sort.ahead, Array.getElem?_modify]
        rw [if_neg (Ne.symm hne)]
theorem Sep.sorted {B0 : List Nat} {w0 w w' : World} {Z : Nat → Prop} {L : List It} {v : Value} {l : List Int} {bs O : List Nat} (hs : Sep B0 w0 Z w L) (k : Nat) (hk : L[k]? = some (iAc dInt v l bs O)) (h : Ac dInt Z w' v (srt l) bs) (e : Ext bs w w') : Sep B0 w0 Z w' (L.set k (iAc dInt v (srt l) bs O)) :=
  hs.upd k hk e h sAc (fun b hb => ⟨.inl hb, h.lt b hb⟩) rfl
end Go.Wl
