/- 1 texts, one behind the other. -/
import Derived.Test.YtadgfmmmdhlljaaDoorJ4
import Derived.Test.YtadgfmmmdhlljaaDoorRows
import Derived.ChangeSame
import Derived.ChangeVars
import Derived.JoinedOf
import Derived.RowKit
import GoSem.PinnedTables
import Derived.Test.YtadgfmmmdhlljaaDoorShelf
import Derived.RowKitTokens
import Derived.LaidLaws
import Derived.LaidHandle
import Derived.Lay
import Derived.LaidMore
import Derived.Lib.LaidU8
import Derived.Stop.Joined
set_option linter.unusedVariables false
set_option linter.unusedSimpArgs false
section
namespace Go.Proofs.YtadgfmmmdhlljaaDoor
open Go Go.Wk Go.Wl Go.Rx Go.RowKit Go.Li
def laidP : List (String × DataW Unit) := [("unicode/utf8.acceptRanges", Rows.laid_unicode_utf8_acceptRanges), ("unicode/utf8.first", Rows.laid_unicode_utf8_first)]
/-- A world that meets the condition. -/
noncomputable def laidWP (os : Os) : World := World.laidAll Tryd.prog os laidP
theorem laidWP_met (os : Os) (args : Array Value) : laidMetH Tryd.prog laidP ((laidWP os).forCall (fun _ _ => 0) ⟨#[], args, []⟩).memory :=
  laidMetH_of_parts (laidMet_of_run' 8 (by kernel_rfl) (by kernel_rfl)) (by kernel_rfl)
theorem laidWP_shaped (os : Os) (args : Array Value) : ((laidWP os).forCall (fun _ _ => 0) ⟨#[], args, []⟩).Shaped Tryd.prog := World.shaped_of_ZipB (by kernel_rfl) (by kernel_rfl)
theorem laid0 : laidOutB Tryd.prog = true := by kernel_rfl
theorem own0 : ownKnob Tryd.prog.godebug = none := by kernel_rfl
theorem read0 {P : Program} {ts : List TypeId} (h : (ts.all fun t => P.readableRec t && decide (t < P.types.size)) = true) : ∀ t ∈ ts, P.readableRec t = true ∧ t < P.types.size := fun t ht => by
  have := List.all_eq_true.1 h t ht
  rw [Bool.and_eq_true, decide_eq_true_eq] at this
  exact this
theorem rep_sl {W : World} {v : Value} {y : List Str} (h : (dSlice dStr).rd (fun _ => True) W [v] y) : Rep U eT (fun _ => none) (fun b => b < W.heap.size) W v (.sl 9 y) := .sl (Rd.weak _ h fun _ _ hb => hb)
theorem bool_true {Z : Nat → Prop} {W : World} {v : Value} (h : Rep U eT (fun _ => none) Z W v (blB true)) : v = .bool true := by
  cases h with | bl => rfl
theorem opens_dParam : OpensD Tryd.prog 59 dParam := fun {H enc fuel w sp cs x} h => by
  obtain ⟨xs, n, _, _, hlen, hxl, hget⟩ := DataW.trod_struct Tryd.underlying59 h
  have hz : Tryd.prog.cellsOf 59 = 2 := by kernel_rfl
  rw [hz] at hlen
  have z9 : Tryd.prog.cellsOf 9 = 1 := by kernel_rfl
  have z22 : Tryd.prog.cellsOf 22 = 1 := by kernel_rfl
  have g0 : DataW.trod enc Tryd.prog w 0 sp true n 9 ((cs.drop 0).take (Tryd.prog.cellsOf 9)) = xs[0]? := hget 0 _ rfl
  rw [List.getElem?_eq_getElem (by rw [hxl]; decide), z9] at g0
  obtain ⟨y0, k0⟩ := (opensD_str Tryd.underlying9) g0
  have g1 : DataW.trod enc Tryd.prog w 0 sp true n 22 ((cs.drop 1).take (Tryd.prog.cellsOf 22)) = xs[1]? := hget 1 _ rfl
  rw [List.getElem?_eq_getElem (by rw [hxl]; decide), z22] at g1
  obtain ⟨y1, k1⟩ := (opensD_slice Tryd.underlying22 (by kernel_rfl) (by decide) (opensD_str Tryd.underlying9)) g1
  have q : cs = (cs.drop 0).take (1 + (1)) := wholeL hlen
  exact ⟨⟨y0, y1⟩, _, _, q.trans cutL, k0, k1⟩
theorem opens_dPrp : OpensD Tryd.prog 45 dPrp := fun {H enc fuel w sp cs x} h => by
  obtain ⟨xs, n, _, _, hlen, hxl, hget⟩ := DataW.trod_struct Tryd.underlying45 h
  have hz : Tryd.prog.cellsOf 45 = 4 := by kernel_rfl
  rw [hz] at hlen
  have z9 : Tryd.prog.cellsOf 9 = 1 := by kernel_rfl
  have z43 : Tryd.prog.cellsOf 43 = 1 := by kernel_rfl
  have g0 : DataW.trod enc Tryd.prog w 0 sp true n 9 ((cs.drop 0).take (Tryd.prog.cellsOf 9)) = xs[0]? := hget 0 _ rfl
  rw [List.getElem?_eq_getElem (by rw [hxl]; decide), z9] at g0
  obtain ⟨y0, k0⟩ := (opensD_str Tryd.underlying9) g0
  have g1 : DataW.trod enc Tryd.prog w 0 sp true n 9 ((cs.drop 1).take (Tryd.prog.cellsOf 9)) = xs[1]? := hget 1 _ rfl
  rw [List.getElem?_eq_getElem (by rw [hxl]; decide), z9] at g1
  obtain ⟨y1, k1⟩ := (opensD_str Tryd.underlying9) g1
  have g2 : DataW.trod enc Tryd.prog w 0 sp true n 43 ((cs.drop 2).take (Tryd.prog.cellsOf 43)) = xs[2]? := hget 2 _ rfl
  rw [List.getElem?_eq_getElem (by rw [hxl]; decide), z43] at g2
  obtain ⟨y2, k2⟩ := (opensD_slice Tryd.underlying43 (by kernel_rfl) (by decide) opens_dParam) g2
  have g3 : DataW.trod enc Tryd.prog w 0 sp true n 9 ((cs.drop 3).take (Tryd.prog.cellsOf 9)) = xs[3]? := hget 3 _ rfl
  rw [List.getElem?_eq_getElem (by rw [hxl]; decide), z9] at g3
  obtain ⟨y3, k3⟩ := (opensD_str Tryd.underlying9) g3
  have q : cs = (cs.drop 0).take (1 + (1 + (1 + (1)))) := wholeL hlen
  exact ⟨⟨y0, y1, y2, y3⟩, _, _, _, _, q.trans (cutL.trans (congrArg _ (cutL.trans (congrArg _ cutL)))), k0, k1, k2, k3⟩
theorem agg_of {v : Value} {n : Nat} (h : v.cells.toList.length = n + 2) : ∃ cs : List Value, v = .agg cs.toArray ∧ v.cells.toList = cs := by
  cases v with
  | agg cs => exact ⟨cs.toList, by simp, rfl⟩
  | _ => simp [Value.cells] at h
theorem rep_prp {H : Type} {enc : TypeId × Value → H} {W : World} {sp : Nat → Bool} {v : Value} {d : DataW H} {ps : List MemPlace} (h : DataW.Trod enc Tryd.prog W 0 sp true 45 v d ps) : ∃ y : Prp, Rep U eT (fun _ => none) (fun b => b < W.heap.size) W v (.agg [.str y.Group, .str y.Name, .sl 59 y.Params, .str y.Value]) := by
  obtain ⟨n, h⟩ := h
  obtain ⟨y, k⟩ := opens_dPrp h
  have k := Rd.weak (D' := fun b => b < W.heap.size) _ k (fun _ _ hb => hb)
  obtain ⟨cs, e1, e2⟩ := agg_of (n := 2) (Rd.len _ k)
  rw [e2] at k
  exact ⟨y, by rw [e1]; exact y45.sv_ok k⟩
end Go.Proofs.YtadgfmmmdhlljaaDoor
end
