/- The statements' rows. -/
import Derived.Test.YtdgcgifigkfeaaaL
import Derived.Test.YtdgcgifigkfeaaaWlO
import Derived.RowKit2
import Derived.Carry
import Derived.ProofKit
namespace Go.Proofs.Ytdgcgifigkfeaaa
open Go Go.Wk Go.Wl Go.ChangeShapes Go.WideShapes Go.RowKit
theorem laid0 : laidOutB Try.prog = true := by kernel_rfl
theorem own0 : ownKnob Try.prog.godebug = none := by kernel_rfl
theorem read0 {P : Program} {ts : List TypeId} (h : (ts.all fun t => P.readableRec t && decide (t < P.types.size)) = true) : ∀ t ∈ ts, P.readableRec t = true ∧ t < P.types.size := fun t ht => by
  have := List.all_eq_true.1 h t ht
  rw [Bool.and_eq_true, decide_eq_true_eq] at this
  exact this
theorem opens_dAct : OpensD Try.prog 39 dAct := fun {H enc fuel w sp cs x} h => by
  obtain ⟨xs, n, _, _, hlen, hxl, hget⟩ := DataW.trod_struct Try.underlying39 h
  have hz : Try.prog.cellsOf 39 = 5 := by kernel_rfl
  rw [hz] at hlen
  have z3 : Try.prog.cellsOf 3 = 1 := by kernel_rfl
  have z5 : Try.prog.cellsOf 5 = 1 := by kernel_rfl
  have z37 : Try.prog.cellsOf 37 = 1 := by kernel_rfl
  have g0 : DataW.trod enc Try.prog w 0 sp true n 3 ((cs.drop 0).take (Try.prog.cellsOf 3)) = xs[0]? := hget 0 _ rfl
  rw [List.getElem?_eq_getElem (by rw [hxl]; decide), z3] at g0
  obtain ⟨y0, k0⟩ := (opensD_int Try.underlying3) g0
  have g1 : DataW.trod enc Try.prog w 0 sp true n 3 ((cs.drop 1).take (Try.prog.cellsOf 3)) = xs[1]? := hget 1 _ rfl
  rw [List.getElem?_eq_getElem (by rw [hxl]; decide), z3] at g1
  obtain ⟨y1, k1⟩ := (opensD_int Try.underlying3) g1
  have g2 : DataW.trod enc Try.prog w 0 sp true n 3 ((cs.drop 2).take (Try.prog.cellsOf 3)) = xs[2]? := hget 2 _ rfl
  rw [List.getElem?_eq_getElem (by rw [hxl]; decide), z3] at g2
  obtain ⟨y2, k2⟩ := (opensD_int Try.underlying3) g2
  have g3 : DataW.trod enc Try.prog w 0 sp true n 5 ((cs.drop 3).take (Try.prog.cellsOf 5)) = xs[3]? := hget 3 _ rfl
  rw [List.getElem?_eq_getElem (by rw [hxl]; decide), z5] at g3
  obtain ⟨y3, k3⟩ := (opensD_byte Try.underlying5) g3
  have g4 : DataW.trod enc Try.prog w 0 sp true n 37 ((cs.drop 4).take (Try.prog.cellsOf 37)) = xs[4]? := hget 4 _ rfl
  rw [List.getElem?_eq_getElem (by rw [hxl]; decide), z37] at g4
  obtain ⟨y4, k4⟩ := (opensD_slice Try.underlying37 (by kernel_rfl) (by decide) (opensD_int Try.underlying3)) g4
  have q : cs = (cs.drop 0).take (1 + (1 + (1 + (1 + (1))))) := wholeL hlen
  exact ⟨⟨y0, y1, y2, y3, y4⟩, _, _, _, _, _, q.trans (cutL.trans (congrArg _ (cutL.trans (congrArg _ (cutL.trans (congrArg _ cutL)))))), k0, k1, k2, k3, k4⟩
end Go.Proofs.Ytdgcgifigkfeaaa
