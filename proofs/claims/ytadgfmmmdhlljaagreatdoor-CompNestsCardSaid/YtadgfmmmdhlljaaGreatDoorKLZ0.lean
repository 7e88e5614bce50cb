/- 1 texts, one behind the other. -/
import Derived.Test.YtadgfmmmdhlljaaGreatDoorK4
import Derived.Test.YtadgfmmmdhlljaaGreatDoorRows
import Derived.ChangeSame
import Derived.Test.YtadgfmmmdhlljaaGreatDoorK11
import Derived.ChangeVars
import Derived.JoinedOf
import Derived.RowKit
import GoSem.PinnedTables
import Derived.Test.YtadgfmmmdhlljaaGreatDoorKShelf
import Derived.RowKitTokens
import Derived.LaidLaws
import Derived.LaidHandle
import Derived.Lay
import Derived.LaidMore
import Derived.Lib.LaidU8
import Derived.Stop.Joined
set_option linter.unusedVariables false
set_option linter.unusedSimpArgs false
set_option maxRecDepth 100000
section
namespace Go.Proofs.YtadgfmmmdhlljaaGreatDoor
open Go Go.Wk Go.Wl Go.Rx Go.RowKit Go.Li Go.Co
def laidF : List (String × DataW Unit):=[("unicode/utf8.acceptRanges", Rows.laid_unicode_utf8_acceptRanges),("errors.errorType", Rows.laid_errors_errorType),("unicode/utf8.first", Rows.laid_unicode_utf8_first)]
theorem first_eq : Go.Pinned.utf8First = Lib.firstData:=by kernel_rfl
theorem accept_eq : (Rows.laid_unicode_utf8_acceptRanges : DataW Unit) = Lib.acceptData:=by kernel_rfl
theorem et0 : Tryz.prog.globalNamed "errors.errorType" = some 0:=by kernel_rfl
theorem rt0 : (Tryz.prog.cutTypes.find? (·.1 == "internal/reflectlite.rtype")).map (·.2) = some 116:=by kernel_rfl
theorem size0 : Tryz.prog.types.size = 198:=by kernel_rfl
theorem oneRow0 : ((List.range 198).filter fun t=>Tryz.prog.rowNamed t [101,114,114,111,114]) = [26]:=by kernel_rfl
theorem handle_of {W : World} (h : handlesMet Tryz.prog [("errors.errorType", Rows.laid_errors_errorType)] W) : W.cell? ⟨0,0,none⟩ = some errTypeV:=by
 obtain ⟨name,u,ty,e1,e2,e3,e4,e5⟩:=h _ (List.mem_singleton.2 rfl)
 have en : name = [101,114,114,111,114]:=(Option.some.inj e1).symm
 subst en
 obtain rfl:=Option.some.inj (rt0.symm.trans e2)
 have hm : ty ∈ (List.range 198).filter fun t=>Tryz.prog.rowNamed t [101,114,114,111,114]:=List.mem_filter.2 ⟨List.mem_range.2 (by rw [<- size0]; exact e3),e4⟩
 rw [oneRow0] at hm
 obtain rfl:=List.mem_singleton.1 hm
 have hh : typeHandle Tryz.prog 26 = .pointer (some ⟨4,26,none⟩):=by kernel_rfl
 rw [hh] at e5
 simpa [errTypeV] using World.var?_cell et0 e5 0
theorem gl_of_laid {W : World} (h : laidMetH Tryz.prog laidF W) : Gl.is (fun b=>b < W.heap.size) W:=by
 have h' : laidMet Tryz.prog [("unicode/utf8.acceptRanges", Rows.laid_unicode_utf8_acceptRanges),("unicode/utf8.first", Rows.laid_unicode_utf8_first)] W /\ handlesMet Tryz.prog [("errors.errorType", Rows.laid_errors_errorType)] W:=h
 have hc:=handle_of h'.2
 have r1:=Lib.laidMet.reads h'.1 (.head _)
 have r2:=Lib.laidMet.reads h'.1 (.tail _ (.head _))
 have ht : Lib.Utf8Tabs 1 2 W:=Proofs.utf8Tabs_of_reads Tryz.lays260 ⟨by kernel_rfl,by kernel_rfl,by kernel_rfl,by kernel_rfl,by kernel_rfl,by kernel_rfl,by kernel_rfl⟩ (by rw [<- first_eq]; exact r2) (by rw [<- accept_eq]; exact r1)
 have h2:=(ht.2 0 (by decide)).1
 have hs : 2 < W.heap.size:=by
  apply Classical.byContradiction
  intro hn
  unfold World.cell? at h2
  rw [Array.getElem?_eq_none (by show W.heap.size <= 2; omega)] at h2
  cases h2
 exact ⟨⟨by omega,by omega,by omega⟩,hs,ht,hc⟩
noncomputable def laidW (os : Os) : World :=
 let w0:=World.laidAll Tryz.prog os [("unicode/utf8.acceptRanges", Rows.laid_unicode_utf8_acceptRanges),("unicode/utf8.first", Rows.laid_unicode_utf8_first)]
 { w0 with heap:=w0.heap.modify 0 fun
   | .cells _ t frozen=>.cells #[errTypeV] t frozen
   | o=>o }
theorem laidW_met (os : Os) (args : Array Value) : laidMetH Tryz.prog laidF ((laidW os).forCall (fun _ _=>0) ⟨#[],args,[]⟩).memory :=
 laidMetH_of_parts (laidMet_of_run' 8 (by kernel_rfl) (by kernel_rfl)) (by kernel_rfl)
theorem laidW_shaped (os : Os) (args : Array Value) : ((laidW os).forCall (fun _ _=>0) ⟨#[],args,[]⟩).Shaped Tryz.prog:=World.shaped_of_ZipB (by kernel_rfl) (by kernel_rfl)
theorem laid0 : laidOutB Tryz.prog = true:=by kernel_rfl
theorem own0 : ownKnob Tryz.prog.godebug = none:=by kernel_rfl
theorem read0 {P : Program} {ts : List TypeId} (h : (ts.all fun t=>P.readableRec t && decide (t < P.types.size)) = true) : ∀ t ∈ ts,P.readableRec t = true /\ t < P.types.size:=fun t ht=>by
 have:=List.all_eq_true.1 h t ht
 rw [Bool.and_eq_true,decide_eq_true_eq] at this
 exact this
theorem bool_true {Z : Nat -> Prop} {W : World} {v : Value} (h : Rep U eT (fun _=>none) Z W v (blB true)) : v = .bool true:=by
 cases h with | bl=>rfl
theorem opens_dParam : OpensD Tryz.prog 110 dParam:=fun {H enc fuel w sp cs x} h=>by
 obtain ⟨xs,n,_,_,hlen,hxl,hget⟩:=DataW.trod_struct Tryz.underlying110 h
 have hz : Tryz.prog.cellsOf 110 = 2:=by kernel_rfl
 rw [hz] at hlen
 have z9 : Tryz.prog.cellsOf 9 = 1:=by kernel_rfl
 have z44 : Tryz.prog.cellsOf 44 = 1:=by kernel_rfl
 have g0 : DataW.trod enc Tryz.prog w 0 sp true n 9 ((cs.drop 0).take (Tryz.prog.cellsOf 9)) = xs[0]? := hget 0 _ rfl
 rw [List.getElem?_eq_getElem (by rw [hxl]; decide),z9] at g0
 obtain ⟨y0,k0⟩:=(opensD_str Tryz.underlying9) g0
 have g1 : DataW.trod enc Tryz.prog w 0 sp true n 44 ((cs.drop 1).take (Tryz.prog.cellsOf 44)) = xs[1]? := hget 1 _ rfl
 rw [List.getElem?_eq_getElem (by rw [hxl]; decide),z44] at g1
 obtain ⟨y1,k1⟩:=(opensD_slice Tryz.underlying44 (by kernel_rfl) (by decide) (opensD_str Tryz.underlying9)) g1
 have q : cs = (cs.drop 0).take (1 + (1)):=wholeL hlen
 exact ⟨⟨y0,y1⟩,_,_,q.trans cutL,k0,k1⟩
theorem opens_dPrp : OpensD Tryz.prog 58 dPrp:=fun {H enc fuel w sp cs x} h=>by
 obtain ⟨xs,n,_,_,hlen,hxl,hget⟩:=DataW.trod_struct Tryz.underlying58 h
 have hz : Tryz.prog.cellsOf 58 = 4:=by kernel_rfl
 rw [hz] at hlen
 have z9 : Tryz.prog.cellsOf 9 = 1:=by kernel_rfl
 have z56 : Tryz.prog.cellsOf 56 = 1:=by kernel_rfl
 have g0 : DataW.trod enc Tryz.prog w 0 sp true n 9 ((cs.drop 0).take (Tryz.prog.cellsOf 9)) = xs[0]? := hget 0 _ rfl
 rw [List.getElem?_eq_getElem (by rw [hxl]; decide),z9] at g0
 obtain ⟨y0,k0⟩:=(opensD_str Tryz.underlying9) g0
 have g1 : DataW.trod enc Tryz.prog w 0 sp true n 9 ((cs.drop 1).take (Tryz.prog.cellsOf 9)) = xs[1]? := hget 1 _ rfl
 rw [List.getElem?_eq_getElem (by rw [hxl]; decide),z9] at g1
 obtain ⟨y1,k1⟩:=(opensD_str Tryz.underlying9) g1
 have g2 : DataW.trod enc Tryz.prog w 0 sp true n 56 ((cs.drop 2).take (Tryz.prog.cellsOf 56)) = xs[2]? := hget 2 _ rfl
 rw [List.getElem?_eq_getElem (by rw [hxl]; decide),z56] at g2
 obtain ⟨y2,k2⟩:=(opensD_slice Tryz.underlying56 (by kernel_rfl) (by decide) opens_dParam) g2
 have g3 : DataW.trod enc Tryz.prog w 0 sp true n 9 ((cs.drop 3).take (Tryz.prog.cellsOf 9)) = xs[3]? := hget 3 _ rfl
 rw [List.getElem?_eq_getElem (by rw [hxl]; decide),z9] at g3
 obtain ⟨y3,k3⟩:=(opensD_str Tryz.underlying9) g3
 have q : cs = (cs.drop 0).take (1 + (1 + (1 + (1)))):=wholeL hlen
 exact ⟨⟨y0,y1,y2,y3⟩,_,_,_,_,q.trans (cutL.trans (congrArg _ (cutL.trans (congrArg _ cutL)))),k0,k1,k2,k3⟩
theorem opens_dComp : OpensD Tryz.prog 40 (dComp dPrp) :=
 opensD_comp (tn:=9) (tp:=38) (tc:=22) Tryz.underlying40 (by kernel_rfl) (by kernel_rfl) (by kernel_rfl) (by kernel_rfl) (by kernel_rfl) Tryz.underlying9 (opensD_slice Tryz.underlying38 (by kernel_rfl) (by decide) opens_dPrp) Tryz.underlying22
theorem agg_of {v : Value} {n : Nat} (h : v.cells.toList.length = n + 2) : ∃ cs : List Value,v = .agg cs.toArray /\ v.cells.toList = cs:=by
 cases v with
 | agg cs=>exact ⟨cs.toList,by simp,rfl⟩
 | _=>simp [Value.cells] at h
theorem rep_comp {H : Type} {enc : TypeId × Value -> H} {W : World} {sp : Nat -> Bool} {v : Value} {d : DataW H} {ps : List MemPlace} (h : DataW.Trod enc Tryz.prog W 0 sp true 40 v d ps) : ∃ y : Comp,Rep U eT (fun _=>none) (fun b=>b < W.heap.size) W v (.agg [.str y.Name,.sl 58 y.Props,.sl 40 y.Comps]):=by
 obtain ⟨n,h⟩:=h
 obtain ⟨y,k⟩:=opens_dComp h
 have k:=Rd.weak (D':=fun b=>b < W.heap.size) _ k (fun _ _ hb=>hb)
 obtain ⟨cs,e1,e2⟩:=agg_of (n:=1) (Rd.len _ k)
 rw [e2] at k
 exact ⟨y,by rw [e1]; exact y40.sv_ok k⟩
end Go.Proofs.YtadgfmmmdhlljaaGreatDoor
end
