/- 1 texts, one behind the other. -/
import Derived.Test.YtadgfmmmdhlljaaGreatDoorJ4
import Derived.Test.YtadgfmmmdhlljaaGreatDoorRows
import Derived.ChangeSame
import Derived.Test.YtadgfmmmdhlljaaGreatDoorJ11
import Derived.ChangeVars
import Derived.JoinedOf
import Derived.RowKit
import GoSem.PinnedTables
import Derived.Test.YtadgfmmmdhlljaaGreatDoorJShelf
import Derived.RowKitTokens
import Derived.LaidLaws
import Derived.LaidHandle
import Derived.Lay
import Derived.LaidMore
import Derived.Lib.LaidU8
import Derived.Stop.Joined
set_option linter.unusedVariables false
set_option linter.unusedSimpArgs false
set_option maxRecDepth 100000
section
namespace Go.Proofs.YtadgfmmmdhlljaaGreatDoor
open Go Go.Wk Go.Wl Go.Rx Go.RowKit Go.Li Go.Co
def laidF : List (String × DataW Unit):=[("unicode/utf8.acceptRanges", Rows.laid_unicode_utf8_acceptRanges),("errors.errorType", Rows.laid_errors_errorType),("unicode/utf8.first", Rows.laid_unicode_utf8_first)]
theorem first_eq : Go.Pinned.utf8First = Lib.firstData:=by kernel_rfl
theorem accept_eq : (Rows.laid_unicode_utf8_acceptRanges : DataW Unit) = Lib.acceptData:=by kernel_rfl
theorem et0 : Tryz.prog.globalNamed "errors.errorType" = some 0:=by kernel_rfl
theorem rt0 : (Tryz.prog.cutTypes.find? (·.1 == "internal/reflectlite.rtype")).map (·.2) = some 116:=by kernel_rfl
theorem size0 : Tryz.prog.types.size = 198:=by kernel_rfl
theorem oneRow0 : ((List.range 198).filter fun t=>Tryz.prog.rowNamed t [101,114,114,111,114]) = [26]:=by kernel_rfl
theorem handle_of {W : World} (h : handlesMet Tryz.prog [("errors.errorType", Rows.laid_errors_errorType)] W) : W.cell? ⟨0,0,none⟩ = some errTypeV:=by
 obtain ⟨name,u,ty,e1,e2,e3,e4,e5⟩:=h _ (List.mem_singleton.2 rfl)
 have en : name = [101,114,114,111,114]:=(Option.some.inj e1).symm
 subst en
 obtain rfl:=Option.some.inj (rt0.symm.trans e2)
 have hm : ty ∈ (List.range 198).filter fun t=>Tryz.prog.rowNamed t [101,114,114,111,114]:=List.mem_filter.2 ⟨List.mem_range.2 (by rw [<- size0]; exact e3),e4⟩
 rw [oneRow0] at hm
 obtain rfl:=List.mem_singleton.1 hm
 have hh : typeHandle Tryz.prog 26 = .pointer (some ⟨4,26,none⟩):=by kernel_rfl
 rw [hh] at e5
 simpa [errTypeV] using World.var?_cell et0 e5 0
theorem gl_of_laid {W : World} (h : laidMetH Tryz.prog laidF W) : Gl.is (fun b=>b < W.heap.size) W:=by
 have h' : laidMet Tryz.prog [("unicode/utf8.acceptRanges", Rows.laid_unicode_utf8_acceptRanges),("unicode/utf8.first", Rows.laid_unicode_utf8_first)] W /\ handlesMet Tryz.prog [("errors.errorType", Rows.laid_errors_errorType)] W:=h
 have hc:=handle_of h'.2
 have r1:=Lib.laidMet.reads h'.1 (.head _)
 have r2:=Lib.laidMet.reads h'.1 (.tail _ (.head _))
 have ht : Lib.Utf8Tabs 1 2 W:=Proofs.utf8Tabs_of_reads Tryz.lays260 ⟨by kernel_rfl,by kernel_rfl,by kernel_rfl,by kernel_rfl,by kernel_rfl,by kernel_rfl,by kernel_rfl⟩ (by rw [<- first_eq]; exact r2) (by rw [<- accept_eq]; exact r1)
 have h2:=(ht.2 0 (by decide)).1
 have hs : 2 < W.heap.size:=by
  apply Classical.byContradiction
  intro hn
  unfold World.cell? at h2
  rw [Array.getElem?_eq_none (by show W.heap.size <= 2; omega)] at h2
  cases h2
 exact ⟨⟨by omega,by omega,by omega⟩,hs,ht,hc⟩
noncomputable def laidW (os : Os) : World :=
 let w0:=World.laidAll Tryz.prog os [("unicode/utf8.acceptRanges", Rows.laid_unicode_utf8_acceptRanges),("unicode/utf8.first", Rows.laid_unicode_utf8_first)]
 { w0 with heap:=w0.heap.modify 0 fun
   | .cells _ t frozen=>.cells #[errTypeV] t frozen
   | o=>o }
theorem laidW_met (os : Os) (args : Array Value) : laidMetH Tryz.prog laidF ((laidW os).forCall (fun _ _=>0) ⟨#[],args,[]⟩).memory :=
 laidMetH_of_parts (laidMet_of_run' 8 (by kernel_rfl) (by kernel_rfl)) (by kernel_rfl)
theorem laidW_shaped (os : Os) (args : Array Value) : ((laidW os).forCall (fun _ _=>0) ⟨#[],args,[]⟩).Shaped Tryz.prog:=World.shaped_of_ZipB (by kernel_rfl) (by kernel_rfl)
theorem laid0 : laidOutB Tryz.prog = true:=by kernel_rfl
theorem own0 : ownKnob Tryz.prog.godebug = none:=by kernel_rfl
theorem read0 {P : Program} {ts : List TypeId} (h : (ts.all fun t=>P.readableRec t && decide (t < P.types.size)) = true) : ∀ t ∈ ts,P.readableRec t = true /\ t < P.types.size:=fun t ht=>by
 have:=List.all_eq_true.1 h t ht
 rw [Bool.and_eq_true,decide_eq_true_eq] at this
 exact this
theorem bool_true {Z : Nat -> Prop} {W : World} {v : Value} (h : Rep U eT (fun _=>none) Z W v (blB true)) : v = .bool true:=by
 cases h with | bl=>rfl
end Go.Proofs.YtadgfmmmdhlljaaGreatDoor
end
