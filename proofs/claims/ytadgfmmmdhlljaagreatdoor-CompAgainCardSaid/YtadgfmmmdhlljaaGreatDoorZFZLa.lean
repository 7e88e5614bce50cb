/- A statement and its own function. -/
import Derived.Test.YtadgfmmmdhlljaaGreatDoorJ11
import Derived.Test.YtadgfmmmdhlljaaGreatDoorJ10
set_option linter.unusedVariables false
set_option linter.unusedSimpArgs false
set_option maxRecDepth 100000
namespace Go.Proofs.YtadgfmmmdhlljaaGreatDoor
open Go Go.Wk Go.Wl Go.Rx Go.Fo Go.Li Go.Co 
def anZLa : Nat -> Ann:=fun | 5=>⟨85,fun _=>none,fun  | _=>none⟩ | _=>⟨0,fun _=>none,fun _=>none⟩
def VZLa (s : Str) (Q : Bool -> Prop) : Prop :=
((8000 : Int) < (↑(List.length s) : Int) -> Q (decide (true = true))) /\ (¬(8000 : Int) < (↑(List.length s) : Int) -> List.length s <= 30000000 /\ ((cE (compS s)).nr ≠ 0 -> Q (decide (((↑(cR (compS s)).fst.length : Int) = 0 /\ (1 : Int) <= (cE (compS s)).at_) /\ true = true))) /\ (¬(cE (compS s)).nr ≠ 0 -> (∀ (x : Comp),x ∈ (cR (compS s)).fst -> OkT x) /\ rowL (cR (compS s)).fst <= 1000000 /\ ((printE (cR (compS s)).fst).nr = 2 -> Q (decide ((2500 : Int) < (↑(List.length s) : Int) /\ true = true))) /\ (¬(printE (cR (compS s)).fst).nr = 2 -> List.length (printC (cR (compS s)).fst).fst <= 30000000 /\ (∀ (x : Comp),x ∈ (cR (compS (printC (cR (compS s)).fst).fst)).fst -> OkT x) /\ rowL (cR (compS (printC (cR (compS s)).fst).fst)).fst <= 1000000 /\ in64 ((printE (cR (compS s)).fst).nr + (cE (compS (printC (cR (compS s)).fst).fst)).nr) /\ in64 ((printE (cR (compS s)).fst).nr + (cE (compS (printC (cR (compS s)).fst).fst)).nr + (printE (cR (compS (printC (cR (compS s)).fst).fst)).fst).nr) /\ ((printE (cR (compS s)).fst).nr + (cE (compS (printC (cR (compS s)).fst).fst)).nr + (printE (cR (compS (printC (cR (compS s)).fst).fst)).fst).nr = 0 -> (cR (compS s)).fst.length <= 100000000) /\ ((printE (cR (compS s)).fst).nr + (cE (compS (printC (cR (compS s)).fst).fst)).nr + (printE (cR (compS (printC (cR (compS s)).fst).fst)).fst).nr = 0 -> ∀ (x : Comp),x ∈ (cR (compS s)).fst -> OkC x) /\ (((printE (cR (compS s)).fst).nr + (cE (compS (printC (cR (compS s)).fst).fst)).nr + (printE (cR (compS (printC (cR (compS s)).fst).fst)).fst).nr = 0 /\ sameC (cR (compS s)).fst (cR (compS (printC (cR (compS s)).fst).fst)).fst = true) /\ (printC (cR (compS s)).fst).fst = (printC (cR (compS (printC (cR (compS s)).fst).fst)).fst).fst -> rowL (cR (compS s)).fst <= 1000000000) /\ Q (decide (((((printE (cR (compS s)).fst).nr + (cE (compS (printC (cR (compS s)).fst).fst)).nr + (printE (cR (compS (printC (cR (compS s)).fst).fst)).fst).nr = 0 /\ sameC (cR (compS s)).fst (cR (compS (printC (cR (compS s)).fst).fst)).fst = true) /\ (printC (cR (compS s)).fst).fst = (printC (cR (compS (printC (cR (compS s)).fst).fst)).fst).fst) /\ rowL (cR (compS s)).fst <= 1000) /\ true = true)))))
theorem VZLa_ok {s : Str} {Q : Bool -> Prop} (h : VZLa s Q) : vcFun (E:=NZP) (inlGN NZP (GfZT) noM anZLa 2) (anZLa 5) Tryz.f5 [.str s] [] [] 0 (resP NZP [.bool] Q):=Eq.mp (show VZLa s Q = vcFun (E:=NZP) (inlGN NZP (GfZT) noM anZLa 2) (anZLa 5) Tryz.f5 [.str s] [] [] 0 (resP NZP [.bool] Q) by kernel_rfl) h
theorem pZLa (s : Str)  : VZLa s (fun y0=>y0 = true):=by
 unfold VZLa
 refine ⟨fun _=>decide_eq_true rfl,fun hs=>⟨by omega,?_⟩⟩
 have ⟨g1,g2⟩:=comp_nr s
 have hoc:=comp_okC s
 cases hc : compS s with
 | error e =>
  rw [hc] at g1 g2
  have h1:=(comp_num hc).1
  have h2:=comp_at hc
  have g1 : (cE (.error e)).nr = e.1:=g1
  have g2 : (cE (.error e)).at_ = e.2:=g2
  exact ⟨fun _=>decide_eq_true ⟨⟨rfl,by rw [g2]; exact h2⟩,rfl⟩,fun hn=>absurd (by rw [g1]; omega) hn⟩
 | ok l =>
  rw [hc] at hoc
  have ho:=comp_okT hc
  obtain ⟨_,hr,_,_⟩:=parse_right_all hc
  refine ⟨fun hn=>absurd rfl hn,fun _=>?_⟩
  have ec : (cR (.ok l : Except (Int × Int) (List Comp))).1 = l:=rfl
  rw [ec]
  rcases again hc with ⟨a2,a3,_⟩ | ⟨a0,a4,a5⟩
  . exact ⟨ho,by omega,fun _=>decide_eq_true ⟨by omega,rfl⟩,fun h=>absurd (by rw [printE_nr]; exact a2) h⟩
  . refine ⟨ho,by omega,fun h=>absurd h (by rw [printE_nr,a0]; decide),fun _=>⟨a4,?_⟩⟩
    have a0' : (printE l).nr = 0:=by rw [printE_nr]; exact a0
    rw [a5,ec,a0',show (cE (.ok l : Except (Int × Int) (List Comp))).nr = 0 from rfl]
    exact ⟨ho,by omega,⟨by decide,by decide⟩,⟨by decide,by decide⟩,fun _=>by have : l.length <= 1000:=hoc.1; show l.length <= 100000000; omega,fun _=>hoc.2,fun _=>show rowL l <= 1000000000 by omega,decide_eq_true ⟨⟨⟨⟨rfl,sameC_iff.2 rfl⟩,rfl⟩,show rowL l <= 1000 by omega⟩,rfl⟩⟩
def cZLa (a : List (SV U)) : Option (Q1 U):=match a with | [.str s]=>some ⟨[],[],blB true⟩ | _=>none
theorem cZLa_ok (args : List (SV U)) (q : Q1 U) (h : cZLa args = some q) (ho : allP q.ob) : LendOK NZP 5 args ⟨q.ob,q.hy,q.v,[]⟩:=by
 unfold cZLa at h
 split at h
 . rename_i s
   cases h
   exact lend1 NZP_ok (inlGN_ok NZP_ok GfZT_ok noM_ok anZLa 2) Tryz.func5 (k:=.bool) (x:=true) trivial (VZLa_ok (pZLa s )) 0
 . cases h
end Go.Proofs.YtadgfmmmdhlljaaGreatDoor
