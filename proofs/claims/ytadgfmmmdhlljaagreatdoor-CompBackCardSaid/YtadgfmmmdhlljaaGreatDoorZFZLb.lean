/- A statement and its own function. -/
import Derived.Test.YtadgfmmmdhlljaaGreatDoorQ11
import Derived.Test.YtadgfmmmdhlljaaGreatDoorQ10
set_option linter.unusedVariables false
set_option linter.unusedSimpArgs false
set_option maxRecDepth 100000
namespace Go.Proofs.YtadgfmmmdhlljaaGreatDoor
open Go Go.Wk Go.Wl Go.Rx Go.Fo Go.Li Go.Co 
def anZLb : Nat -> Ann:=fun | 3=>⟨40,fun _=>none,fun  | _=>none⟩ | _=>⟨0,fun _=>none,fun _=>none⟩
def VZLb (l : List Comp) (Q : Bool -> Prop) : Prop :=
(¬decide (wgt fewP (11 : Nat) l <= 8000) = true -> Q (decide (true = true))) /\ (¬¬decide (wgt fewP (11 : Nat) l <= 8000) = true -> (∀ (x : Comp),x ∈ l -> OkT x) /\ rowL l <= 1000000 /\ ((printE l).nr ≠ 0 -> Q (decide ((printC l).fst = [] /\ true = true))) /\ (¬(printE l).nr ≠ 0 -> List.length (printC l).fst <= 30000000 /\ ((cE (compS (printC l).fst)).nr = 0 -> l.length <= 100000000) /\ ((cE (compS (printC l).fst)).nr = 0 -> ∀ (x : Comp),x ∈ l -> OkC x) /\ Q (decide (((cE (compS (printC l).fst)).nr = 0 /\ sameC l (cR (compS (printC l).fst)).fst = true) /\ true = true))))
theorem VZLb_ok {l : List Comp} {Q : Bool -> Prop} (h : VZLb l Q) : vcFun (E:=NZP) (inlGN NZP (GfZT) noM anZLb 2) (anZLb 3) Tryz.f3 [.sl (N:=U) 40 l] [] [] 0 (resP NZP [.bool] Q):=Eq.mp (show VZLb l Q = vcFun (E:=NZP) (inlGN NZP (GfZT) noM anZLb 2) (anZLb 3) Tryz.f3 [.sl (N:=U) 40 l] [] [] 0 (resP NZP [.bool] Q) by kernel_rfl) h
theorem pZLb (l : List Comp)  : VZLb l (fun y0=>y0 = true):=by
 unfold VZLb
 refine ⟨fun _=>decide_eq_true rfl,fun h=>?_⟩
 have hw : wgt fewP 11 l <= 8000:=of_decide_eq_true (Classical.not_not.1 h)
 obtain ⟨hll,hf⟩:=wgt_few 11 l hw
 have ho : ∀ x ∈ l,OkT x:=fun x hx=>(hf x hx).okT fun _=>few_small
 have hk : ∀ x ∈ l,OkC x:=fun x hx=>(hf x hx).okC fun _=>few_okP
 have hr:=wgt_row (few:=fewP) 11 l (by omega)
 rw [printE_nr]
 refine ⟨ho,by omega,fun hn=>decide_eq_true ⟨print_nz hn,rfl⟩,fun hn=>?_⟩
 obtain ⟨hm,hd,hrr,e⟩:=print_zero (Classical.not_not.1 hn)
 have hp:=parse_print hm hd hrr
 rw [e]
 refine ⟨print_len hm hrr,fun _=>by omega,fun _=>hk,?_⟩
 rw [hp]
 exact decide_eq_true ⟨⟨rfl,sameC_iff.2 rfl⟩,rfl⟩
def cZLb (a : List (SV U)) : Option (Q1 U):=match a with | [.sl 40 l]=>some ⟨[],[],blB true⟩ | _=>none
theorem cZLb_ok (args : List (SV U)) (q : Q1 U) (h : cZLb args = some q) (ho : allP q.ob) : LendOK NZP 3 args ⟨q.ob,q.hy,q.v,[]⟩:=by
 unfold cZLb at h
 split at h
 . rename_i l
   cases h
   exact lend1 NZP_ok (inlGN_ok NZP_ok GfZT_ok noM_ok anZLb 2) Tryz.func3 (k:=.bool) (x:=true) trivial (VZLb_ok (pZLb l )) 0
 . cases h
end Go.Proofs.YtadgfmmmdhlljaaGreatDoor
