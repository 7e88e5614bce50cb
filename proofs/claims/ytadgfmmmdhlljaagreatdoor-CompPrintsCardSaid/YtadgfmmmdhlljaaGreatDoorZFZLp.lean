/- A statement and its own function. -/
import Derived.Test.YtadgfmmmdhlljaaGreatDoorP11
import Derived.Test.YtadgfmmmdhlljaaGreatDoorP10
set_option linter.unusedVariables false
set_option linter.unusedSimpArgs false
set_option maxRecDepth 100000
namespace Go.Proofs.YtadgfmmmdhlljaaGreatDoor
open Go Go.Wk Go.Wl Go.Rx Go.Fo Go.Li Go.Co 
def anZLp : Nat -> Ann:=fun | 4=>⟨40,fun _=>none,fun  | _=>none⟩ | _=>⟨0,fun _=>none,fun _=>none⟩
def VZLp (l : List Comp) (Q : Bool -> Prop) : Prop :=
(¬decide (wgt fewP (11 : Nat) l <= 8000) = true -> Q (decide (true = true))) /\ (¬¬decide (wgt fewP (11 : Nat) l <= 8000) = true -> (∀ (x : Comp),x ∈ l -> OkT x) /\ rowL l <= 1000000 /\ (∀ (x : Comp),x ∈ l -> OkT x) /\ rowL l <= 1000000 /\ ((printC l).fst = (printC l).fst /\ (printE l).nr = (printC l).snd -> rowL l <= 1000000000) /\ ((printC l).fst = (printC l).fst /\ (printE l).nr = (printC l).snd -> rowL l <= 1000000000) /\ Q (decide ((((printC l).fst = (printC l).fst /\ (printE l).nr = (printC l).snd) /\ rowL l = rowL l) /\ true = true)))
theorem VZLp_ok {l : List Comp} {Q : Bool -> Prop} (h : VZLp l Q) : vcFun (E:=NZP) (inlGN NZP (GfZT) noM anZLp 2) (anZLp 4) Tryz.f4 [.sl (N:=U) 40 l] [] [] 0 (resP NZP [.bool] Q):=Eq.mp (show VZLp l Q = vcFun (E:=NZP) (inlGN NZP (GfZT) noM anZLp 2) (anZLp 4) Tryz.f4 [.sl (N:=U) 40 l] [] [] 0 (resP NZP [.bool] Q) by kernel_rfl) h
theorem pZLp (l : List Comp)  : VZLp l (fun y0=>y0 = true):=by
 unfold VZLp
 refine ⟨fun _=>decide_eq_true rfl,fun h=>?_⟩
 have hw : wgt fewP 11 l <= 8000:=of_decide_eq_true (Classical.not_not.1 h)
 obtain ⟨_,hf⟩:=wgt_few 11 l hw
 have ho : ∀ x ∈ l,OkT x:=fun x hx=>(hf x hx).okT fun _=>few_small
 have hr:=wgt_row (few:=fewP) 11 l (by omega)
 exact ⟨ho,by omega,ho,by omega,fun _=>by omega,fun _=>by omega,decide_eq_true ⟨⟨⟨rfl,printE_nr l⟩,rfl⟩,rfl⟩⟩
def cZLp (a : List (SV U)) : Option (Q1 U):=match a with | [.sl 40 l]=>some ⟨[],[],blB true⟩ | _=>none
theorem cZLp_ok (args : List (SV U)) (q : Q1 U) (h : cZLp args = some q) (ho : allP q.ob) : LendOK NZP 4 args ⟨q.ob,q.hy,q.v,[]⟩:=by
 unfold cZLp at h
 split at h
 . rename_i l
   cases h
   exact lend1 NZP_ok (inlGN_ok NZP_ok GfZT_ok noM_ok anZLp 2) Tryz.func4 (k:=.bool) (x:=true) trivial (VZLp_ok (pZLp l )) 0
 . cases h
end Go.Proofs.YtadgfmmmdhlljaaGreatDoor
