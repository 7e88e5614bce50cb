/- A statement and its own function. -/
import Derived.Test.YtadgfmmmdhlljaaGreatDoorK11
import Derived.Test.YtadgfmmmdhlljaaGreatDoorK10
set_option linter.unusedVariables false
set_option linter.unusedSimpArgs false
set_option maxRecDepth 100000
namespace Go.Proofs.YtadgfmmmdhlljaaGreatDoor
open Go Go.Wk Go.Wl Go.Rx Go.Fo Go.Li Go.Co 
def anZLn : Nat -> Ann:=fun | 6=>⟨127,fun _=>none,fun  | _=>none⟩ | _=>⟨0,fun _=>none,fun _=>none⟩
def qZLn0 (a : Comp) (b : Comp):=compS (printC [Comp.mk ([88] : List UInt8) [] [Comp.mk a.Name a.Props a.Comps,Comp.mk b.Name b.Props b.Comps]]).fst
def qZLn1 (a : Comp) (b : Comp):=printE [Comp.mk ([88] : List UInt8) [] [Comp.mk a.Name a.Props a.Comps,Comp.mk b.Name b.Props b.Comps]]
def VZLn (a : Comp) (b : Comp) (Q : Bool -> Prop) : Prop :=
(¬decide (wgt fewP (11 : Nat) [Comp.mk a.Name a.Props a.Comps,Comp.mk b.Name b.Props b.Comps] <= 8000) = true -> Q (decide (true = true))) /\ (¬¬decide (wgt fewP (11 : Nat) [Comp.mk a.Name a.Props a.Comps,Comp.mk b.Name b.Props b.Comps] <= 8000) = true -> rowL [Comp.mk a.Name a.Props a.Comps,Comp.mk b.Name b.Props b.Comps] <= 1000000000 /\ ((900 : Int) < rowL [Comp.mk a.Name a.Props a.Comps,Comp.mk b.Name b.Props b.Comps] -> Q (decide (true = true))) /\ (¬(900 : Int) < rowL [Comp.mk a.Name a.Props a.Comps,Comp.mk b.Name b.Props b.Comps] -> (∀ (x : Comp),x ∈ [Comp.mk a.Name a.Props a.Comps] -> OkT x) /\ rowL [Comp.mk a.Name a.Props a.Comps] <= 1000000 /\ (∀ (x : Comp),x ∈ [Comp.mk b.Name b.Props b.Comps] -> OkT x) /\ rowL [Comp.mk b.Name b.Props b.Comps] <= 1000000 /\ (∀ (x : Comp),x ∈ [Comp.mk a.Name a.Props a.Comps,Comp.mk b.Name b.Props b.Comps] -> OkT x) /\ rowL [Comp.mk a.Name a.Props a.Comps,Comp.mk b.Name b.Props b.Comps] <= 1000000 /\ in64 ((printE [Comp.mk a.Name a.Props a.Comps]).nr + (printE [Comp.mk b.Name b.Props b.Comps]).nr) /\ ((printE [Comp.mk a.Name a.Props a.Comps]).nr + (printE [Comp.mk b.Name b.Props b.Comps]).nr ≠ 0 -> Q (decide ((printE [Comp.mk a.Name a.Props a.Comps,Comp.mk b.Name b.Props b.Comps]).nr ≠ 0 /\ true = true))) /\ (¬(printE [Comp.mk a.Name a.Props a.Comps]).nr + (printE [Comp.mk b.Name b.Props b.Comps]).nr ≠ 0 -> (¬(printE [Comp.mk a.Name a.Props a.Comps,Comp.mk b.Name b.Props b.Comps]).nr ≠ 0 -> List.length (printC [Comp.mk a.Name a.Props a.Comps]).fst + List.length (printC [Comp.mk b.Name b.Props b.Comps]).fst <= 9223372036854775807) /\ ((printE [Comp.mk a.Name a.Props a.Comps,Comp.mk b.Name b.Props b.Comps]).nr ≠ 0 ∨ (printC [Comp.mk a.Name a.Props a.Comps,Comp.mk b.Name b.Props b.Comps]).fst ≠ (printC [Comp.mk a.Name a.Props a.Comps]).fst ++ (printC [Comp.mk b.Name b.Props b.Comps]).fst -> Q false) /\ (¬((printE [Comp.mk a.Name a.Props a.Comps,Comp.mk b.Name b.Props b.Comps]).nr ≠ 0 ∨ (printC [Comp.mk a.Name a.Props a.Comps,Comp.mk b.Name b.Props b.Comps]).fst ≠ (printC [Comp.mk a.Name a.Props a.Comps]).fst ++ (printC [Comp.mk b.Name b.Props b.Comps]).fst) -> (∀ (x : Comp),x ∈ [Comp.mk ([88] : List UInt8) [] [Comp.mk a.Name a.Props a.Comps,Comp.mk b.Name b.Props b.Comps]] -> OkT x) /\ rowL [Comp.mk ([88] : List UInt8) [] [Comp.mk a.Name a.Props a.Comps,Comp.mk b.Name b.Props b.Comps]] <= 1000000 /\ ((qZLn1 a b).nr = 12 -> rowL [Comp.mk a.Name a.Props a.Comps,Comp.mk b.Name b.Props b.Comps] <= 1000000000 /\ Q (decide ((6 : Int) <= depL [Comp.mk a.Name a.Props a.Comps,Comp.mk b.Name b.Props b.Comps] /\ true = true))) /\ (¬(qZLn1 a b).nr = 12 -> List.length (printC [Comp.mk ([88] : List UInt8) [] [Comp.mk a.Name a.Props a.Comps,Comp.mk b.Name b.Props b.Comps]]).fst <= 30000000 /\ in64 ((qZLn1 a b).nr + (cE (qZLn0 a b)).nr) /\ (((qZLn1 a b).nr + (cE (qZLn0 a b)).nr = 0 /\ (↑(cR (qZLn0 a b)).fst.length : Int) = 1 -> (0 : Int) <= 0) /\ ((qZLn1 a b).nr + (cE (qZLn0 a b)).nr = 0 /\ (↑(cR (qZLn0 a b)).fst.length : Int) = 1 -> (0 : Int) < (↑(cR (qZLn0 a b)).fst.length : Int))) /\ ((qZLn1 a b).nr + (cE (qZLn0 a b)).nr = 0 /\ (↑(cR (qZLn0 a b)).fst.length : Int) = 1) /\ (((qZLn1 a b).nr + (cE (qZLn0 a b)).nr = 0 /\ (↑(cR (qZLn0 a b)).fst.length : Int) = 1 -> (ix (cR (qZLn0 a b)).fst (0 : Int)).Comps.length <= 100000000) /\ ((qZLn1 a b).nr + (cE (qZLn0 a b)).nr = 0 /\ (↑(cR (qZLn0 a b)).fst.length : Int) = 1 -> ∀ (x : Comp),x ∈ (ix (cR (qZLn0 a b)).fst (0 : Int)).Comps -> OkC x)) /\ (((qZLn1 a b).nr + (cE (qZLn0 a b)).nr = 0 /\ (↑(cR (qZLn0 a b)).fst.length : Int) = 1) /\ sameC (ix (cR (qZLn0 a b)).fst (0 : Int)).Comps [Comp.mk a.Name a.Props a.Comps,Comp.mk b.Name b.Props b.Comps] = true -> ([66,69,71,73,78,58,88,13,10] : List UInt8).length + List.length (printC [Comp.mk a.Name a.Props a.Comps]).fst <= 9223372036854775807) /\ (((qZLn1 a b).nr + (cE (qZLn0 a b)).nr = 0 /\ (↑(cR (qZLn0 a b)).fst.length : Int) = 1) /\ sameC (ix (cR (qZLn0 a b)).fst (0 : Int)).Comps [Comp.mk a.Name a.Props a.Comps,Comp.mk b.Name b.Props b.Comps] = true -> List.length (([66,69,71,73,78,58,88,13,10] : List UInt8) ++ (printC [Comp.mk a.Name a.Props a.Comps]).fst) + List.length (printC [Comp.mk b.Name b.Props b.Comps]).fst <= 9223372036854775807) /\ (((qZLn1 a b).nr + (cE (qZLn0 a b)).nr = 0 /\ (↑(cR (qZLn0 a b)).fst.length : Int) = 1) /\ sameC (ix (cR (qZLn0 a b)).fst (0 : Int)).Comps [Comp.mk a.Name a.Props a.Comps,Comp.mk b.Name b.Props b.Comps] = true -> List.length (([66,69,71,73,78,58,88,13,10] : List UInt8) ++ (printC [Comp.mk a.Name a.Props a.Comps]).fst ++ (printC [Comp.mk b.Name b.Props b.Comps]).fst) + ([69,78,68,58,88,13,10] : List UInt8).length <= 9223372036854775807) /\ Q (decide (((((qZLn1 a b).nr + (cE (qZLn0 a b)).nr = 0 /\ (↑(cR (qZLn0 a b)).fst.length : Int) = 1) /\ sameC (ix (cR (qZLn0 a b)).fst (0 : Int)).Comps [Comp.mk a.Name a.Props a.Comps,Comp.mk b.Name b.Props b.Comps] = true) /\ (printC [Comp.mk ([88] : List UInt8) [] [Comp.mk a.Name a.Props a.Comps,Comp.mk b.Name b.Props b.Comps]]).fst = ([66,69,71,73,78,58,88,13,10] : List UInt8) ++ (printC [Comp.mk a.Name a.Props a.Comps]).fst ++ (printC [Comp.mk b.Name b.Props b.Comps]).fst ++ ([69,78,68,58,88,13,10] : List UInt8)) /\ true = true)))))))
theorem VZLn_ok {a : Comp} {b : Comp} {Q : Bool -> Prop} (h : VZLn a b Q) : vcFun (E:=NZP) (inlGN NZP (GfZT) noM anZLn 2) (anZLn 6) Tryz.f6 [.agg [.str a.Name,.sl (N:=U) 58 a.Props,.sl (N:=U) 40 a.Comps],.agg [.str b.Name,.sl (N:=U) 58 b.Props,.sl (N:=U) 40 b.Comps]] [] [] 0 (resP NZP [.bool] Q):=Eq.mp (show VZLn a b Q = vcFun (E:=NZP) (inlGN NZP (GfZT) noM anZLn 2) (anZLn 6) Tryz.f6 [.agg [.str a.Name,.sl (N:=U) 58 a.Props,.sl (N:=U) 40 a.Comps],.agg [.str b.Name,.sl (N:=U) 58 b.Props,.sl (N:=U) 40 b.Comps]] [] [] 0 (resP NZP [.bool] Q) by kernel_rfl) h
theorem pZLn (a : Comp) (b : Comp)  : VZLn a b (fun y0=>y0 = true):=by
 unfold VZLn qZLn1 qZLn0
 rw [Comp.eta a,Comp.eta b]
 refine ⟨fun _=>decide_eq_true rfl,fun h=>?_⟩
 have hw : wgt fewP 11 [a,b] <= 8000:=of_decide_eq_true (Classical.not_not.1 h)
 obtain ⟨_,hf⟩:=wgt_few 11 [a,b] hw
 have ho : ∀ x ∈ [a,b],OkT x:=fun x hx=>(hf x hx).okT fun _=>few_small
 have hk : ∀ x ∈ [a,b],OkC x:=fun x hx=>(hf x hx).okC fun _=>few_okP
 have hr:=wgt_row (few:=fewP) 11 [a,b] (by omega)
 have ha0:=row_geC a
 have hb0:=row_geC b
 have h2:=two_row a b
 have n1:=printC_num [a]
 have n2:=printC_num [b]
 have l1:=printC_len [a]
 have l2:=printC_len [b]
 refine ⟨by omega,fun _=>decide_eq_true rfl,fun h9=>?_⟩
 refine ⟨fun x hx=>ho x (by rw [List.mem_singleton.1 hx]; simp),by rw [row_one]; omega,fun x hx=>ho x (by rw [List.mem_singleton.1 hx]; simp),by rw [row_one]; omega,ho,by omega,?_⟩
 simp only [printE_nr]
 refine ⟨⟨by omega,by omega⟩,fun hn=>decide_eq_true ⟨fun h0=>hn (by obtain ⟨p,q⟩:=print_one h0; omega),trivial⟩,fun hn=>?_⟩
 have z1 : (printC [a]).2 = 0:=by omega
 have z2 : (printC [b]).2 = 0:=by omega
 have both:=print_both z1 z2 (by omega)
 rw [both]
 refine ⟨fun _=>by omega,fun hx=>?_,fun _=>?_⟩
 . rcases hx with hx | hx <;> exact absurd rfl hx
 rw [show Comp.mk [88] [] [a,b] = nest a b from rfl]
 have okn : ∀ x ∈ [nest a b],OkT x:=fun x hx=>by
  rw [List.mem_singleton.1 hx]
  exact .mk (by decide) (Nat.zero_le _) (fun x hx=>by cases hx) (show 2 <= 1000000 by decide) ho
 have hrn : rowL [nest a b] <= 1000000:=by
  rw [row_one,rowC_eq]
  show 2 + ((0 : Nat) : Int) + rowL [a,b] <= 1000000
  omega
 rcases print_nest z1 z2 (by omega) with ⟨p12,d6⟩ | ⟨p0,pl,pc⟩
 . exact ⟨okn,hrn,fun _=>⟨by omega,decide_eq_true ⟨d6,trivial⟩⟩,fun h=>absurd p12 h⟩
 have zX : (printC [nest a b]).2 = 0:=by rw [p0]
 have eX : (printC [nest a b]).1 = [66,69,71,73,78,58,88,13,10] ++ (printC [a]).1 ++ (printC [b]).1 ++ [69,78,68,58,88,13,10]:=by rw [p0]
 refine ⟨okn,hrn,fun h=>absurd h (by rw [zX]; decide),fun _=>⟨pl,?_⟩⟩
 rw [pc,zX,show (cE (.ok [nest a b] : Except (Int × Int) (List Comp))).nr = 0 from rfl]
 refine ⟨⟨by decide,by decide⟩,⟨fun _=>Int.le_refl _,fun _=>show (0 : Int) < 1 by decide⟩,⟨rfl,rfl⟩,⟨fun _=>(show 2 <= 100000000 by decide),fun _=>hk⟩,fun _=>?_,fun _=>?_,fun _=>?_,decide_eq_true ⟨⟨⟨⟨rfl,rfl⟩,sameC_iff.2 rfl⟩,eX⟩,trivial⟩⟩ <;> simp only [List.length_append,List.length_cons,List.length_nil] <;> omega
def cZLns (a : Comp) (b : Comp) : Q1 U:=⟨[],[],blB true⟩
def cZLn (a : List (SV U)) : Option (Q1 U):=match a with | [.agg [.str a0,.sl 58 a1,.sl 40 a2],.agg [.str b0,.sl 58 b1,.sl 40 b2]]=>some (cZLns (⟨a0,a1,a2⟩) (⟨b0,b1,b2⟩)) | _=>none
theorem cZLn_ok (args : List (SV U)) (q : Q1 U) (h : cZLn args = some q) (ho : allP q.ob) : LendOK NZP 6 args ⟨q.ob,q.hy,q.v,[]⟩:=by
 unfold cZLn at h
 split at h
 . rename_i a0 a1 a2 b0 b1 b2
   cases h
   exact lend1 NZP_ok (inlGN_ok NZP_ok GfZT_ok noM_ok anZLn 2) Tryz.func6 (k:=.bool) trivial (VZLn_ok (pZLn (⟨a0,a1,a2⟩) (⟨b0,b1,b2⟩) )) 0
 . cases h
end Go.Proofs.YtadgfmmmdhlljaaGreatDoor
