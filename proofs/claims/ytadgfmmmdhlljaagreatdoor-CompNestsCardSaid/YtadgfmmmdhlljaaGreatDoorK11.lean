/- 24 texts, one behind the other. -/
import Derived.Test.YtadgfmmmdhlljaaGreatDoorK10
import Derived.Test.YtadgfmmmdhlljaaGreatDoorK4
import Derived.Test.YtadgfmmmdhlljaaGreatDoorK1
set_option linter.unusedVariables false
set_option linter.unusedSimpArgs false
set_option maxRecDepth 100000
section
namespace Go.Co
open Go Go.Wk Go.Wl Go.Rx Go.Fo Go.Li
noncomputable def cszC (c : Comp) : Nat:=SizeOf.sizeOf c
theorem cszC_in {c : Comp} {i : Int} (h0 : 0 <= i) (h1 : i < c.Comps.length) : cszC (ix c.Comps i) < cszC c:=by
 have h2:=List.sizeOf_lt_of_mem (ix_mem h0 h1)
 unfold cszC
 generalize ix c.Comps i = d at h2 ⊢
 obtain ⟨n,p,cs⟩:=c
 have h2 : SizeOf.sizeOf d < SizeOf.sizeOf cs:=h2
 rw [Comp.mk.sizeOf_spec]
 omega
inductive OkT : Comp -> Prop
 | mk {n : Str} {p : List Prp} {c : List Comp} : n.length <= 100000 -> p.length <= 1000000 -> (∀ x ∈ p,smallP x) -> c.length <= 1000000 -> (∀ x ∈ c,OkT x) -> OkT (.mk n p c)
theorem OkT.out {c : Comp} (h : OkT c) : c.Name.length <= 100000 /\ c.Props.length <= 1000000 /\ (∀ x ∈ c.Props,smallP x) /\ c.Comps.length <= 1000000 /\ ∀ x ∈ c.Comps,OkT x:=by
 cases h with | mk h1 h2 h3 h4 h5=>exact ⟨h1,h2,h3,h4,h5⟩
def tL (rows : List Str) (c : Comp) : List Str:=if mayC c = true then rows ++ linC c else []
def tE (c : Comp) : Err:=if mayC c = true then .nil else .no 2
theorem depL_mem {l : List Comp} {c : Comp} (h : c ∈ l) : depC c <= depL l:=by
 induction l with
 | nil=>cases h
 | cons d l ih =>
  rw [depL_cons]
  rcases List.mem_cons.1 h with rfl | h
  . omega
  . have:=ih h; omega
theorem dep_next {l : List Comp} {i : Int} (h0 : 0 <= i) (h1 : i < l.length) : depL (l.take (i + 1).toNat) = max (depL (l.take i.toNat)) (1 + depL (ix l i).Comps):=by
 rw [take_next h0 h1,dep_app,dep_one,depC_eq]
theorem dep_in {l : List Comp} {i : Int} (h0 : 0 <= i) (h1 : i < l.length) : 0 <= depL (ix l i).Comps /\ 1 + depL (ix l i).Comps <= depL l:=by
 have:=depL_mem (ix_mem h0 h1)
 rw [depC_eq] at this
 exact ⟨dep_geL _,this⟩
theorem row_geL (l : List Comp) : 0 <= rowL l:=by have:=lin_lenL l; omega
theorem row_next {l : List Comp} {i : Int} (h0 : 0 <= i) (h1 : i < l.length) : rowL (l.take (i + 1).toNat) = rowL (l.take i.toNat) + (2 + (ix l i).Props.length + rowL (ix l i).Comps):=by
 rw [take_next h0 h1,rowL_app,row_one,rowC_eq]
theorem row_take {l : List Comp} (k : Nat) : 0 <= rowL (l.take k) /\ rowL (l.take k) <= rowL l:=by
 have h:=congrArg rowL (List.take_append_drop k l)
 rw [rowL_app] at h
 have:=row_geL (l.drop k)
 exact ⟨row_geL _,by omega⟩
theorem row_in {l : List Comp} {i : Int} (h0 : 0 <= i) (h1 : i < l.length) : 0 <= rowL (ix l i).Comps /\ 2 + (ix l i).Props.length + rowL (ix l i).Comps <= rowL l:=by
 have:=(rowL_ge l).2 _ (ix_mem h0 h1)
 rw [rowC_eq] at this
 exact ⟨row_geL _,this⟩
mutual
theorem dep_rowC : ∀ c : Comp,depC c <= rowC c
 | .mk _ p c=>by unfold depC rowC; have:=dep_rowL c; omega
theorem dep_rowL : ∀ l : List Comp,depL l <= rowL l
 | []=>by unfold depL rowL; omega
 | c :: l=>by
  rw [depL_cons,rowL_cons]
  have:=dep_rowC c
  have:=dep_rowL l
  have:=dep_geC c
  have:=dep_geL l
  omega
end
theorem mayP_print (p : Prp) : mayP p = true ↔ ¬(printR p).2 ≠ 0 /\ ¬5000 < ((printR p).1.length : Int) /\ p.Name ≠ sBEGIN /\ p.Name ≠ sEND:=by
 rw [mayP_out]
 unfold printR
 by_cases h : rightB p = true
 . rw [if_pos h]
   exact ⟨fun ⟨_,b,c,d⟩=>⟨fun g=>g rfl,fun g=>by dsimp only at g; omega,c,d⟩,fun ⟨_,b,c,d⟩=>⟨h,by dsimp only at b; omega,c,d⟩⟩
 . rw [if_neg h]
   exact ⟨fun ⟨a,_⟩=>absurd a h,fun ⟨a,_⟩=>absurd (by decide) a⟩
theorem mayP_printS (p : Prp) : mayP p = true ↔ ¬(printS p).2 ≠ .nil /\ ¬5000 < ((printS p).1.length : Int) /\ p.Name ≠ sBEGIN /\ p.Name ≠ sEND:=by
 rw [mayP_out]
 unfold printS
 by_cases h : rightB p = true
 . rw [if_pos h]
   exact ⟨fun ⟨_,b,c,d⟩=>⟨fun g=>g rfl,fun g=>by dsimp only at g; omega,c,d⟩,fun ⟨_,b,c,d⟩=>⟨h,by dsimp only at b; omega,c,d⟩⟩
 . rw [if_neg h]
   exact ⟨fun ⟨a,_⟩=>absurd a h,fun ⟨a,_⟩=>absurd (fun g=>by cases g) a⟩
theorem printS_may {p : Prp} (h : mayP p = true) : (printS p).1 = tell p:=by
 unfold printS; rw [if_pos (mayP_out.1 h).1]
theorem printR_may {p : Prp} (h : mayP p = true) : (printR p).1 = tell p:=by
 unfold printR; rw [if_pos (mayP_out.1 h).1]
theorem head_print (n : Str) : (isName n /\ printS ⟨[],n,[],[]⟩ = (n ++ [58],.nil)) ∨ (¬isName n /\ printS ⟨[],n,[],[]⟩ = ([],.no 2)):=by
 by_cases h : isName n
 . refine .inl ⟨h,?_⟩
   unfold printS
   rw [if_pos (rightB_iff.2 ⟨⟨h,fun h=>absurd rfl h,rfl,fun x hx=>by cases hx⟩,rfl⟩)]
   unfold Li.tell
   simp
 . refine .inr ⟨h,?_⟩
   unfold printS
   rw [if_neg (fun g=>h (rightB_iff.1 g).1.1)]
theorem head_take (n : Str) : List.take (((n ++ [58]).length : Int) - 1).toNat (n ++ [58]) = n:=by
 have e : (((n ++ [58]).length : Int) - 1).toNat = n.length:=by rw [List.length_append]; simp
 rw [e,List.take_left]
theorem linC_eq (c : Comp) : linC c = (sBEGIN ++ 58 :: c.Name) :: (c.Props.map tell ++ (linL c.Comps ++ [sEND ++ 58 :: c.Name])):=by
 obtain ⟨n,p,cs⟩:=c
 unfold linC; rfl
theorem told_bad {rows : List Str} {c : Comp} {e : Err} (h : ¬mayC c = true) (he : e = .no 2) : [] = tL rows c /\ e = tE c:=by
 unfold tL tE; rw [if_neg h,if_neg h]; exact ⟨rfl,he⟩
theorem told_ok {rows x : List Str} {c : Comp} (h : mayC c = true) (hx : x = rows ++ linC c) : x = tL rows c /\ Err.nil = tE c:=by
 unfold tL tE; rw [if_pos h,if_pos h]; exact ⟨hx,rfl⟩
theorem tE_bad {c : Comp} (h : tE c ≠ .nil) : ¬mayC c = true /\ tE c = .no 2:=by
 unfold tE at h ⊢
 by_cases g : mayC c = true
 . rw [if_pos g] at h; exact absurd rfl h
 . exact ⟨g,if_neg g⟩
theorem tE_ok {c : Comp} (h : ¬tE c ≠ .nil) (x : List Str) : mayC c = true /\ tL x c = x ++ linC c:=by
 unfold tE at h
 by_cases g : mayC c = true
 . exact ⟨g,if_pos g⟩
 . rw [if_neg g] at h; exact absurd (fun e=>by cases e) h
def printE (l : List Comp) : Err:=if (printC l).2 = 0 then .nil else .no (printC l).2
theorem pr_may {l : List Comp} (h : ¬mayL l = true) : printC l = ([],2):=by
 unfold printC; rw [if_pos (Bool.eq_false_iff.2 h)]
theorem pr_deep {l : List Comp} (h : mayL l = true) (h2 : 6 < depL l) : printC l = ([],12):=by
 unfold printC; rw [if_neg (by rw [h]; decide),if_pos h2]
theorem pr_many {l : List Comp} (h : mayL l = true) (h2 : ¬6 < depL l) (h3 : 1000 < rowL l) : printC l = ([],5):=by
 unfold printC; rw [if_neg (by rw [h]; decide),if_neg h2,if_pos h3]
theorem pr_ok {l : List Comp} (h : mayL l = true) (h2 : ¬6 < depL l) (h3 : ¬1000 < rowL l) : printC l = ((linL l).flatMap (rowGo dec 75),0):=by
 unfold printC; rw [if_neg (by rw [h]; decide),if_neg h2,if_neg h3]
theorem take_full {α : Type} {l : List α} {i : Int} (h0 : 0 <= i) (h1 : ¬ i < l.length) : l.take i.toNat = l:=List.take_of_length_le (by omega)
end Go.Co
end
section
namespace Go.Proofs.YtadgfmmmdhlljaaGreatDoor
open Go Go.Wk Go.Wl Go.Rx Go.Fo Go.Li Go.Co 
noncomputable def cZdb (o : List Prop) (l : List Comp) : Q1 U:=⟨o,[],.int .i64 (depL l)⟩
noncomputable def cZdn (n : Nat) (a : List (SV U)) : Option (Q1 U):=match a with | [.sl 40 l]=>some (cZdb [rowL l <= 1000000000,csz l < n] l) | _=>none
noncomputable def EZd (n : Nat) : Env:=N38.addL 21 (cZdn n)
theorem EZd_ok {n : Nat} (h : ∀ args q,cZdn n args = some q -> allP q.ob -> LendOK N38 21 args ⟨q.ob,q.hy,q.v,[]⟩) : EnvOK (EZd n):=N38_ok.addL Tryz.call21 h
def anZd : Nat -> Ann:=fun | 21=>⟨20,fun | 3=>some ⟨[6,7],[.slot 3 (.int .i64),.slot 8 (.int .i64)]⟩ | _=>none,fun  | _=>none⟩ | _=>⟨0,fun _=>none,fun _=>none⟩
def VZd (n : Nat) (l : List Comp) (Q : Int -> Prop) : Prop :=
∃ (I : Int -> Int -> Prop),∃ (m : Int -> Int -> Nat),I (0 : Int) (0 : Int) /\ ∀ (x x_1 : Int),I x x_1 -> (x_1 < (↑l.length : Int) -> (0 : Int) <= x_1 /\ x_1 < (↑l.length : Int) /\ rowL (ix l x_1).Comps <= 1000000000 /\ csz (ix l x_1).Comps < n /\ in64 ((1 : Int) + depL (ix l x_1).Comps) /\ in64 (x_1 + 1) /\ I (bif true then max x ((1 : Int) + depL (ix l x_1).Comps) else min x ((1 : Int) + depL (ix l x_1).Comps)) (x_1 + 1) /\ m (bif true then max x ((1 : Int) + depL (ix l x_1).Comps) else min x ((1 : Int) + depL (ix l x_1).Comps)) (x_1 + 1) < m x x_1) /\ (¬x_1 < (↑l.length : Int) -> Q x)
theorem VZd_ok {n : Nat} {l : List Comp} {Q : Int -> Prop} (h : VZd n l Q) : vcFun (E:=EZd n) (inlN anZd 2) (anZd 21) Tryz.f21 [.sl (N:=U) 40 l] [] [] 0 (resP (EZd n) [.int .i64] Q):=Eq.mp (show VZd n l Q = vcFun (E:=EZd n) (inlN anZd 2) (anZd 21) Tryz.f21 [.sl (N:=U) 40 l] [] [] 0 (resP (EZd n) [.int .i64] Q) by kernel_rfl) h
theorem pZd (n : Nat) (l : List Comp) (hs : rowL l <= 1000000000) (hr : csz l < n + 1) : VZd n l (fun y=>y = depL l):=by
 unfold VZd
 have hL:=(rowL_ge l).1
 refine ⟨fun x i=>0 <= i /\ i <= l.length /\ x = depL (l.take i.toNat),fun _ i=>((l.length : Int) - i).toNat,⟨by omega,by omega,by rw [show (0 : Int).toNat = 0 from rfl,List.take_zero]; unfold depL; rfl⟩,?_⟩
 rintro x i ⟨i0,i1,hx⟩
 refine ⟨fun hi=>?_,fun hi=>?_⟩
 . obtain ⟨a0,a1⟩:=dep_in i0 hi
   obtain ⟨b0,b1⟩:=row_in i0 hi
   have h3:=dep_next i0 hi
   have h4:=dep_rowL l
   have h5:=csz_in i0 hi
   rw [<- hx] at h3
   refine ⟨i0,hi,by omega,by omega,⟨by omega,by omega⟩,⟨by omega,by omega⟩,⟨by omega,by omega,?_⟩,by dsimp only; omega⟩
   rw [h3]; rfl
 . rw [take_full i0 hi] at hx
   exact hx
theorem cZdn_ok : ∀ (n : Nat) (args : List (SV U)) (q : Q1 U),cZdn n args = some q -> allP q.ob -> LendOK N38 21 args ⟨q.ob,q.hy,q.v,[]⟩
 | 0,args,q,h,ho=>by
  unfold cZdn at h
  split at h
  . rename_i l
    cases h
    exact absurd ho.2.1 (Nat.not_lt_zero _)
  . cases h
 | n + 1,args,q,h,ho=>by
  have hE:=EZd_ok (cZdn_ok n)
  unfold cZdn at h
  split at h
  . rename_i l
    cases h
    exact fun D w vs h1 h2 h3=>lend1 hE (inlN_ok hE anZd 2) Tryz.func21 (k:=.int .i64) trivial (VZd_ok (pZd n l ho.1 ho.2.1)) 0 D w vs h1 h2 h3
  . cases h
noncomputable def cZd (a : List (SV U)) : Option (Q1 U):=match a with | [.sl 40 l]=>some (cZdb [rowL l <= 1000000000] l) | _=>none
theorem cZd_ok (args : List (SV U)) (q : Q1 U) (h : cZd args = some q) (ho : allP q.ob) : LendOK N38 21 args ⟨q.ob,q.hy,q.v,[]⟩:=by
 unfold cZd at h
 split at h
 . rename_i l
   cases h
   exact fun D w vs h1 h2 h3=>cZdn_ok (csz l + 1) [.sl 40 l] (cZdb [rowL l <= 1000000000,csz l < csz l + 1] l) rfl ⟨ho.1,Nat.lt_succ_self _,trivial⟩ D w vs h1 h2 h3
 . cases h
noncomputable def NZd : Env:=N38.addL 21 cZd
theorem NZd_ok : EnvOK NZd:=N38_ok.addL Tryz.call21 cZd_ok
noncomputable def cZDb (o : List Prop) (l : List Comp) : Q1 U:=⟨o,[],.int .i64 (depL l)⟩
noncomputable def cZDn (n : Nat) (a : List (SV U)) : Option (Q1 U):=match a with | [.sl 40 l]=>some (cZDb [rowL l <= 1000000000,csz l < n] l) | _=>none
noncomputable def EZD (n : Nat) : Env:=NZd.addL 17 (cZDn n)
theorem EZD_ok {n : Nat} (h : ∀ args q,cZDn n args = some q -> allP q.ob -> LendOK NZd 17 args ⟨q.ob,q.hy,q.v,[]⟩) : EnvOK (EZD n):=NZd_ok.addL Tryz.call17 h
def anZD : Nat -> Ann:=fun | 17=>⟨24,fun | 3=>some ⟨[0],[.slot 3 (.int .i64),.slot 4 (.int .i64)]⟩ | _=>none,fun  | _=>none⟩ | _=>⟨0,fun _=>none,fun _=>none⟩
def VZD (n : Nat) (l : List Comp) (Q : Int -> Prop) : Prop :=
∃ (I : Int -> Int -> Prop),∃ (m : Int -> Int -> Nat),I (0 : Int) (0 : Int) /\ ∀ (x x_1 : Int),I x x_1 -> (x_1 < (↑l.length : Int) -> (0 : Int) <= x_1 /\ x_1 < (↑l.length : Int) /\ rowL (ix l x_1).Comps <= 1000000000 /\ csz (ix l x_1).Comps < n /\ in64 ((1 : Int) + depL (ix l x_1).Comps) /\ (x < (1 : Int) + depL (ix l x_1).Comps -> in64 (x_1 + 1) /\ I ((1 : Int) + depL (ix l x_1).Comps) (x_1 + 1) /\ m ((1 : Int) + depL (ix l x_1).Comps) (x_1 + 1) < m x x_1) /\ (¬x < (1 : Int) + depL (ix l x_1).Comps -> in64 (x_1 + 1) /\ I x (x_1 + 1) /\ m x (x_1 + 1) < m x x_1)) /\ (¬x_1 < (↑l.length : Int) -> Q x)
theorem VZD_ok {n : Nat} {l : List Comp} {Q : Int -> Prop} (h : VZD n l Q) : vcFun (E:=EZD n) (inlN anZD 2) (anZD 17) Tryz.f17 [.sl (N:=U) 40 l] [] [] 0 (resP (EZD n) [.int .i64] Q):=Eq.mp (show VZD n l Q = vcFun (E:=EZD n) (inlN anZD 2) (anZD 17) Tryz.f17 [.sl (N:=U) 40 l] [] [] 0 (resP (EZD n) [.int .i64] Q) by kernel_rfl) h
theorem pZD (n : Nat) (l : List Comp) (hs : rowL l <= 1000000000) (hr : csz l < n + 1) : VZD n l (fun y=>y = depL l):=by
 unfold VZD
 have hL:=(rowL_ge l).1
 refine ⟨fun x i=>0 <= i /\ i <= l.length /\ x = depL (l.take i.toNat),fun _ i=>((l.length : Int) - i).toNat,⟨by omega,by omega,by rw [show (0 : Int).toNat = 0 from rfl,List.take_zero]; unfold depL; rfl⟩,?_⟩
 rintro x i ⟨i0,i1,hx⟩
 refine ⟨fun hi=>?_,fun hi=>?_⟩
 . obtain ⟨a0,a1⟩:=dep_in i0 hi
   obtain ⟨b0,b1⟩:=row_in i0 hi
   have h3:=dep_next i0 hi
   have h4:=dep_rowL l
   have h5:=csz_in i0 hi
   rw [<- hx] at h3
   refine ⟨i0,hi,by omega,by omega,⟨by omega,by omega⟩,fun hk=>⟨⟨by omega,by omega⟩,⟨by omega,by omega,by omega⟩,by dsimp only; omega⟩,fun hk=>⟨⟨by omega,by omega⟩,⟨by omega,by omega,by omega⟩,by dsimp only; omega⟩⟩
 . rw [take_full i0 hi] at hx
   exact hx
theorem cZDn_ok : ∀ (n : Nat) (args : List (SV U)) (q : Q1 U),cZDn n args = some q -> allP q.ob -> LendOK NZd 17 args ⟨q.ob,q.hy,q.v,[]⟩
 | 0,args,q,h,ho=>by
  unfold cZDn at h
  split at h
  . rename_i l
    cases h
    exact absurd ho.2.1 (Nat.not_lt_zero _)
  . cases h
 | n + 1,args,q,h,ho=>by
  have hE:=EZD_ok (cZDn_ok n)
  unfold cZDn at h
  split at h
  . rename_i l
    cases h
    exact fun D w vs h1 h2 h3=>lend1 hE (inlN_ok hE anZD 2) Tryz.func17 (k:=.int .i64) trivial (VZD_ok (pZD n l ho.1 ho.2.1)) 0 D w vs h1 h2 h3
  . cases h
noncomputable def cZD (a : List (SV U)) : Option (Q1 U):=match a with | [.sl 40 l]=>some (cZDb [rowL l <= 1000000000] l) | _=>none
theorem cZD_ok (args : List (SV U)) (q : Q1 U) (h : cZD args = some q) (ho : allP q.ob) : LendOK NZd 17 args ⟨q.ob,q.hy,q.v,[]⟩:=by
 unfold cZD at h
 split at h
 . rename_i l
   cases h
   exact fun D w vs h1 h2 h3=>cZDn_ok (csz l + 1) [.sl 40 l] (cZDb [rowL l <= 1000000000,csz l < csz l + 1] l) rfl ⟨ho.1,Nat.lt_succ_self _,trivial⟩ D w vs h1 h2 h3
 . cases h
noncomputable def NZD : Env:=NZd.addL 17 cZD
theorem NZD_ok : EnvOK NZD:=NZd_ok.addL Tryz.call17 cZD_ok
noncomputable def cZrb (o : List Prop) (l : List Comp) : Q1 U:=⟨o,[],.int .i64 (rowL l)⟩
noncomputable def cZrn (n : Nat) (a : List (SV U)) : Option (Q1 U):=match a with | [.sl 40 l]=>some (cZrb [rowL l <= 1000000000,csz l < n] l) | _=>none
noncomputable def EZr (n : Nat) : Env:=NZD.addL 14 (cZrn n)
theorem EZr_ok {n : Nat} (h : ∀ args q,cZrn n args = some q -> allP q.ob -> LendOK NZD 14 args ⟨q.ob,q.hy,q.v,[]⟩) : EnvOK (EZr n):=NZD_ok.addL Tryz.call14 h
def anZr : Nat -> Ann:=fun | 14=>⟨24,fun | 3=>some ⟨[6,7],[.slot 3 (.int .i64),.slot 8 (.int .i64)]⟩ | _=>none,fun  | _=>none⟩ | _=>⟨0,fun _=>none,fun _=>none⟩
def VZr (n : Nat) (l : List Comp) (Q : Int -> Prop) : Prop :=
∃ (I : Int -> Int -> Prop),∃ (m : Int -> Int -> Nat),I (0 : Int) (0 : Int) /\ ∀ (x x_1 : Int),I x x_1 -> (x_1 < (↑l.length : Int) -> (0 : Int) <= x_1 /\ x_1 < (↑l.length : Int) /\ in64 ((2 : Int) + (↑(ix l x_1).Props.length : Int)) /\ (rowL (ix l x_1).Comps <= 1000000000 /\ csz (ix l x_1).Comps < n) /\ in64 ((2 : Int) + (↑(ix l x_1).Props.length : Int) + rowL (ix l x_1).Comps) /\ in64 (x + ((2 : Int) + (↑(ix l x_1).Props.length : Int) + rowL (ix l x_1).Comps)) /\ in64 (x_1 + 1) /\ I (x + ((2 : Int) + (↑(ix l x_1).Props.length : Int) + rowL (ix l x_1).Comps)) (x_1 + 1) /\ m (x + ((2 : Int) + (↑(ix l x_1).Props.length : Int) + rowL (ix l x_1).Comps)) (x_1 + 1) < m x x_1) /\ (¬x_1 < (↑l.length : Int) -> Q x)
theorem VZr_ok {n : Nat} {l : List Comp} {Q : Int -> Prop} (h : VZr n l Q) : vcFun (E:=EZr n) (inlN anZr 2) (anZr 14) Tryz.f14 [.sl (N:=U) 40 l] [] [] 0 (resP (EZr n) [.int .i64] Q):=Eq.mp (show VZr n l Q = vcFun (E:=EZr n) (inlN anZr 2) (anZr 14) Tryz.f14 [.sl (N:=U) 40 l] [] [] 0 (resP (EZr n) [.int .i64] Q) by kernel_rfl) h
theorem pZr (n : Nat) (l : List Comp) (hs : rowL l <= 1000000000) (hr : csz l < n + 1) : VZr n l (fun y=>y = rowL l):=by
 unfold VZr
 have hL:=(rowL_ge l).1
 refine ⟨fun x i=>0 <= i /\ i <= l.length /\ x = rowL (l.take i.toNat),fun _ i=>((l.length : Int) - i).toNat,⟨by omega,by omega,by rw [show (0 : Int).toNat = 0 from rfl,List.take_zero]; unfold rowL; rfl⟩,?_⟩
 rintro x i ⟨i0,i1,hx⟩
 refine ⟨fun hi=>?_,fun hi=>?_⟩
 . obtain ⟨b0,b1⟩:=row_in i0 hi
   have h3:=row_next i0 hi
   have h5:=csz_in i0 hi
   obtain ⟨t0,t1⟩:=row_take (l:=l) i.toNat
   obtain ⟨u0,u1⟩:=row_take (l:=l) (i + 1).toNat
   rw [<- hx] at h3 t0 t1
   exact ⟨i0,hi,⟨by omega,by omega⟩,⟨by omega,by omega⟩,⟨by omega,by omega⟩,⟨by omega,by omega⟩,⟨by omega,by omega⟩,⟨by omega,by omega,h3.symm⟩,by dsimp only; omega⟩
 . rw [take_full i0 hi] at hx
   exact hx
theorem cZrn_ok : ∀ (n : Nat) (args : List (SV U)) (q : Q1 U),cZrn n args = some q -> allP q.ob -> LendOK NZD 14 args ⟨q.ob,q.hy,q.v,[]⟩
 | 0,args,q,h,ho=>by
  unfold cZrn at h
  split at h
  . rename_i l
    cases h
    exact absurd ho.2.1 (Nat.not_lt_zero _)
  . cases h
 | n + 1,args,q,h,ho=>by
  have hE:=EZr_ok (cZrn_ok n)
  unfold cZrn at h
  split at h
  . rename_i l
    cases h
    exact fun D w vs h1 h2 h3=>lend1 hE (inlN_ok hE anZr 2) Tryz.func14 (k:=.int .i64) trivial (VZr_ok (pZr n l ho.1 ho.2.1)) 0 D w vs h1 h2 h3
  . cases h
noncomputable def cZr (a : List (SV U)) : Option (Q1 U):=match a with | [.sl 40 l]=>some (cZrb [rowL l <= 1000000000] l) | _=>none
theorem cZr_ok (args : List (SV U)) (q : Q1 U) (h : cZr args = some q) (ho : allP q.ob) : LendOK NZD 14 args ⟨q.ob,q.hy,q.v,[]⟩:=by
 unfold cZr at h
 split at h
 . rename_i l
   cases h
   exact fun D w vs h1 h2 h3=>cZrn_ok (csz l + 1) [.sl 40 l] (cZrb [rowL l <= 1000000000,csz l < csz l + 1] l) rfl ⟨ho.1,Nat.lt_succ_self _,trivial⟩ D w vs h1 h2 h3
 . cases h
noncomputable def NZr : Env:=NZD.addL 14 cZr
theorem NZr_ok : EnvOK NZr:=NZD_ok.addL Tryz.call14 cZr_ok
noncomputable def cZRb (o : List Prop) (l : List Comp) : Q1 U:=⟨o,[],.int .i64 (rowL l)⟩
noncomputable def cZRn (n : Nat) (a : List (SV U)) : Option (Q1 U):=match a with | [.sl 40 l]=>some (cZRb [rowL l <= 1000000000,csz l < n] l) | _=>none
noncomputable def EZR (n : Nat) : Env:=NZr.addL 15 (cZRn n)
theorem EZR_ok {n : Nat} (h : ∀ args q,cZRn n args = some q -> allP q.ob -> LendOK NZr 15 args ⟨q.ob,q.hy,q.v,[]⟩) : EnvOK (EZR n):=NZr_ok.addL Tryz.call15 h
def anZR : Nat -> Ann:=fun | 15=>⟨28,fun | 3=>some ⟨[0],[.slot 3 (.int .i64),.slot 4 (.int .i64)]⟩ | _=>none,fun  | _=>none⟩ | _=>⟨0,fun _=>none,fun _=>none⟩
def VZR (n : Nat) (l : List Comp) (Q : Int -> Prop) : Prop :=
∃ (I : Int -> Int -> Prop),∃ (m : Int -> Int -> Nat),I (0 : Int) (0 : Int) /\ ∀ (x x_1 : Int),I x x_1 -> (x_1 < (↑l.length : Int) -> in64 (x + 2) /\ ((0 : Int) <= x_1 /\ x_1 < (↑l.length : Int)) /\ in64 (x + 2 + (↑(ix l x_1).Props.length : Int)) /\ ((0 : Int) <= x_1 /\ x_1 < (↑l.length : Int)) /\ (rowL (ix l x_1).Comps <= 1000000000 /\ csz (ix l x_1).Comps < n) /\ in64 (x + 2 + (↑(ix l x_1).Props.length : Int) + rowL (ix l x_1).Comps) /\ in64 (x_1 + 1) /\ I (x + 2 + (↑(ix l x_1).Props.length : Int) + rowL (ix l x_1).Comps) (x_1 + 1) /\ m (x + 2 + (↑(ix l x_1).Props.length : Int) + rowL (ix l x_1).Comps) (x_1 + 1) < m x x_1) /\ (¬x_1 < (↑l.length : Int) -> Q x)
theorem VZR_ok {n : Nat} {l : List Comp} {Q : Int -> Prop} (h : VZR n l Q) : vcFun (E:=EZR n) (inlN anZR 2) (anZR 15) Tryz.f15 [.sl (N:=U) 40 l] [] [] 0 (resP (EZR n) [.int .i64] Q):=Eq.mp (show VZR n l Q = vcFun (E:=EZR n) (inlN anZR 2) (anZR 15) Tryz.f15 [.sl (N:=U) 40 l] [] [] 0 (resP (EZR n) [.int .i64] Q) by kernel_rfl) h
theorem pZR (n : Nat) (l : List Comp) (hs : rowL l <= 1000000000) (hr : csz l < n + 1) : VZR n l (fun y=>y = rowL l):=by
 unfold VZR
 have hL:=(rowL_ge l).1
 refine ⟨fun x i=>0 <= i /\ i <= l.length /\ x = rowL (l.take i.toNat),fun _ i=>((l.length : Int) - i).toNat,⟨by omega,by omega,by rw [show (0 : Int).toNat = 0 from rfl,List.take_zero]; unfold rowL; rfl⟩,?_⟩
 rintro x i ⟨i0,i1,hx⟩
 refine ⟨fun hi=>?_,fun hi=>?_⟩
 . obtain ⟨b0,b1⟩:=row_in i0 hi
   have h3:=row_next i0 hi
   have h5:=csz_in i0 hi
   obtain ⟨t0,t1⟩:=row_take (l:=l) i.toNat
   obtain ⟨u0,u1⟩:=row_take (l:=l) (i + 1).toNat
   rw [<- hx] at h3 t0 t1
   exact ⟨⟨by omega,by omega⟩,⟨i0,hi⟩,⟨by omega,by omega⟩,⟨i0,hi⟩,⟨by omega,by omega⟩,⟨by omega,by omega⟩,⟨by omega,by omega⟩,⟨by omega,by omega,by omega⟩,by dsimp only; omega⟩
 . rw [take_full i0 hi] at hx
   exact hx
theorem cZRn_ok : ∀ (n : Nat) (args : List (SV U)) (q : Q1 U),cZRn n args = some q -> allP q.ob -> LendOK NZr 15 args ⟨q.ob,q.hy,q.v,[]⟩
 | 0,args,q,h,ho=>by
  unfold cZRn at h
  split at h
  . rename_i l
    cases h
    exact absurd ho.2.1 (Nat.not_lt_zero _)
  . cases h
 | n + 1,args,q,h,ho=>by
  have hE:=EZR_ok (cZRn_ok n)
  unfold cZRn at h
  split at h
  . rename_i l
    cases h
    exact fun D w vs h1 h2 h3=>lend1 hE (inlN_ok hE anZR 2) Tryz.func15 (k:=.int .i64) trivial (VZR_ok (pZR n l ho.1 ho.2.1)) 0 D w vs h1 h2 h3
  . cases h
noncomputable def cZR (a : List (SV U)) : Option (Q1 U):=match a with | [.sl 40 l]=>some (cZRb [rowL l <= 1000000000] l) | _=>none
theorem cZR_ok (args : List (SV U)) (q : Q1 U) (h : cZR args = some q) (ho : allP q.ob) : LendOK NZr 15 args ⟨q.ob,q.hy,q.v,[]⟩:=by
 unfold cZR at h
 split at h
 . rename_i l
   cases h
   exact fun D w vs h1 h2 h3=>cZRn_ok (csz l + 1) [.sl 40 l] (cZRb [rowL l <= 1000000000,csz l < csz l + 1] l) rfl ⟨ho.1,Nat.lt_succ_self _,trivial⟩ D w vs h1 h2 h3
 . cases h
noncomputable def NZR : Env:=NZr.addL 15 cZR
theorem NZR_ok : EnvOK NZR:=NZr_ok.addL Tryz.call15 cZR_ok
noncomputable def cZmb (o : List Prop) (c : Comp) : Q1 U:=⟨o,[],blB (mayC c)⟩
noncomputable def cZmn (n : Nat) (a : List (SV U)) : Option (Q1 U):=match a with | [.agg [.str c0,.sl 58 c1,.sl 40 c2]]=>some (cZmb [OkT (⟨c0,c1,c2⟩ : Comp),cszC (⟨c0,c1,c2⟩ : Comp) < n] (⟨c0,c1,c2⟩)) | _=>none
noncomputable def EZm (n : Nat) : Env:=NZR.addL 30 (cZmn n)
theorem EZm_ok {n : Nat} (h : ∀ args q,cZmn n args = some q -> allP q.ob -> LendOK NZR 30 args ⟨q.ob,q.hy,q.v,[]⟩) : EnvOK (EZm n):=NZR_ok.addL Tryz.call30 h
def anZm : Nat -> Ann:=fun | 30=>⟨73,fun | 10=>some ⟨[1],[.slot 6 (.int .i64)]⟩ | 4=>some ⟨[1],[.slot 3 (.int .i64)]⟩ | _=>none,fun  | _=>none⟩ | _=>⟨0,fun _=>none,fun _=>none⟩
def qZm0 (c : Comp) (x : Int):=printR (Prp.mk (ix c.Props x).Group (ix c.Props x).Name (ix c.Props x).Params (ix c.Props x).Value)
def VZm (n : Nat) (c : Comp) (Q : Bool -> Prop) : Prop :=
List.length c.Name <= 100000000 /\ (¬¬nameB c.Name = true -> in64 ((↑(List.length c.Name) : Int) + 6)) /\ (¬nameB c.Name = true ∨ (5000 : Int) < (↑(List.length c.Name) : Int) + 6 -> Q false) /\ (¬(¬nameB c.Name = true ∨ (5000 : Int) < (↑(List.length c.Name) : Int) + 6) -> ∃ (I : Int -> Prop),∃ (m : Int -> Nat),I (0 : Int) /\ ∀ (x : Int),I x -> (x < (↑c.Props.length : Int) -> (0 : Int) <= x /\ x < (↑c.Props.length : Int) /\ smallP (Prp.mk (ix c.Props x).Group (ix c.Props x).Name (ix c.Props x).Params (ix c.Props x).Value) /\ (¬((qZm0 c x).snd ≠ 0 ∨ (5000 : Int) < (↑(List.length (qZm0 c x).fst) : Int)) -> (0 : Int) <= x) /\ (¬((qZm0 c x).snd ≠ 0 ∨ (5000 : Int) < (↑(List.length (qZm0 c x).fst) : Int)) -> x < (↑c.Props.length : Int)) /\ (¬(((qZm0 c x).snd ≠ 0 ∨ (5000 : Int) < (↑(List.length (qZm0 c x).fst) : Int)) ∨ (ix c.Props x).Name = ([66,69,71,73,78] : List UInt8)) -> (0 : Int) <= x) /\ (¬(((qZm0 c x).snd ≠ 0 ∨ (5000 : Int) < (↑(List.length (qZm0 c x).fst) : Int)) ∨ (ix c.Props x).Name = ([66,69,71,73,78] : List UInt8)) -> x < (↑c.Props.length : Int)) /\ ((((qZm0 c x).snd ≠ 0 ∨ (5000 : Int) < (↑(List.length (qZm0 c x).fst) : Int)) ∨ (ix c.Props x).Name = ([66,69,71,73,78] : List UInt8)) ∨ (ix c.Props x).Name = ([69,78,68] : List UInt8) -> Q false) /\ (¬((((qZm0 c x).snd ≠ 0 ∨ (5000 : Int) < (↑(List.length (qZm0 c x).fst) : Int)) ∨ (ix c.Props x).Name = ([66,69,71,73,78] : List UInt8)) ∨ (ix c.Props x).Name = ([69,78,68] : List UInt8)) -> in64 (x + 1) /\ I (x + 1) /\ m (x + 1) < m x)) /\ (¬x < (↑c.Props.length : Int) -> ∃ (I : Int -> Prop),∃ (m : Int -> Nat),I (0 : Int) /\ ∀ (x : Int),I x -> (x < (↑c.Comps.length : Int) -> (0 : Int) <= x /\ x < (↑c.Comps.length : Int) /\ OkT (Comp.mk (ix c.Comps x).Name (ix c.Comps x).Props (ix c.Comps x).Comps) /\ cszC (Comp.mk (ix c.Comps x).Name (ix c.Comps x).Props (ix c.Comps x).Comps) < n /\ (¬mayC (Comp.mk (ix c.Comps x).Name (ix c.Comps x).Props (ix c.Comps x).Comps) = true -> Q false) /\ (¬¬mayC (Comp.mk (ix c.Comps x).Name (ix c.Comps x).Props (ix c.Comps x).Comps) = true -> in64 (x + 1) /\ I (x + 1) /\ m (x + 1) < m x)) /\ (¬x < (↑c.Comps.length : Int) -> Q true)))
theorem VZm_ok {n : Nat} {c : Comp} {Q : Bool -> Prop} (h : VZm n c Q) : vcFun (E:=EZm n) (inlN anZm 2) (anZm 30) Tryz.f30 [.agg [.str c.Name,.sl (N:=U) 58 c.Props,.sl (N:=U) 40 c.Comps]] [] [] 0 (resP (EZm n) [.bool] Q):=Eq.mp (show VZm n c Q = vcFun (E:=EZm n) (inlN anZm 2) (anZm 30) Tryz.f30 [.agg [.str c.Name,.sl (N:=U) 58 c.Props,.sl (N:=U) 40 c.Comps]] [] [] 0 (resP (EZm n) [.bool] Q) by kernel_rfl) h
theorem pZm (n : Nat) (c : Comp) (hs : OkT c) (hr : cszC c < n + 1) : VZm n c (fun y=>y = mayC c):=by
 unfold VZm qZm0
 obtain ⟨q1,q2,q3,q4,q5⟩:=hs.out
 have hn : nameB c.Name = true ↔ isName c.Name:=by unfold nameB; exact decide_eq_true_iff
 refine ⟨by omega,fun _=>⟨by omega,by omega⟩,fun h=>?_,fun h=>?_⟩
 . refine (Bool.eq_false_iff.2 fun hm=>?_).symm
   obtain ⟨a,b,_⟩:=mayC_out.1 hm
   rcases h with h | h
   . exact h (hn.2 a)
   . omega
 have hN : isName c.Name /\ c.Name.length + 6 <= 5000:=⟨hn.1 (Classical.byContradiction fun g=>h (.inl g)),Classical.byContradiction fun g=>h (.inr (by omega))⟩
 clear h
 refine ⟨fun i=>0 <= i /\ i <= c.Props.length /\ ∀ p ∈ c.Props.take i.toNat,mayP p = true,fun i=>((c.Props.length : Int) - i).toNat,⟨by omega,by omega,fun p hp=>by cases hp⟩,?_⟩
 rintro i ⟨i0,i1,hi⟩
 refine ⟨fun hl=>?_,fun hl=>?_⟩
 . have hp:=ix_mem i0 hl
   have e:=take_next i0 hl
   generalize ix c.Props i = p at hp e ⊢
   have key:=mayP_print p
   refine ⟨i0,hl,q3 p hp,fun _=>i0,fun _=>hl,fun _=>i0,fun _=>hl,fun h=>?_,fun h=>⟨⟨by omega,by omega⟩,⟨by omega,by omega,?_⟩,by dsimp only; omega⟩⟩
   . refine (Bool.eq_false_iff.2 fun hm=>?_).symm
     obtain ⟨g1,g2,g3,g4⟩:=key.1 ((mayC_out.1 hm).2.2.1 p hp)
     rcases h with ((h | h) | h) | h
     . exact g1 h
     . exact g2 h
     . exact g3 h
     . exact g4 h
   . rw [e]
     intro q hq
     rcases List.mem_append.1 hq with hq | hq
     . exact hi q hq
     . rw [List.mem_singleton.1 hq]
       exact key.2 ⟨fun g=>h (.inl (.inl (.inl g))),fun g=>h (.inl (.inl (.inr g))),fun g=>h (.inl (.inr g)),fun g=>h (.inr g)⟩
 rw [take_full i0 hl] at hi
 refine ⟨fun i=>0 <= i /\ i <= c.Comps.length /\ ∀ d ∈ c.Comps.take i.toNat,mayC d = true,fun i=>((c.Comps.length : Int) - i).toNat,⟨by omega,by omega,fun p hp=>by cases hp⟩,?_⟩
 rintro j ⟨j0,j1,hj⟩
 refine ⟨fun hl=>?_,fun hl=>?_⟩
 . have hp:=ix_mem j0 hl
   have e:=take_next j0 hl
   have hcs:=cszC_in j0 hl
   generalize ix c.Comps j = d at hp e hcs ⊢
   rw [show Comp.mk d.Name d.Props d.Comps = d from by cases d; rfl]
   refine ⟨j0,hl,q5 d hp,show cszC d < n by omega,fun h=>?_,fun h=>⟨⟨by omega,by omega⟩,⟨by omega,by omega,?_⟩,by dsimp only; omega⟩⟩
   . exact (Bool.eq_false_iff.2 fun hm=>h (mayL_iff.1 (mayC_out.1 hm).2.2.2 d hp)).symm
   . rw [e]
     intro q hq
     rcases List.mem_append.1 hq with hq | hq
     . exact hj q hq
     . rw [List.mem_singleton.1 hq]
       exact Classical.byContradiction fun g=>h g
 . rw [take_full j0 hl] at hj
   exact (mayC_out.2 ⟨hN.1,hN.2,hi,mayL_iff.2 hj⟩).symm
theorem cZmn_ok : ∀ (n : Nat) (args : List (SV U)) (q : Q1 U),cZmn n args = some q -> allP q.ob -> LendOK NZR 30 args ⟨q.ob,q.hy,q.v,[]⟩
 | 0,args,q,h,ho=>by
  unfold cZmn at h
  split at h
  . rename_i c0 c1 c2
    cases h
    exact absurd ho.2.1 (Nat.not_lt_zero _)
  . cases h
 | n + 1,args,q,h,ho=>by
  have hE:=EZm_ok (cZmn_ok n)
  unfold cZmn at h
  split at h
  . rename_i c0 c1 c2
    cases h
    exact fun D w vs h1 h2 h3=>lend1 hE (inlN_ok hE anZm 2) Tryz.func30 (k:=.bool) trivial (VZm_ok (pZm n (⟨c0,c1,c2⟩) ho.1 ho.2.1)) 0 D w vs h1 h2 h3
  . cases h
noncomputable def cZm (a : List (SV U)) : Option (Q1 U):=match a with | [.agg [.str c0,.sl 58 c1,.sl 40 c2]]=>some (cZmb [OkT (⟨c0,c1,c2⟩ : Comp)] (⟨c0,c1,c2⟩)) | _=>none
theorem cZm_ok (args : List (SV U)) (q : Q1 U) (h : cZm args = some q) (ho : allP q.ob) : LendOK NZR 30 args ⟨q.ob,q.hy,q.v,[]⟩:=by
 unfold cZm at h
 split at h
 . rename_i c0 c1 c2
   cases h
   exact fun D w vs h1 h2 h3=>cZmn_ok (cszC (⟨c0,c1,c2⟩ : Comp) + 1) [.agg [.str c0,.sl 58 c1,.sl 40 c2]] (cZmb [OkT (⟨c0,c1,c2⟩ : Comp),cszC (⟨c0,c1,c2⟩ : Comp) < cszC (⟨c0,c1,c2⟩ : Comp) + 1] (⟨c0,c1,c2⟩)) rfl ⟨ho.1,Nat.lt_succ_self _,trivial⟩ D w vs h1 h2 h3
 . cases h
noncomputable def NZm : Env:=NZR.addL 30 cZm
theorem NZm_ok : EnvOK NZm:=NZR_ok.addL Tryz.call30 cZm_ok
end Go.Proofs.YtadgfmmmdhlljaaGreatDoor
end
section
namespace Go.Rx
open Go Go.Wk Go.Wl
section
variable {N : Uni}
def ren0 (f : Nat -> Option Nat) : SV N -> Option (SV N)
 | .ref id off=>(f id).map fun j=>.ref j off
 | .acc id=>(f id).map fun j=>.acc j
 | .el id t i off=>(f id).map fun j=>.el j t i off
 | .sub id t lo n=>(f id).map fun j=>.sub j t lo n
 | .ifc _ _=>none
 | .agg _=>none
 | .tup _=>none
 | .clo _ _=>none
 | v=>some v
def renL (f : Nat -> Option Nat) : List (SV N) -> Option (List (SV N))
 | []=>some []
 | v :: r=>match ren0 f v,renL f r with | some v',some r'=>some (v' :: r') | _,_=>none
def ren1 (f : Nat -> Option Nat) : SV N -> Option (SV N)
 | .agg vs=>(renL f vs).map fun vs=>.agg vs
 | .clo K vs=>(renL f vs).map fun vs=>.clo K vs
 | v=>ren0 f v
def renL1 (f : Nat -> Option Nat) : List (SV N) -> Option (List (SV N))
 | []=>some []
 | v :: r=>match ren1 f v,renL1 f r with | some v',some r'=>some (v' :: r') | _,_=>none
def ren2 (f : Nat -> Option Nat) : SV N -> Option (SV N)
 | .tup vs=>(renL1 f vs).map fun vs=>.tup vs
 | v=>ren1 f v
def renI (f : Nat -> Option Nat) : Item N -> Option (Item N)
 | .own T cells=>(renL f cells).map fun vs=>.own T vs
 | .ac t l=>some (.ac t l)
 | .fz t l=>some (.fz t l)
 | .ob k fid x=>(f fid).map fun j=>.ob k j x
 | .rw t n cells=>(renL f cells).map fun vs=>.rw t n vs
def renIs (f : Nat -> Option Nat) : Items N -> Option (Items N)
 | []=>some []
 | p :: r=>match f p.1,renI f p.2,renIs f r with | some i,some it,some r'=>some ((i,it) :: r') | _,_,_=>none
def ids0 : SV N -> List Nat
 | .ref id _=>[id]
 | .acc id=>[id]
 | .el id _ _ _=>[id]
 | .sub id _ _ _=>[id]
 | _=>[]
def ids1 : SV N -> List Nat
 | .agg vs=>vs.flatMap ids0
 | .clo _ vs=>vs.flatMap ids0
 | v=>ids0 v
def idsI : Item N -> List Nat
 | .own _ cells=>cells.flatMap ids0
 | .rw _ _ cells=>cells.flatMap ids0
 | _=>[]
def reach (its : Items N) : Nat -> List Nat -> List Nat -> List Nat
 | 0,_,d=>d
 | _ + 1,[],d=>d
 | n + 1,i :: r,d=>bif d.elem i then reach its n r d else reach its n ((match lk its i with | some it=>idsI it | none=>[]) ++ r) (d ++ [i])
def fidOf (its : Items N) (i : Nat) : Option Nat:=match lk its i with | some (.ob _ f _)=>some f | _=>none
def namesOf (its : Items N) (ids : List Nat) : List (Option Nat):=ids.map some ++ ids.map (fidOf its)
def posO : List (Option Nat) -> Nat -> Nat -> Option Nat
 | [],_,_=>none
 | o :: r,n,i=>match o with | some j=>bif Nat.beq j i then some n else posO r (n + 1) i | none=>posO r (n + 1) i
def back1 (nm : List (Option Nat)) (nx : Nat) (j : Nat) : Option Nat:=match nm[j]? with | some o=>o | none=>some (nx + (j - nm.length))
def selI (its : Items N) (f : Nat -> Option Nat) : Nat -> List Nat -> Option (Items N)
 | _,[]=>some []
 | p,i :: r=>match lk its i with
  | some it=>(match renI f it,selI its f (p + 1) r with | some it',some l=>some ((p,it') :: l) | _,_=>none)
  | none=>none
abbrev PT (N : Uni):=(SV N -> Items N -> Nat -> Prop) -> Prop
abbrev GC (N : Uni):=List (SV N) -> Items N -> Option (PT N)
end
def GenOK (P : Program) (N : Uni) (T : ErrT) (G : Glob) (K : Nat) (args : List (SV N)) (its : Items N) (nx : Nat) (S : PT N) : Prop :=
 ∀ (k : SV N -> Items N -> Nat -> Prop),S k -> ∀ (ρ : Env1) (Z : Nat -> Prop) (w : World) (vs : List Value) (B : List Nat),(∀ i,nx <= i -> ρ i = none) -> Sep B w Z w (toIts N T ρ B its) -> G.is Z w -> Rep N T ρ Z w (.tuple vs.toArray) (.tup args) ->
  CallR P K vs w (fun v w'=>∃ (ρ' : Env1) (Z' : Nat -> Prop) (s : SV N) (its' : Items N) (nx' : Nat),Sep B w Z' w' (toIts N T ρ' B its') /\ (∀ i,nx' <= i -> ρ' i = none) /\ (∀ i L,ρ i = some L -> ρ' i = some L) /\ (∀ b,Z b -> Z' b) /\ (∀ b,Z' b -> Z b ∨ b ∈ B ∨ w.heap.size <= b) /\ Rep N T ρ' Z' w' v s /\ k s its' nx')
def inlG (E : Env) (M : Nat -> Option (GC E.N)) (inl : Inl E) : Inl E:=fun K args its lkd nx k=>match M K with
 | none=>inl K args its lkd nx k
 | some C=>bif (E.inl K).isSome && distinct (reach its 60 (args.flatMap ids1) []) then
  (match renL1 (posO (namesOf its (reach its 60 (args.flatMap ids1) [])) 0) args,selI its (posO (namesOf its (reach its 60 (args.flatMap ids1) [])) 0) 0 (reach its 60 (args.flatMap ids1) []) with
  | some a',some i'=>(match C a' i' with
   | some S=>S (fun s it n=>match ren2 (back1 (namesOf its (reach its 60 (args.flatMap ids1) [])) nx) s,renIs (back1 (namesOf its (reach its 60 (args.flatMap ids1) [])) nx) it with
    | some s',some it'=>k s' (it' ++ without its (reach its 60 (args.flatMap ids1) [])) (nx + (n - (namesOf its (reach its 60 (args.flatMap ids1) [])).length))
    | _,_=>False)
   | none=>False)
  | _,_=>False) else False
section
variable {N : Uni} {T : ErrT} {f : Nat -> Option Nat} {ρ ρ' : Env1} {Z : Nat -> Prop} {w : World} {v : Value} {s s' : SV N} {cs : List Value} {ss ss' : List (SV N)}
def RenOK (f : Nat -> Option Nat) (ρ ρ' : Env1) : Prop:=∀ i j,f i = some j -> ∀ L,ρ i = some L -> ρ' j = some L
theorem ren0_ok (hf : RenOK f ρ ρ') (h : ren0 f s = some s') (r : Rep N T ρ Z w v s) : Rep N T ρ' Z w v s':=by
 cases s with
 | ref id off =>
  simp only [ren0,Option.map_eq_some_iff] at h
  obtain ⟨j,hj,rfl⟩:=h
  cases r with | ref hL=>exact .ref (hf _ _ hj _ hL)
 | acc id =>
  simp only [ren0,Option.map_eq_some_iff] at h
  obtain ⟨j,hj,rfl⟩:=h
  cases r with | acc hL=>exact .acc (hf _ _ hj _ hL)
 | el id t i off =>
  simp only [ren0,Option.map_eq_some_iff] at h
  obtain ⟨j,hj,rfl⟩:=h
  cases r with | el hL h0 h1=>exact .el (hf _ _ hj _ hL) h0 h1
 | sub id t lo n =>
  simp only [ren0,Option.map_eq_some_iff] at h
  obtain ⟨j,hj,rfl⟩:=h
  cases r with | subs hL a b c d e=>exact .subs (hf _ _ hj _ hL) a b c d e
 | ifc t v=>cases h
 | agg vs=>cases h
 | tup vs=>cases h
 | clo K vs=>cases h
 | un=>cases h; exact .un
 | undef=>cases h; cases r; exact .undef
 | int k x=>cases h; cases r with | int h=>exact .int h
 | byte c=>cases h; cases r; exact .byte
 | tt=>cases h; cases r; exact .tt
 | ff=>cases h; cases r; exact .ff
 | bl p d=>cases h; cases r; exact .bl
 | str x=>cases h; cases r with | str h=>exact .str h
 | con x=>cases h; cases r with | con h=>exact .con h
 | nils=>cases h; cases r; exact .nils
 | sl t l=>cases h; cases r with | sl h=>exact .sl h
 | fel t l i off=>cases h; cases r with | fel h a b=>exact .fel h a b
 | err e=>cases h; cases r with | err h=>exact .err h
 | fn K=>cases h; cases r; exact .fn
theorem renL_ok (hf : RenOK f ρ ρ') (h : renL f ss = some ss') (r : RepL N T ρ Z w cs ss) : RepL N T ρ' Z w cs ss':=by
 induction ss generalizing cs ss' with
 | nil=>cases h; obtain rfl:=RepL.nil_inv r; exact RepL.nil
 | cons s ss ih =>
  obtain ⟨u,c,rfl,h1,hp,h2⟩:=RepL.cons_inv r
  simp only [renL] at h
  split at h
  . rename_i a b ha hb
    cases h
    exact RepL.cons (ren0_ok hf ha h1) hp (ih hb h2)
  . cases h
theorem ren1_ok (hf : RenOK f ρ ρ') (h : ren1 f s = some s') (r : Rep N T ρ Z w v s) : Rep N T ρ' Z w v s':=by
 unfold ren1 at h
 split at h
 . obtain ⟨ss',h1,rfl⟩:=Option.map_eq_some_iff.1 h
   obtain ⟨cs,rfl,hr⟩:=Rep.agg_inv r
   exact renL_ok hf h1 hr
 . obtain ⟨ss',h1,rfl⟩:=Option.map_eq_some_iff.1 h
   cases r with
   | clo r=>exact .clo (renL_ok hf h1 r)
 . exact ren0_ok hf h r
theorem renL1_ok (hf : RenOK f ρ ρ') (h : renL1 f ss = some ss') (r : Rep N T ρ Z w (.tuple cs.toArray) (.tup ss)) : Rep N T ρ' Z w (.tuple cs.toArray) (.tup ss'):=by
 induction ss generalizing cs ss' with
 | nil =>
  cases h
  generalize e : Value.tuple cs.toArray = u at r
  cases r with | tup0=>exact .tup0
 | cons s ss ih =>
  obtain ⟨u,c,rfl,h1,h2⟩:=Rep.tup_cons r
  simp only [renL1] at h
  split at h
  . rename_i a b ha hb
    cases h
    exact .tup1 (ren1_ok hf ha h1) (ih hb h2)
  . cases h
theorem ren2_ok (hf : RenOK f ρ ρ') (h : ren2 f s = some s') (r : Rep N T ρ Z w v s) : Rep N T ρ' Z w v s':=by
 unfold ren2 at h
 split at h
 . obtain ⟨ss',h1,rfl⟩:=Option.map_eq_some_iff.1 h
   obtain ⟨cs,rfl⟩:=Rep.tup_inv r
   exact renL1_ok hf h1 r
 . exact ren1_ok hf h r
theorem renI_ok {id id' : Nat} {i i' : Item N} (hf : RenOK f ρ ρ') (hid : f id = some id') (h : renI f i = some i') (r : holds N T ρ id Z w i) : holds N T ρ' id' Z w i' /\ foot N ρ' id' i' = foot N ρ id i:=by
 cases i with
 | own Ty cells =>
  obtain ⟨ss',h1,rfl⟩:=Option.map_eq_some_iff.1 (show (renL f cells).map (fun vs=>Item.own Ty vs) = some i' from h)
  obtain ⟨L,cs,hL,hbs,ho,hr⟩:=r
  have hL':=hf _ _ hid _ hL
  exact ⟨⟨L,cs,hL',hbs,ho,renL_ok hf h1 hr⟩,by rw [foot_own hL,foot_own hL']⟩
 | ac t l =>
  cases h
  obtain ⟨L,hL,r⟩:=r
  have hL':=hf _ _ hid _ hL
  exact ⟨⟨L,hL',r⟩,by rw [foot_ac hL,foot_ac hL']⟩
 | fz t l =>
  cases h
  obtain ⟨L,hL,r⟩:=r
  exact ⟨⟨L,hf _ _ hid _ hL,r⟩,rfl⟩
 | ob k fid x =>
  obtain ⟨j,h1,rfl⟩:=Option.map_eq_some_iff.1 (show (f fid).map (fun j=>Item.ob k j x) = some i' from h)
  obtain ⟨L,Lf,hL,hLf,r⟩:=r
  have hL':=hf _ _ hid _ hL
  have hLf':=hf _ _ h1 _ hLf
  exact ⟨⟨L,Lf,hL',hLf',r⟩,by rw [foot_ob hLf,foot_ob hLf']⟩
 | rw t n cells =>
  obtain ⟨ss',h1,rfl⟩:=Option.map_eq_some_iff.1 (show (renL f cells).map (fun vs=>Item.rw t n vs) = some i' from h)
  obtain ⟨L,F,hL,hn,hb,hA,hr,hrep⟩:=r
  have hL':=hf _ _ hid _ hL
  exact ⟨⟨L,F,hL',hn,hb,hA,hr,renL_ok hf h1 hrep⟩,by rw [foot_rw hL,foot_rw hL']⟩
theorem holds_some {id : Nat} {i : Item N} (h : holds N T ρ id Z w i) : (∃ L,ρ id = some L) /\ ∀ k fid x,i = .ob k fid x -> ∃ L,ρ fid = some L:=by
 cases i with
 | own Ty cells=>obtain ⟨L,cs,hL,_⟩:=h; exact ⟨⟨L,hL⟩,fun _ _ _ e=>by cases e⟩
 | ac t l=>obtain ⟨L,hL,_⟩:=h; exact ⟨⟨L,hL⟩,fun _ _ _ e=>by cases e⟩
 | fz t l=>obtain ⟨L,hL,_⟩:=h; exact ⟨⟨L,hL⟩,fun _ _ _ e=>by cases e⟩
 | ob k fid x=>obtain ⟨L,Lf,hL,hLf,_⟩:=h; exact ⟨⟨L,hL⟩,fun _ _ _ e=>by cases e; exact ⟨Lf,hLf⟩⟩
 | rw t n cells=>obtain ⟨L,F,hL,_⟩:=h; exact ⟨⟨L,hL⟩,fun _ _ _ e=>by cases e⟩
theorem posO_ok {nm : List (Option Nat)} {n i p : Nat} (h : posO nm n i = some p) : n <= p /\ nm[p - n]? = some (some i):=by
 induction nm generalizing n with
 | nil=>cases h
 | cons o r ih =>
  unfold posO at h
  cases o with
  | none =>
   obtain ⟨h1,h2⟩:=ih h
   refine ⟨by omega,?_⟩
   have : p - n = (p - (n + 1)) + 1:=by omega
   rw [this,List.getElem?_cons_succ]; exact h2
  | some j =>
   simp only at h
   cases hb : Nat.beq j i with
   | true =>
    rw [hb,cond_true] at h
    cases h
    have:=Nat.eq_of_beq_eq_true hb
    subst this
    exact ⟨Nat.le_refl _,by simp⟩
   | false =>
    rw [hb,cond_false] at h
    obtain ⟨h1,h2⟩:=ih h
    refine ⟨by omega,?_⟩
    have : p - n = (p - (n + 1)) + 1:=by omega
    rw [this,List.getElem?_cons_succ]; exact h2
theorem selI_ok {its : Items N} : ∀ {ids : List Nat} {p : Nat} {l : Items N},selI its f p ids = some l -> l.length = ids.length /\ ∀ (k : Nat) (q : Nat × Item N),l[k]? = some q -> ∃ i it,ids[k]? = some i /\ lk its i = some it /\ renI f it = some q.2 /\ q.1 = p + k
 | [],_,l,h=>by cases h; exact ⟨rfl,fun k q h=>by simp at h⟩
 | i :: r,p,l,h=>by
  simp only [selI] at h
  split at h
  . rename_i it hit
    split at h
    . rename_i it' l' h1 h2
      cases h
      obtain ⟨e,g⟩:=selI_ok h2
      refine ⟨by simp [e],fun k q hk=>?_⟩
      cases k with
      | zero=>simp at hk; subst hk; exact ⟨i,it,rfl,hit,h1,rfl⟩
      | succ k =>
       obtain ⟨i',it2,a,b,c,d⟩:=g k q (by simpa using hk)
       exact ⟨i',it2,by simpa using a,b,c,by omega⟩
    . cases h
  . cases h
theorem renIs_ok : ∀ {its its' : Items N},renIs f its = some its' -> its'.length = its.length /\ ∀ (k : Nat) (q : Nat × Item N),its'[k]? = some q -> ∃ p,its[k]? = some p /\ f p.1 = some q.1 /\ renI f p.2 = some q.2
 | [],its',h=>by cases h; exact ⟨rfl,fun k q h=>by simp at h⟩
 | p :: r,its',h=>by
  simp only [renIs] at h
  split at h
  . rename_i i it r' h1 h2 h3
    cases h
    obtain ⟨e,g⟩:=renIs_ok h3
    refine ⟨by simp [e],fun k q hk=>?_⟩
    cases k with
    | zero=>simp at hk; subst hk; exact ⟨p,rfl,h1,h2⟩
    | succ k=>obtain ⟨p',a,b⟩:=g k q (by simpa using hk); exact ⟨p',by simpa using a,b⟩
  . cases h
end
end Go.Rx
end
section
namespace Go.Rx
open Go Go.Wk Go.Wl
section
variable {E : Env} {C : Ctx} {ρ : Env1} {Z : Nat -> Prop} {w : World} {its lkd : Items E.N} {nx : Nat} {inl : Inl E}
theorem lk_at {its : Items E.N} {i : Nat} {it : Item E.N} (h : lk its i = some it) : ∃ j : Nat,its[j]? = some (i,it):=by
 obtain ⟨j,hj,_⟩:=lk_mem h
 exact ⟨j,hj⟩
def footOf (E : Env) (ρ : Env1) (its : Items E.N) (i : Nat) : List Nat:=match lk its i with | some it=>foot E.N ρ i it | none=>[]
theorem inlG_ok {M : Nat -> Option (GC E.N)} (hM : ∀ K Cf args its S,M K = some Cf -> Cf args its = some S -> GenOK E.P E.N E.T E.G K args its (2 * its.length) S) (hI : InlOK E inl) : InlOK E (inlG E M inl):=by
 intro K args its lkd nx k hv
 unfold inlG at hv
 split at hv
 . exact hI K args its lkd nx k hv
 . rename_i Cf hC
   generalize reach its 60 (args.flatMap ids1) [] = ids at hv
   cases hb : ((E.inl K).isSome && distinct ids) with
   | false=>rw [hb,cond_false] at hv; exact hv.elim
   | true =>
    rw [hb,cond_true] at hv
    simp only [Bool.and_eq_true] at hb
    obtain ⟨hin,hd⟩:=hb
    have hnd:=distinct_nodup hd
    refine ⟨hin,fun C ρ Z w vs hm hg ha0=>?_⟩
    generalize hnm : namesOf its ids = nm at hv
    have hlen : nm.length = 2 * ids.length:=by rw [<- hnm]; unfold namesOf; simp only [List.length_append,List.length_map]; omega
    split at hv
    . rename_i a' i' ha hi
      split at hv
      . rename_i S hS
        obtain ⟨hil,hsel⟩:=selI_ok hi
        have hm2 : Mem E C ρ Z w (within its ids ++ (without its ids ++ lkd)) nx:=hm.perm (by rw [<- List.append_assoc]; exact (split_perm its ids).append_right lkd)
        -- the parts chosen
        have pick : ∀ (p i : Nat),ids[p]? = some i -> ∃ it j,lk its i = some it /\ (within its ids)[j]? = some (i,it):=fun p i hp=>by
         have hlt : p < i'.length:=by rw [hil]; exact lt_get hp
         obtain ⟨i2,it,h1,h2,_⟩:=hsel p _ (List.getElem?_eq_getElem hlt)
         rw [hp] at h1; cases h1
         obtain ⟨j,hj⟩:=lk_at h2
         have hmem : (i,it) ∈ within its ids:=List.mem_filter.2 ⟨List.mem_of_getElem? hj,List.elem_eq_true_of_mem (List.mem_of_getElem? hp)⟩
         obtain ⟨j2,hj2⟩:=List.getElem?_of_mem hmem
         exact ⟨it,j2,h2,hj2⟩
        have holdsI : ∀ (j : Nat) (i : Nat) (it : Item E.N),(within its ids)[j]? = some (i,it) -> holds E.N E.T ρ i Z w it:=fun j i it hj=>hm2.holds (its_get (l2:=without its ids ++ lkd) hj)
        have named : ∀ (j i : Nat),nm[j]? = some (some i) -> ∃ L,ρ i = some L:=fun j i hj=>by
         rw [<- hnm] at hj
         unfold namesOf at hj
         by_cases hlt : j < ids.length
         . rw [List.getElem?_append_left (by simpa using hlt),List.getElem?_map] at hj
           obtain ⟨i2,h1,h2⟩:=Option.map_eq_some_iff.1 hj
           cases h2
           obtain ⟨it,j2,_,hj2⟩:=pick j i h1
           exact (holds_some (holdsI j2 i it hj2)).1
         . rw [List.getElem?_append_right (by simpa using Nat.le_of_not_lt hlt),List.getElem?_map] at hj
           obtain ⟨i2,h1,h2⟩:=Option.map_eq_some_iff.1 hj
           obtain ⟨it,j2,hlk,hj2⟩:=pick _ i2 h1
           unfold fidOf at h2
           rw [hlk] at h2
           cases it with
           | ob kk f x=>cases h2; exact (holds_some (holdsI j2 i2 _ hj2)).2 kk i x rfl
           | _=>cases h2
        let ρc : Env1:=fun p=>match nm[p]? with | some (some i)=>ρ i | _=>none
        have hρc : ∀ p i,nm[p]? = some (some i) -> ρc p = ρ i:=fun p i h=>by show (match nm[p]? with | some (some i)=>ρ i | _=>none) = _; rw [h]
        have hf : RenOK (posO nm 0) ρ ρc:=fun i p h L hL=>by
         obtain ⟨_,h2⟩:=posO_ok h
         rw [hρc p i (by simpa using h2)]; exact hL
        let B : List Nat:=ids.flatMap (footOf E ρ its)
        have hB : ∀ b ∈ B,∃ (i j : Nat) (it : Item E.N),(within its ids)[j]? = some (i,it) /\ b ∈ foot E.N ρ i it:=fun b hb=>by
         obtain ⟨i,hi1,hb⟩:=List.mem_flatMap.1 hb
         obtain ⟨p,hp⟩:=List.getElem?_of_mem hi1
         obtain ⟨it,j,hlk,hj⟩:=pick p i hp
         unfold footOf at hb
         rw [hlk] at hb
         exact ⟨i,j,it,hj,hb⟩
        have okW : ∀ (j : Nat) (i : Nat) (it : Item E.N),(within its ids)[j]? = some (i,it) -> (toIt E.N E.T ρ C.B0 i it).Ok C.B0 C.w0 Z w:=fun j i it hj=>hm2.sep.ok j _ (toIts_at (its_get (l2:=without its ids ++ lkd) hj))
        -- the parts under their own names
        have parts : ∀ (p : Nat) (q : Nat × Item E.N),i'[p]? = some q -> ∃ i it j,ids[p]? = some i /\ (within its ids)[j]? = some (i,it) /\ holds E.N E.T ρc q.1 Z w q.2 /\ foot E.N ρc q.1 q.2 = foot E.N ρ i it:=fun p q hq=>by
         obtain ⟨i,it,h1,h2,h3,h4⟩:=hsel p q hq
         obtain ⟨it2,j,hlk,hj⟩:=pick p i h1
         rw [h2] at hlk; cases hlk
         have hid : RenOK (fun x=>if x = i then some q.1 else posO nm 0 x) ρ ρc:=fun x y e L hL=>by
          simp only at e
          split at e
          . rename_i ex; cases e; subst ex
            have hn : nm[q.1]? = some (some x):=by
             rw [<- hnm]; unfold namesOf
             have : p < ids.length:=lt_get h1
             rw [h4,Nat.zero_add,List.getElem?_append_left (by simpa using this),List.getElem?_map,h1]; rfl
            rw [hρc _ _ hn]; exact hL
          . exact hf x y e L hL
         have h3' : renI (posO nm 0) it = some q.2:=h3
         have hh:=holdsI j i it hj
         -- names of cells
         have : holds E.N E.T ρc q.1 Z w q.2 /\ foot E.N ρc q.1 q.2 = foot E.N ρ i it:=by
          obtain ⟨L,hL⟩:=(holds_some hh).1
          have hq1 : ρc q.1 = some L:=by
           have:=hid i q.1 (by simp) L hL
           exact this
          cases it with
          | own Ty cells =>
           obtain ⟨ss',e1,e2⟩:=Option.map_eq_some_iff.1 (show (renL (posO nm 0) cells).map (fun vs=>Item.own Ty vs) = some q.2 from h3')
           rw [<- e2]
           obtain ⟨L',cs,hL',hbs,ho,hr⟩:=hh
           rw [hL] at hL'; cases hL'
           exact ⟨⟨L,cs,hq1,hbs,ho,renL_ok hf e1 hr⟩,by rw [foot_own hL,foot_own hq1]⟩
          | ac t l =>
           have e2 : Item.ac t l = q.2:=Option.some.inj h3'
           rw [<- e2]
           obtain ⟨L',hL',r⟩:=hh
           rw [hL] at hL'; cases hL'
           exact ⟨⟨L,hq1,r⟩,by rw [foot_ac hL,foot_ac hq1]⟩
          | fz t l =>
           have e2 : Item.fz t l = q.2:=Option.some.inj h3'
           rw [<- e2]
           obtain ⟨L',hL',r⟩:=hh
           rw [hL] at hL'; cases hL'
           exact ⟨⟨L,hq1,r⟩,rfl⟩
          | ob kk fid x =>
           obtain ⟨jf,e1,e2⟩:=Option.map_eq_some_iff.1 (show (posO nm 0 fid).map (fun j=>Item.ob kk j x) = some q.2 from h3')
           rw [<- e2]
           obtain ⟨L',Lf,hL',hLf,r⟩:=hh
           rw [hL] at hL'; cases hL'
           have hLf':=hf _ _ e1 _ hLf
           exact ⟨⟨L,Lf,hq1,hLf',r⟩,by rw [foot_ob hLf,foot_ob hLf']⟩
          | rw t n cells =>
           obtain ⟨ss',e1,e2⟩:=Option.map_eq_some_iff.1 (show (renL (posO nm 0) cells).map (fun vs=>Item.rw t n vs) = some q.2 from h3')
           rw [<- e2]
           obtain ⟨L',F,hL',hn,hb,hA,hr,hrep⟩:=hh
           rw [hL] at hL'; cases hL'
           exact ⟨⟨L,F,hq1,hn,hb,hA,hr,renL_ok hf e1 hrep⟩,by rw [foot_rw hL,foot_rw hq1]⟩
         exact ⟨i,it,j,h1,hj,this.1,this.2⟩
        have hsep : Sep B w Z w (toIts E.N E.T ρc B i'):=by
         refine ⟨Ext.refl _ _,hm.sep.zlt,fun p t hp=>?_,fun p p2 t t2 hp hp2 hne b hb hb2=>?_⟩
         . obtain ⟨q,hq,rfl⟩:=toIts_get hp
           obtain ⟨i,it,j,h1,hj,h2,h3⟩:=parts p q hq
           have ok:=okW j i it hj
           have hF : ∀ b,b ∈ foot E.N ρc q.1 q.2 -> b ∈ foot E.N ρ i it:=fun b hb=>by rw [<- h3]; exact hb
           refine ⟨h2,toIt_stab,fun b hb=>ok.lt b (hF b hb),fun b hb=>ok.notZ b (hF b hb),fun b hb=>.inl ?_,fun b hb=>hb⟩
           refine List.mem_flatMap.2 ⟨i,List.mem_of_getElem? h1,?_⟩
           obtain ⟨it2,j2,hlk,hj2⟩:=pick p i h1
           have hlk' : lk its i = some it:=by
            obtain ⟨i3,it3,g1,g2,g3,g4⟩:=hsel p q hq
            rw [h1] at g1; cases g1
            obtain ⟨i5,it5,j5,k1,k2,_⟩:=parts p q hq
            rw [hlk]
            by_cases e : it2 = it
            . rw [e]
            . exfalso
              have e1:=hm2.sep.apart j j2 _ _ (toIts_at (its_get (l2:=without its ids ++ lkd) hj)) (toIts_at (its_get (l2:=without its ids ++ lkd) hj2)) (fun ej=>by subst ej; rw [hj] at hj2; cases hj2; exact e rfl) b (hF b hb)
              have f1 : foot E.N ρ i it2 = foot E.N ρ i it:=by
               have : foot E.N ρc q.1 q.2 = foot E.N ρ i it2:=by
                rw [g2] at hlk; cases hlk
                have hh:=holdsI j2 i it2 hj2
                obtain ⟨L,hL⟩:=(holds_some hh).1
                have hn : nm[q.1]? = some (some i):=by
                 rw [<- hnm]; unfold namesOf
                 have : p < ids.length:=lt_get h1
                 rw [g4,Nat.zero_add,List.getElem?_append_left (by simpa using this),List.getElem?_map,h1]; rfl
                have hq1 : ρc q.1 = some L:=by rw [hρc _ _ hn]; exact hL
                cases it2 with
                | own Ty cells =>
                 obtain ⟨ss',e1,e2⟩:=Option.map_eq_some_iff.1 (show (renL (posO nm 0) cells).map (fun vs=>Item.own Ty vs) = some q.2 from g3)
                 rw [<- e2,foot_own hL,foot_own hq1]
                | ac t l =>
                 have e2 : Item.ac t l = q.2:=Option.some.inj g3
                 rw [<- e2,foot_ac hL,foot_ac hq1]
                | fz t l =>
                 have e2 : Item.fz t l = q.2:=Option.some.inj g3
                 rw [<- e2]; rfl
                | ob kk fid x =>
                 obtain ⟨jf,e1,e2⟩:=Option.map_eq_some_iff.1 (show (posO nm 0 fid).map (fun j=>Item.ob kk j x) = some q.2 from g3)
                 obtain ⟨Lf,hLf⟩:=(holds_some hh).2 kk fid x rfl
                 have hLf':=hf _ _ e1 _ hLf
                 rw [<- e2,foot_ob hLf,foot_ob hLf']
                | rw t n cells =>
                 obtain ⟨ss',e1,e2⟩:=Option.map_eq_some_iff.1 (show (renL (posO nm 0) cells).map (fun vs=>Item.rw t n vs) = some q.2 from g3)
                 rw [<- e2,foot_rw hL,foot_rw hq1]
               rw [<- this,h3]
              exact e1 (by show b ∈ foot E.N ρ i it2; rw [f1]; exact hF b hb)
           unfold footOf
           rw [hlk']
           exact hF b hb
         . obtain ⟨q,hq,rfl⟩:=toIts_get hp
           obtain ⟨q2,hq2,rfl⟩:=toIts_get hp2
           obtain ⟨i,it,j,h1,hj,_,h3⟩:=parts p q hq
           obtain ⟨i2,it2,j2,g1,gj,_,g3⟩:=parts p2 q2 hq2
           have hii : i ≠ i2:=fun e=>by
            subst e
            have hl1:=lt_get h1
            have hl2:=lt_get g1
            rw [List.getElem?_eq_getElem hl1] at h1
            rw [List.getElem?_eq_getElem hl2] at g1
            cases h1
            exact hne ((List.getElem_inj hnd).1 (Option.some.inj g1).symm)
           refine hm2.sep.apart j j2 _ _ (toIts_at (its_get (l2:=without its ids ++ lkd) hj)) (toIts_at (its_get (l2:=without its ids ++ lkd) gj)) (fun e=>by subst e; rw [hj] at gj; cases gj; exact hii rfl) b ?_ ?_
           . show b ∈ foot E.N ρ i it; rw [<- h3]; exact hb
           . show b ∈ foot E.N ρ i2 it2; rw [<- g3]; exact hb2
        have hnl : 2 * i'.length = nm.length:=by rw [hlen,hil]
        have run:=hM K Cf a' i' S hC hS _ hv ρc Z w vs B (fun i hi=>by
         show (match nm[i]? with | some (some i)=>ρ i | _=>none) = none
         rw [List.getElem?_eq_none (by omega)]) hsep hg (renL1_ok hf ha ha0)
        refine run.mono fun v w' ⟨ρ',Z',s,it,n',hs',hfr',hρ',hz1,hz2,hr',hk⟩=>?_
        split at hk
        . rename_i s' it' h1 h2
          let ρ2 : Env1:=fun i=>if i < nx then ρ i else ρ' (nm.length + (i - nx))
          have old : ∀ i L,ρ i = some L -> ρ2 i = some L:=fun i L h=>by
           have : i < nx:=by
            rcases Nat.lt_or_ge i nx with h1 | h1
            . exact h1
            . rw [hm.fr i h1] at h; cases h
           show (if i < nx then ρ i else _) = _
           rw [if_pos this]; exact h
          have hf2 : RenOK (back1 nm nx) ρ' ρ2:=fun j i h L hL=>by
           unfold back1 at h
           cases hj : nm[j]? with
           | some o =>
            rw [hj] at h
            simp only at h
            subst h
            obtain ⟨L2,hL2⟩:=named j i hj
            have:=hρ' j L2 (by rw [hρc j i hj]; exact hL2)
            rw [hL] at this; cases this
            exact old i L hL2
           | none =>
            rw [hj] at h
            cases h
            have hge : nm.length <= j:=by
             rcases Nat.lt_or_ge j nm.length with h1 | h1
             . rw [List.getElem?_eq_getElem h1] at hj; cases hj
             . exact h1
            show (if nx + (j - nm.length) < nx then _ else ρ' (nm.length + (nx + (j - nm.length) - nx))) = some L
            rw [if_neg (by omega)]
            have e : nm.length + (nx + (j - nm.length) - nx) = j:=by omega
            rw [e]; exact hL
          obtain ⟨itl,itp⟩:=renIs_ok h2
          have x:=hs'.ext
          have w0le:=hm.sep.ext.size
          have Bold : ∀ b ∈ B,b < w.heap.size /\ ¬ Z b /\ (b ∈ C.B0 ∨ C.w0.heap.size <= b):=fun b hb=>by
           obtain ⟨i,j,it,hj,hb⟩:=hB b hb
           have ok:=okW j i it hj
           exact ⟨ok.lt b hb,ok.notZ b hb,ok.org b hb⟩
          -- what is new,or was turned
          have newF : ∀ {p : Nat} {q : Nat × Item E.N},it'[p]? = some q -> ∃ q0,it[p]? = some q0 /\ holds E.N E.T ρ2 q.1 Z' w' q.2 /\ foot E.N ρ2 q.1 q.2 = foot E.N ρ' q0.1 q0.2 /\ ∀ b ∈ foot E.N ρ2 q.1 q.2,b < w'.heap.size /\ ¬ Z' b /\ (b ∈ B ∨ w.heap.size <= b):=fun {p q} hq=>by
           obtain ⟨q0,h3,h4,h5⟩:=itp p q hq
           have ok:=hs'.ok p _ (toIts_at h3)
           obtain ⟨a1,a2⟩:=renI_ok (T:=E.T) (Z:=Z') (w:=w') hf2 h4 h5 ok.holds
           refine ⟨q0,h3,a1,a2,fun b hb=>?_⟩
           rw [a2] at hb
           exact ⟨ok.lt b hb,ok.notZ b hb,ok.org b hb⟩
          -- what lay beside
          have rest : ∀ {p : Nat} {q : Nat × Item E.N},(without its ids ++ lkd)[p]? = some q -> holds E.N E.T ρ2 q.1 Z' w' q.2 /\ foot E.N ρ2 q.1 q.2 = foot E.N ρ q.1 q.2 /\ ∀ b ∈ foot E.N ρ q.1 q.2,b < w.heap.size /\ ¬ Z' b /\ (b ∈ C.B0 ∨ C.w0.heap.size <= b) /\ b ∉ B:=fun {p q} hq=>by
           have hq2 : (within its ids ++ (without its ids ++ lkd))[(within its ids).length + p]? = some q:=by rw [List.getElem?_append_right (by omega)]; simpa using hq
           have ok:=hm2.sep.ok _ _ (toIts_at hq2)
           have nB : ∀ b ∈ foot E.N ρ q.1 q.2,b ∉ B:=fun b hb hbB=>by
            obtain ⟨i,j,it,hj,hb2⟩:=hB b hbB
            have hjl:=lt_get hj
            exact hm2.sep.apart _ j _ _ (toIts_at hq2) (toIts_at (its_get (l2:=without its ids ++ lkd) hj)) (by omega) b hb hb2
           have h1 : holds E.N E.T ρ q.1 Z' w' q.2:=toIt_stab (B0:=C.B0) Z Z' B w w' (hm2.holds hq2) x (fun b hb h=>by
            rcases h with h | h
            . exact absurd hb (nB b h)
            . exact absurd h (Bold b hb).2.1) hz1
           obtain ⟨a1,a2⟩:=holds_sub old h1
           refine ⟨a1,a2,fun b hb=>⟨ok.lt b hb,fun hz=>?_,ok.org b hb,nB b hb⟩⟩
           rcases hz2 b hz with h | h | h
           . exact ok.notZ b hb h
           . exact nB b hb h
           . have : b < w.heap.size:=ok.lt b hb
             omega
          refine ⟨ρ2,Z',s',it' ++ without its ids,nx + (n' - nm.length),⟨⟨hm.sep.ext.trans x (fun b hb=>.inl hb) (fun b hb=>(Bold b hb).2.2),hs'.zlt,fun p t hp=>?_,fun p p2 t t2 hp hp2 hne b hb hb2=>?_⟩,fun i hi=>?_,fun i L e=>old i L (hm.ge i L e),fun b h=>hz1 b (hm.zge b h),fun b h=>?_⟩,⟨old,fun b h _=>hz1 b h,B,x,fun b hb hz=>absurd hz (Bold b hb).2.1⟩,ren2_ok hf2 h1 hr',hk⟩
          . rw [List.append_assoc] at hp
            obtain ⟨q,hq,rfl⟩:=toIts_get hp
            by_cases hlt : p < it'.length
            . rw [List.getElem?_append_left hlt] at hq
              obtain ⟨q0,_,h3,h4,h5⟩:=newF hq
              refine ⟨h3,toIt_stab,fun b hb=>(h5 b hb).1,fun b hb=>(h5 b hb).2.1,fun b hb=>?_,fun b hb=>hb⟩
              rcases (h5 b hb).2.2 with h | h
              . exact (Bold b h).2.2
              . exact .inr (by omega)
            . rw [List.getElem?_append_right (by omega)] at hq
              obtain ⟨h3,h4,h5⟩:=rest hq
              have hF : ∀ b,b ∈ foot E.N ρ2 q.1 q.2 -> b ∈ foot E.N ρ q.1 q.2:=fun b hb=>by rw [<- h4]; exact hb
              exact ⟨h3,toIt_stab,fun b hb=>by have:=(h5 b (hF b hb)).1; have:=x.size; omega,fun b hb=>(h5 b (hF b hb)).2.1,fun b hb=>(h5 b (hF b hb)).2.2.1,fun b hb=>hb⟩
          . rw [List.append_assoc] at hp hp2
            obtain ⟨q,hq,rfl⟩:=toIts_get hp
            obtain ⟨q2,hq2,rfl⟩:=toIts_get hp2
            have hb : b ∈ foot E.N ρ2 q.1 q.2:=hb
            have hb2 : b ∈ foot E.N ρ2 q2.1 q2.2:=hb2
            have cross : ∀ {u v : Nat × Item E.N} {a c : Nat},it'[a]? = some u -> (without its ids ++ lkd)[c]? = some v -> b ∈ foot E.N ρ2 u.1 u.2 -> b ∈ foot E.N ρ2 v.1 v.2 -> False:=fun {u v a c} hu hv h1 h2=>by
             obtain ⟨_,_,_,_,h3⟩:=newF hu
             obtain ⟨_,h4,h5⟩:=rest hv
             rw [h4] at h2
             obtain ⟨g1,_,_,g2⟩:=h5 b h2
             rcases (h3 b h1).2.2 with h | h
             . exact g2 h
             . omega
            by_cases e1 : p < it'.length
            . rw [List.getElem?_append_left e1] at hq
              by_cases e2 : p2 < it'.length
              . rw [List.getElem?_append_left e2] at hq2
                obtain ⟨u,hu,_,hu2,_⟩:=newF hq
                obtain ⟨u2,hv,_,hv2,_⟩:=newF hq2
                rw [hu2] at hb
                rw [hv2] at hb2
                exact hs'.apart p p2 _ _ (toIts_at hu) (toIts_at hv) hne b hb hb2
              . rw [List.getElem?_append_right (by omega)] at hq2
                exact cross hq hq2 hb hb2
            . rw [List.getElem?_append_right (by omega)] at hq
              by_cases e2 : p2 < it'.length
              . rw [List.getElem?_append_left e2] at hq2
                exact cross hq2 hq hb2 hb
              . rw [List.getElem?_append_right (by omega)] at hq2
                rw [(rest hq).2.1] at hb
                rw [(rest hq2).2.1] at hb2
                have g1 : (within its ids ++ (without its ids ++ lkd))[(within its ids).length + (p - it'.length)]? = some q:=by rw [List.getElem?_append_right (by omega)]; simpa using hq
                have g2 : (within its ids ++ (without its ids ++ lkd))[(within its ids).length + (p2 - it'.length)]? = some q2:=by rw [List.getElem?_append_right (by omega)]; simpa using hq2
                exact hm2.sep.apart _ _ _ _ (toIts_at g1) (toIts_at g2) (by omega) b hb hb2
          . show (if i < nx then ρ i else ρ' (nm.length + (i - nx))) = none
            rw [if_neg (by omega)]
            exact hfr' _ (by omega)
          . rcases hz2 b h with h | h | h
            . exact hm.zle b h
            . exact .inr (Bold b h).2.2
            . exact .inr (.inr (by omega))
        . exact hk.elim
      . exact hv.elim
    . exact hv.elim
def bslots (E : Env) (its : Items E.N) : Slots E.N:=its.filterMap fun p=>match p.2 with | .own _ _=>some (200 + p.1,.ref p.1 0) | .ob _ _ _=>some (200 + p.1,.ref p.1 0) | _=>none
def st0 (E : Env) (its : Items E.N) (nx : Nat) : E.St:=⟨bslots E its,[],its,nx⟩
def ansS (n : Nat) (s : E.SV) : Option (List E.SV):=match n with
 | 1=>some [s]
 | _=>(match s with | .tup vs=>bif Nat.beq vs.length n then some vs else none | _=>none)
def endG (E : Env) (its0 : Items E.N) (nx0 n : Nat) (ss : List (List LV)) (P : ShP E.N ss) : E.SV -> Items E.N -> Nat -> Prop:=fun s its nx=>match ansS n s with
 | some vs=>rbS E [] (st0 E its0 nx0) [] ⟨number 0 vs ++ bslots E its0,[],its,nx⟩ ss P (fun im=>im.1)
 | none=>False
def slotsTo (E : Env) (st : E.St) : Nat -> Nat -> List E.SV
 | 0,_=>[]
 | n + 1,i=>slotOf [] st i :: slotsTo E st n (i + 1)
def ansOf (E : Env) (n : Nat) (st : E.St) : E.SV:=match n with
 | 1=>slotOf [] st 0
 | n=>.tup (slotsTo E st n 0)
theorem slotsTo_get {st : E.St} : ∀ (n i k : Nat) (s : E.SV),(slotsTo E st n i)[k]? = some s -> s = slotOf [] st (i + k) /\ k < n
 | 0,i,k,s,h=>by simp [slotsTo] at h
 | n + 1,i,k,s,h=>by
  cases k with
  | zero=>simp [slotsTo] at h; exact ⟨h.symm,by omega⟩
  | succ k =>
   obtain ⟨a,b⟩:=slotsTo_get n (i + 1) k s (by simpa [slotsTo] using h)
   exact ⟨by rw [a]; congr 1; omega,by omega⟩
theorem slotsTo_len {st : E.St} : ∀ (n i : Nat),(slotsTo E st n i).length = n
 | 0,_=>rfl
 | n + 1,i=>by simp [slotsTo,slotsTo_len n (i + 1)]
theorem lk_number {vs : List E.SV} {r : Slots E.N} : ∀ (i k : Nat) (s : E.SV),lk (number i vs ++ r) k = some s -> (∃ j,k = i + j /\ vs[j]? = some s) ∨ ((∀ j,j < vs.length -> k ≠ i + j) /\ lk r k = some s):=by
 induction vs with
 | nil=>intro i k s h; exact .inr ⟨fun j hj=>by simp at hj,h⟩
 | cons v vs ih =>
  intro i k s h
  have h : (bif Nat.beq i k then some v else lk (number (i + 1) vs ++ r) k) = some s:=h
  cases hb : Nat.beq i k with
  | true =>
   rw [hb,cond_true] at h
   cases h
   have:=Nat.eq_of_beq_eq_true hb
   exact .inl ⟨0,by omega,rfl⟩
  | false =>
   rw [hb,cond_false] at h
   have hne : i ≠ k:=fun e=>by subst e; rw [Nat.beq_refl] at hb; cases hb
   rcases ih (i + 1) k s h with ⟨j,e,hj⟩ | ⟨h1,h2⟩
   . exact .inl ⟨j + 1,by omega,by simpa using hj⟩
   . refine .inr ⟨fun j hj=>?_,h2⟩
     cases j with
     | zero=>omega
     | succ j=>have:=h1 j (by simpa using hj); omega
theorem gen_ok (hE : EnvOK E) (hI : InlOK E inl) {K n : Nat} {fn : Func} {an : Ann} (hf : E.P.funcs[K]? = some fn) (hn : Nat.ble n 200 = true) {args : List E.SV} {ss : List (List LV)} {P : ShP E.N ss} {S : PT E.N}
  (hv : vcFun inl an fn args its [] nx (endG E its nx n ss P)) (hS : ∀ k,S k -> allS E [] (st0 E its nx) ss P (fun im new=>im.1 -> k (ansOf E n new) new.items new.nx)) : GenOK E.P E.N E.T E.G K args its nx S:=by
 intro k hk ρ Z w vs B hfr hsep hg ha
 have hn:=Nat.le_of_ble_eq_true hn
 let C : Ctx:=⟨ρ,Z,w,B,w⟩
 have hm : Mem E C ρ Z w (its ++ []) nx:=⟨by rw [List.append_nil]; exact hsep,hfr,fun _ _ h=>h,fun _ h=>h,fun _ h=>.inl h⟩
 refine (vcFun_ok hE hI hf hv hm hg ha).mono fun v w' ⟨ρ',Z',s,its',nx',hm',ht,hr,hp⟩=>?_
 unfold endG at hp
 split at hp
 . rename_i vs' hvs
   let fb : Fr:=fun k=>match ρ (k - 200) with | some L=>.pointer (some ⟨L.b,0,none⟩) | none=>Go.undef
   have hb : ∀ k s,lk (bslots E its) k = some s -> ∃ i L,k = 200 + i /\ s = .ref i 0 /\ ρ i = some L:=fun k s h=>by
    obtain ⟨j,hj,_⟩:=lk_mem h
    obtain ⟨p,hp,e⟩:=List.mem_filterMap.1 (List.mem_of_getElem? hj)
    obtain ⟨j2,hj2⟩:=List.getElem?_of_mem hp
    have hh:=hm.holds (its_get (l2:=[]) hj2)
    obtain ⟨L,hL⟩:=(holds_some hh).1
    obtain ⟨i,it⟩:=p
    cases it with
    | own T c=>cases e; exact ⟨i,L,rfl,rfl,hL⟩
    | ob k f x=>cases e; exact ⟨i,L,rfl,rfl,hL⟩
    | _=>cases e
   have hfb : ∀ i L,ρ i = some L -> fb (200 + i) = .pointer (some ⟨L.b,0,none⟩):=fun i L h=>by
    show (match ρ (200 + i - 200) with | some L=>Value.pointer (some ⟨L.b,0,none⟩) | none=>Go.undef) = _
    rw [Nat.add_sub_cancel_left,h]
   have h0 : Rel E C [] [] (st0 E its nx) ρ Z fb w:=⟨fun k s h=>by
    obtain ⟨i,L,rfl,rfl,hL⟩:=hb k s h
    rw [hfb i L hL]; exact .ref hL,fun p hp=>(by cases hp),fun k j b s e=>(by cases e),hm,Tn.refl _ _ _,hg⟩
   -- the answers
   have hans : ∃ us : List Value,us.length = vs'.length /\ vs'.length <= 200 /\ (∀ (i : Nat) (u : Value) (s : E.SV),us[i]? = some u -> vs'[i]? = some s -> Rep E.N E.T ρ' Z' w' u s) /\
     ∀ (f : Fr) (new : E.St) (ρ2 : Env1),(∀ i u,us[i]? = some u -> f i = u) -> (∀ i,i < vs'.length -> Rep E.N E.T ρ2 Z' w' (f i) (slotOf [] new i)) -> Rep E.N E.T ρ2 Z' w' v (ansOf E n new):=by
    by_cases e : n = 1
    . subst e
      simp only [ansS,Option.some.injEq] at hvs
      subst hvs
      refine ⟨[v],rfl,(by simp),fun i u s hu hs=>?_,fun f new ρ2 h1 h2=>?_⟩
      . cases i with
        | zero=>simp at hu hs; subst hu; subst hs; exact hr
        | succ i=>simp at hu
      . have:=h2 0 (by simp)
        rw [h1 0 v rfl] at this; exact this
    . have h' : ∃ vs,s = .tup vs /\ vs' = vs /\ vs.length = n:=by
        unfold ansS at hvs
        split at hvs
        . exact absurd rfl e
        . split at hvs
          . rename_i vs
            have ⟨h1,h2⟩:=bif_some hvs
            cases h2
            exact ⟨_,rfl,rfl,Nat.eq_of_beq_eq_true h1⟩
          . cases hvs
      obtain ⟨vs2,rfl,rfl,hl⟩:=h'
      obtain ⟨cs,rfl⟩:=Rep.tup_inv hr
      obtain ⟨g1,g2⟩:=RepT.get hr
      refine ⟨cs,g1,by omega,g2,fun f new ρ2 h1 h2=>?_⟩
      have : ansOf E n new = .tup (slotsTo E new n 0):=by
       unfold ansOf
       split
       . exact absurd rfl e
       . rfl
      rw [this]
      refine RepT.of_get (by rw [g1,hl,slotsTo_len]) fun i u s hu hs=>?_
      obtain ⟨a,b⟩:=slotsTo_get n 0 i s hs
      have:=h2 i (by omega)
      rw [h1 i u hu] at this
      rw [a,Nat.zero_add]; exact this
   obtain ⟨us,u1,u200,u2,u3⟩:=hans
   let f' : Fr:=fun k=>match us[k]? with | some u=>u | none=>fb k
   have hf1 : ∀ i u,us[i]? = some u -> f' i = u:=fun i u h=>by show (match us[i]? with | some u=>u | none=>fb i) = u; rw [h]
   have hf2 : ∀ i,us.length <= i -> f' i = fb i:=fun i h=>by show (match us[i]? with | some u=>u | none=>fb i) = _; rw [List.getElem?_eq_none h]
   let st1 : E.St:=⟨number 0 vs' ++ bslots E its,[],its',nx'⟩
   have hwo : without its (its.map (·.1)) = []:=by
    unfold without
    rw [List.filter_eq_nil_iff]
    intro p hp
    have : (its.map (·.1)).elem p.1 = true:=List.elem_eq_true_of_mem (List.mem_map.2 ⟨p,hp,rfl⟩)
    rw [this]; simp
   have h1 : Rel E (C.at ρ Z w) (keepS [] (st0 E its nx) [] ++ []) (without (st0 E its nx).items (its.map (·.1)) ++ []) st1 ρ' Z' f' w':=by
    refine ⟨fun k s h=>?_,fun p hp=>(by cases hp),fun k j b s e=>(by cases e),?_,ht,hg⟩
    . rcases lk_number 0 k s h with ⟨j,rfl,hj⟩ | ⟨h1,h2⟩
      . rw [Nat.zero_add]
        have hjl:=lt_get hj
        obtain ⟨u,hu⟩ : ∃ u,us[j]? = some u:=⟨_,List.getElem?_eq_getElem (by omega)⟩
        rw [hf1 j u hu]
        exact u2 j u s hu hj
      . obtain ⟨i,L,rfl,rfl,hL⟩:=hb k s h2
        rw [hf2 _ (by omega),hfb i L hL]
        exact .ref (ht.rho _ _ hL)
    . show Mem E _ ρ' Z' w' (its' ++ (without its (its.map (·.1)) ++ [])) nx'
      rw [hwo]; exact hm'
   obtain ⟨new,ρ2,a,ha1,hG,hrel⟩:=rbS_ok (keep:=[]) (ids:=its.map (·.1)) h0 h1 ss P hp (hS k hk)
   have hmn : Mem E (C.at ρ Z w) ρ2 Z' w' (new.items ++ (without its (its.map (·.1)) ++ [])) new.nx:=hrel.mem
   rw [hwo,List.append_nil,List.append_nil] at hmn
   refine ⟨ρ2,Z',ansOf E n new,new.items,new.nx,hmn.sep,hmn.fr,hmn.ge,hmn.zge,hmn.zle,u3 f' new ρ2 hf1 (fun i hi=>?_),hG ha1⟩
   have:=hrel.slot i
   exact this
 . exact hp.elim
def inlGN (E : Env) (G : Nat -> Option (GC E.N)) (M : Nat -> Option (MC E.N)) (an : Nat -> Ann) : Nat -> Inl E
 | 0=>inlG E G (inlM E M (fun _ _ _ _ _ _=>False))
 | n + 1=>inlG E G (inlM E M (fun K args its lkd nx k=>match E.inl K with | some fn=>vcFun (inlGN E G M an n) (an K) fn args its lkd nx k | none=>False))
theorem inlGN_ok (hE : EnvOK E) {Gc : Nat -> Option (GC E.N)} (hG : ∀ K Cf args its S,Gc K = some Cf -> Cf args its = some S -> GenOK E.P E.N E.T E.G K args its (2 * its.length) S) {M : Nat -> Option (MC E.N)} (hM : ∀ K o args cells r,M K = some o -> o.C args cells = some r -> allP r.ob -> MutOK E.P E.N E.T E.G K o.S args cells r) (an : Nat -> Ann) : ∀ m,InlOK E (inlGN E Gc M an m)
 | 0=>inlG_ok hG (inlM_ok hM fun _ _ _ _ _ _ h=>h.elim)
 | m + 1=>inlG_ok hG (inlM_ok hM fun K args its lkd nx k h=>by
  have h : (match E.inl K with | some fn=>vcFun (inlGN E Gc M an m) (an K) fn args its lkd nx k | none=>False):=h
  split at h
  . rename_i fn hf
    exact ⟨by rw [hf]; rfl,fun C ρ Z w vs hm hg ha=>vcFun_ok hE (inlGN_ok hE hG hM an m) (hE.inl K fn hf) h hm hg ha⟩
  . exact h.elim)
def noG {N : Uni} : Nat -> Option (GC N):=fun _=>none
theorem noG_ok {P : Program} {N : Uni} {T : ErrT} {G : Glob} : ∀ K Cf args its S,(noG : Nat -> Option (GC N)) K = some Cf -> Cf args its = some S -> GenOK P N T G K args its (2 * its.length) S:=fun _ _ _ _ _ h=>by cases h
theorem addG_ok {P : Program} {N : Uni} {T : ErrT} {G : Glob} {M : Nat -> Option (GC N)} {K : Nat} {o : GC N} (h : ∀ args its S,o args its = some S -> GenOK P N T G K args its (2 * its.length) S) (hM : ∀ K Cf args its S,M K = some Cf -> Cf args its = some S -> GenOK P N T G K args its (2 * its.length) S) : ∀ K' Cf args its S,addF K o M K' = some Cf -> Cf args its = some S -> GenOK P N T G K' args its (2 * its.length) S:=fun K' Cf args its S e hr=>by
 rcases addF_inv e with ⟨e1,e2⟩ | e
 . subst e1; subst e2; exact h args its S hr
 . exact hM K' Cf args its S e hr
end
end Go.Rx
end
section
namespace Go.Rx
open Go Go.Wk Go.Wl
section
variable {N : Uni} {T : ErrT} {ρ : Env1} {Z : Nat -> Prop} {w : World} {P : Program} {G : Glob} {K nx : Nat} {c : CR N}
theorem ConOK.weak {a b : List (SV N)} (h : ConOK P N T G K b nx c) (hw : ∀ ρ Z w v,Rep N T ρ Z w v (.tup a) -> Rep N T ρ Z w v (.tup b)) : ConOK P N T G K a nx c :=
 ⟨fun ρ Z w vs h1 h2 h3 h4=>h.run ρ Z w vs h1 h2 h3 (hw ρ Z w _ h4)⟩
theorem RepL.third {cs : List Value} {s1 s2 : SV N} {t : Nat} {r : List (SV N)} (h : RepL N T ρ Z w cs (s1 :: s2 :: .nils :: r)) : RepL N T ρ Z w cs (s1 :: s2 :: .sl t [] :: r):=by
 obtain ⟨v1,r1,rfl,h1,p1,h⟩:=h.cons_inv
 obtain ⟨v2,r2,rfl,h2,p2,h⟩:=h.cons_inv
 obtain ⟨v3,r3,rfl,h3,p3,h5⟩:=h.cons_inv
 cases h3 with | nils=>exact .agg1 h1 p1 (.agg1 h2 p2 (.agg1 (.sl dSlice_nil) p3 h5))
theorem Rep.third {v : Value} {s1 s2 : SV N} {t : Nat} {r : List (SV N)} (h : Rep N T ρ Z w v (.tup [.agg (s1 :: s2 :: .nils :: r)])) : Rep N T ρ Z w v (.tup [.agg (s1 :: s2 :: .sl t [] :: r)]):=by
 generalize e : ([.agg (s1 :: s2 :: .nils :: r)] : List (SV N)) = l at h
 generalize e2 : SV.tup l = s at h
 cases h with
 | tup1 h hr =>
  cases e2; cases e
  obtain ⟨cs,rfl,h⟩:=h.agg_inv
  exact .tup1 (RepL.third h) hr
 | _=>first | (cases e2; done) | (cases e2; cases e)
end
end Go.Rx
end
section
namespace Go.Proofs.YtadgfmmmdhlljaaGreatDoor
open Go Go.Wk Go.Wl Go.Rx Go.Fo Go.Li Go.Co 
def cNP (a : List (SV U)) (nx : Nat) : Option (CR U):=match a with
 | [.agg [.str p0,.str p1,.nils,.str p3]]=>some (c32s (⟨p0,p1,[],p3⟩) nx)
 | _=>c32 a nx
theorem c32G (args : List (SV U)) (nx : Nat) (c : CR U) (h : c32 args nx = some c) (hp : args.all pureS = true) (ho : allP c.ob) : ConOK Tryz.prog U eT Gl 35 args nx c:=⟨fun ρ Z w vs h1 h2 _ h3=>(c32_ok args nx c h hp ho).run ρ Z w vs h1 h2 trivial h3⟩
theorem cNP_ok (args : List (SV U)) (nx : Nat) (c : CR U) (h : cNP args nx = some c) (hp : args.all pureS = true) (ho : allP c.ob) : ConOK Tryz.prog U eT Gl 35 args nx c:=by
 unfold cNP at h
 split at h
 . rename_i p0 p1 p3
   cases h
   exact (c32G [.agg [.str p0,.str p1,.sl 110 [],.str p3]] nx _ rfl rfl ho).weak fun ρ Z w v=>Rep.third
 . exact c32G args nx c h hp ho
noncomputable def NNP : Env:=NZm.addC 35 cNP
theorem NNP_ok : EnvOK NNP:=NZm_ok.addC Tryz.call35 cNP_ok
noncomputable def gSZt (n : Nat) (rows : List Str) (c : Comp) : PT U:=fun k=>(OkT c) /\ ((rows : List Str).length + rowC c <= 1000000) /\ cszC c < n /\ k (.tup [.acc 2,.err (tE c)]) [(2,.ac (N:=U) 9 (tL rows c))] 3
noncomputable def gCZt (n : Nat) : GC U:=fun a its=>match a,its with | [.acc 0,.agg [.str c0,.sl 58 c1,.sl 40 c2]],[(0,.ac 9 rows)]=>some (gSZt n rows (⟨c0,c1,c2⟩)) | _,_=>none
noncomputable def EZt : Env:=NNP.addI 20 Tryz.f20
theorem EZt_ok : EnvOK EZt:=NNP_ok.addI Tryz.call20 Tryz.func20
noncomputable def GmZt (n : Nat) : Nat -> Option (GC U):=addF 20 (gCZt n) noG
def anZt : Nat -> Ann:=fun | 20=>⟨96,fun | 15=>some ⟨[8,71,72],[.slot 0 (.acc 9),.slot 73 (.int .i64)]⟩ | 7=>some ⟨[3,8,36,37],[.slot 0 (.acc 9),.slot 38 (.int .i64)]⟩ | _=>none,fun  | _=>none⟩ | _=>⟨0,fun _=>none,fun _=>none⟩
def qZt0 (c : Comp) (x_1 : Int):=Prp.mk (ix c.Props x_1).Group (ix c.Props x_1).Name (ix c.Props x_1).Params (ix c.Props x_1).Value
def qZt1 (c : Comp):=printS (Prp.mk [] c.Name [] [])
def qZt2 (c : Comp) (x_2 : Int):=Comp.mk (ix c.Comps x_2).Name (ix c.Comps x_2).Props (ix c.Comps x_2).Comps
def VZt (n : Nat) (rows : List Str) (c : Comp) (Q : List Str -> Err -> Prop) : Prop :=
smallP (Prp.mk [] c.Name [] []) /\ ((qZt1 c).snd ≠ Err.nil -> Q [] (qZt1 c).snd) /\ (¬(qZt1 c).snd ≠ Err.nil -> in64 ((↑(List.length (qZt1 c).fst) : Int) - 1) /\ (0 : Int) <= (↑(List.length (qZt1 c).fst) : Int) - 1 /\ (↑(List.length (qZt1 c).fst) : Int) - 1 <= (↑(List.length (qZt1 c).fst) : Int) /\ ([66,69,71,73,78,58] : List UInt8).length + (List.take ((↑(List.length (qZt1 c).fst) : Int) - 1).toNat (qZt1 c).fst).length <= 9223372036854775807 /\ (rows.length + [([66,69,71,73,78,58] : List UInt8) ++ List.take ((↑(List.length (qZt1 c).fst) : Int) - 1).toNat (qZt1 c).fst].length) * (some (16 : Nat)).getD (0 : Nat) <= 140737488355328 /\ ∃ (I : List (List UInt8) -> Int -> Prop),∃ (m : List (List UInt8) -> Int -> Nat),I (rows ++ [([66,69,71,73,78,58] : List UInt8) ++ List.take ((↑(List.length (qZt1 c).fst) : Int) - 1).toNat (qZt1 c).fst]) (0 : Int) /\ ∀ (x : List (List UInt8)) (x_1 : Int),I x x_1 -> (x_1 < (↑c.Props.length : Int) -> (0 : Int) <= x_1 /\ x_1 < (↑c.Props.length : Int) /\ smallP (qZt0 c x_1) /\ ((((printS (qZt0 c x_1)).snd ≠ Err.nil ∨ (5000 : Int) < (↑(List.length (printS (qZt0 c x_1)).fst) : Int)) ∨ (ix c.Props x_1).Name = ([66,69,71,73,78] : List UInt8)) ∨ (ix c.Props x_1).Name = ([69,78,68] : List UInt8) -> Q [] (Err.no (2 : Int))) /\ (¬((((printS (qZt0 c x_1)).snd ≠ Err.nil ∨ (5000 : Int) < (↑(List.length (printS (qZt0 c x_1)).fst) : Int)) ∨ (ix c.Props x_1).Name = ([66,69,71,73,78] : List UInt8)) ∨ (ix c.Props x_1).Name = ([69,78,68] : List UInt8)) -> (x.length + [(printS (qZt0 c x_1)).fst].length) * (some (16 : Nat)).getD (0 : Nat) <= 140737488355328 /\ in64 (x_1 + 1) /\ I (x ++ [(printS (qZt0 c x_1)).fst]) (x_1 + 1) /\ m (x ++ [(printS (qZt0 c x_1)).fst]) (x_1 + 1) < m x x_1)) /\ (¬x_1 < (↑c.Props.length : Int) -> ∃ (I : List (List UInt8) -> Int -> Prop),∃ (m : List (List UInt8) -> Int -> Nat),I x (0 : Int) /\ ∀ (x : List (List UInt8)) (x_2 : Int),I x x_2 -> (x_2 < (↑c.Comps.length : Int) -> (0 : Int) <= x_2 /\ x_2 < (↑c.Comps.length : Int) /\ OkT (qZt2 c x_2) /\ (↑x.length : Int) + rowC (qZt2 c x_2) <= 1000000 /\ cszC (qZt2 c x_2) < n /\ (tE (qZt2 c x_2) ≠ Err.nil -> Q [] (tE (qZt2 c x_2))) /\ (¬tE (qZt2 c x_2) ≠ Err.nil -> in64 (x_2 + 1) /\ I (tL x (qZt2 c x_2)) (x_2 + 1) /\ m (tL x (qZt2 c x_2)) (x_2 + 1) < m x x_2)) /\ (¬x_2 < (↑c.Comps.length : Int) -> ((4994 : Int) < (↑(List.take ((↑(List.length (qZt1 c).fst) : Int) - 1).toNat (qZt1 c).fst).length : Int) -> Q [] (Err.no (2 : Int))) /\ (¬(4994 : Int) < (↑(List.take ((↑(List.length (qZt1 c).fst) : Int) - 1).toNat (qZt1 c).fst).length : Int) -> ([69,78,68,58] : List UInt8).length + (List.take ((↑(List.length (qZt1 c).fst) : Int) - 1).toNat (qZt1 c).fst).length <= 9223372036854775807 /\ (x.length + [([69,78,68,58] : List UInt8) ++ List.take ((↑(List.length (qZt1 c).fst) : Int) - 1).toNat (qZt1 c).fst].length) * (some (16 : Nat)).getD (0 : Nat) <= 140737488355328 /\ Q (x ++ [([69,78,68,58] : List UInt8) ++ List.take ((↑(List.length (qZt1 c).fst) : Int) - 1).toNat (qZt1 c).fst]) Err.nil))))
theorem VZt_ok {n : Nat} {rows : List Str} {c : Comp} {Q : List Str -> Err -> Prop} (h : VZt n rows c Q) : vcFun (E:=EZt) (inlGN EZt (GmZt n) noM anZt 2) (anZt 20) Tryz.f20 [.acc 0,.agg [.str c.Name,.sl (N:=U) 58 c.Props,.sl (N:=U) 40 c.Comps]] [(0,.ac (N:=U) 9 rows)] [] 2 (endG EZt [(0,.ac (N:=U) 9 rows)] 2 2 [[.slot 0 (.acc 9),.slot 1 .err]] ((Q,fun _ _=>(0 : Nat)),())):=Eq.mp (show VZt n rows c Q = vcFun (E:=EZt) (inlGN EZt (GmZt n) noM anZt 2) (anZt 20) Tryz.f20 [.acc 0,.agg [.str c.Name,.sl (N:=U) 58 c.Props,.sl (N:=U) 40 c.Comps]] [(0,.ac (N:=U) 9 rows)] [] 2 (endG EZt [(0,.ac (N:=U) 9 rows)] 2 2 [[.slot 0 (.acc 9),.slot 1 .err]] ((Q,fun _ _=>(0 : Nat)),())) by kernel_rfl) h
theorem pZt (n : Nat) (rows : List Str) (c : Comp) (hs : OkT c) (hl : (rows.length : Int) + rowC c <= 1000000) (hr : cszC c < n + 1) : VZt n rows c (fun y0 y1=>y0 = tL rows c /\ y1 = tE c):=by
 unfold VZt qZt2 qZt1 qZt0
 obtain ⟨q1,q2,q3,q4,q5⟩:=hs.out
 have hrc:=rowC_eq c
 have hpos:=row_geL c.Comps
 rw [show (some 16).getD 0 = 16 from rfl]
 rcases head_print c.Name with ⟨hn,e⟩ | ⟨hn,e⟩
 case inr =>
  rw [e]
  have hm : ¬mayC c = true:=fun h=>hn (mayC_out.1 h).1
  exact ⟨⟨q1,Nat.zero_le _,Nat.zero_le _,Nat.zero_le _,fun x hx=>by cases hx⟩,fun _=>told_bad hm rfl,fun h=>absurd (fun g=>by cases g) h⟩
 rw [e]
 dsimp only
 rw [head_take]
 refine ⟨⟨q1,Nat.zero_le _,Nat.zero_le _,Nat.zero_le _,fun x hx=>by cases hx⟩,fun h=>absurd rfl h,fun _=>?_⟩
 have hl1 : (c.Name ++ [58]).length = c.Name.length + 1:=by rw [List.length_append]; rfl
 rw [hl1]
 refine ⟨⟨by omega,by omega⟩,by omega,by omega,by rw [show ([66,69,71,73,78,58] : Str).length = 6 from rfl]; omega,by rw [List.length_singleton]; omega,fun x i=>0 <= i /\ i <= c.Props.length /\ (∀ p ∈ c.Props.take i.toNat,mayP p = true) /\ x = (rows ++ [sBEGIN ++ 58 :: c.Name]) ++ (c.Props.take i.toNat).map tell,fun _ i=>((c.Props.length : Int) - i).toNat,⟨by omega,by omega,fun p hp=>(by cases hp),by rw [show (0 : Int).toNat = 0 from rfl,List.take_zero,List.map_nil,List.append_nil]; rfl⟩,?_⟩
 rintro x i ⟨i0,i1,hi,hx⟩
 have hxl : (x.length : Int) = rows.length + 1 + i:=by
  rw [hx,List.length_append,List.length_append,List.length_map,List.length_take,List.length_singleton]; omega
 refine ⟨fun hl=>?_,fun hl=>?_⟩
 . have hp:=ix_mem i0 hl
   have e2:=take_next i0 hl
   generalize ix c.Props i = p at hp e2 ⊢
   have key:=mayP_printS p
   refine ⟨i0,hl,q3 p hp,fun h=>?_,fun h=>?_⟩
   . refine told_bad (fun hm=>?_) rfl
     obtain ⟨g1,g2,g3,g4⟩:=key.1 ((mayC_out.1 hm).2.2.1 p hp)
     rcases h with ((h | h) | h) | h
     . exact g1 h
     . exact g2 h
     . exact g3 h
     . exact g4 h
   . have hm : mayP p = true:=key.2 ⟨fun g=>h (.inl (.inl (.inl g))),fun g=>h (.inl (.inl (.inr g))),fun g=>h (.inl (.inr g)),fun g=>h (.inr g)⟩
     refine ⟨by rw [List.length_singleton]; omega,⟨by omega,by omega⟩,⟨by omega,by omega,?_,?_⟩,by dsimp only; omega⟩
     . rw [e2]
       intro q hq
       rcases List.mem_append.1 hq with hq | hq
       . exact hi q hq
       . rw [List.mem_singleton.1 hq]; exact hm
     . rw [e2,List.map_append,<- List.append_assoc,<- hx]
       exact congrArg (fun t=>x ++ [t]) (printS_may hm)
 rw [take_full i0 hl] at hi hx
 refine ⟨fun y j=>0 <= j /\ j <= c.Comps.length /\ (∀ d ∈ c.Comps.take j.toNat,mayC d = true) /\ y = x ++ linL (c.Comps.take j.toNat),fun _ j=>((c.Comps.length : Int) - j).toNat,⟨by omega,by omega,fun p hp=>(by cases hp),by rw [show (0 : Int).toNat = 0 from rfl,List.take_zero]; unfold linL; rw [List.append_nil]⟩,?_⟩
 rintro y j ⟨j0,j1,hj,hy⟩
 obtain ⟨t0,t1⟩:=row_take (l:=c.Comps) j.toNat
 have hyl : (y.length : Int) = x.length + rowL (c.Comps.take j.toNat):=by
  rw [hy,List.length_append,Int.natCast_add,lin_lenL]
 refine ⟨fun hl2=>?_,fun hl2=>?_⟩
 . have hp:=ix_mem j0 hl2
   have e2:=take_next j0 hl2
   have h3:=row_next j0 hl2
   obtain ⟨u0,u1⟩:=row_take (l:=c.Comps) (j + 1).toNat
   have hcs:=cszC_in j0 hl2
   have hrd:=rowC_eq (ix c.Comps j)
   generalize ix c.Comps j = d at hp e2 h3 hcs hrd ⊢
   rw [show Comp.mk d.Name d.Props d.Comps = d from by cases d; rfl]
   refine ⟨j0,hl2,q5 d hp,by omega,by omega,fun h=>?_,fun h=>?_⟩
   . obtain ⟨g1,g2⟩:=tE_bad h
     exact told_bad (fun hm=>g1 (mayL_iff.1 (mayC_out.1 hm).2.2.2 d hp)) g2
   . obtain ⟨g1,g2⟩:=tE_ok h y
     rw [g2]
     refine ⟨⟨by omega,by omega⟩,⟨by omega,by omega,?_,?_⟩,by dsimp only; omega⟩
     . rw [e2]
       intro q hq
       rcases List.mem_append.1 hq with hq | hq
       . exact hj q hq
       . rw [List.mem_singleton.1 hq]; exact g1
     . rw [e2,linL_app,linL_cons,show linL [] = [] from rfl,List.append_nil,<- List.append_assoc,<- hy]
 . rw [take_full j0 hl2] at hj hy hyl
   refine ⟨fun h=>told_bad (fun hm=>by have:=(mayC_out.1 hm).2.1; omega) rfl,fun h=>⟨by rw [show ([69,78,68,58] : Str).length = 4 from rfl]; omega,by rw [List.length_singleton]; omega,told_ok (mayC_out.2 ⟨hn,by omega,hi,mayL_iff.2 hj⟩) ?_⟩⟩
   rw [hy,hx,linC_eq]
   simp only [List.append_assoc,List.cons_append,List.nil_append]
   rfl
theorem gAZt (rows : List Str) (c : Comp) (k : SV U -> Items U -> Nat -> Prop) : ((∀ (y0 : List Str) (y1 : Err),y0 = tL rows c /\ y1 = tE c -> k (.tup [.acc 2,.err y1]) [(2,.ac (N:=U) 9 y0)] 3) /\ True) = allS EZt [] (st0 EZt [(0,.ac (N:=U) 9 rows)] 2) [[.slot 0 (.acc 9),.slot 1 .err]] ((fun y0 y1=>y0 = tL rows c /\ y1 = tE c,fun _ _=>(0 : Nat)),()) (fun im new=>im.1 -> k (ansOf EZt 2 new) new.items new.nx):=by kernel_rfl
theorem gOZt (n : Nat) (rows : List Str) (c : Comp) (k : SV U -> Items U -> Nat -> Prop) (hk : gSZt (n + 1) rows c k) : allS EZt [] (st0 EZt [(0,.ac (N:=U) 9 rows)] 2) [[.slot 0 (.acc 9),.slot 1 .err]] ((fun y0 y1=>y0 = tL rows c /\ y1 = tE c,fun _ _=>(0 : Nat)),()) (fun im new=>im.1 -> k (ansOf EZt 2 new) new.items new.nx):=by
 rw [<- gAZt]
 refine ⟨fun y0 y1 h=>?_,trivial⟩
 obtain ⟨hy0,hy1⟩:=h
 subst hy0 hy1
 exact hk.2.2.2
theorem gCZt_ok : ∀ (n : Nat) (args : List (SV U)) (its : Items U) (S : PT U),gCZt n args its = some S -> GenOK Tryz.prog U eT Gl 20 args its (2 * its.length) S
 | 0,args,its,S,h=>by
  unfold gCZt at h
  split at h
  . rename_i c0 c1 c2 rows
    cases h
    exact fun k hk=>absurd hk.2.2.1 (Nat.not_lt_zero _)
  . cases h
 | n + 1,args,its,S,h=>by
  have hI:=inlGN_ok (E:=EZt) EZt_ok (addG_ok (gCZt_ok n) noG_ok) noM_ok anZt 2
  unfold gCZt at h
  split at h
  . rename_i c0 c1 c2 rows
    cases h
    exact fun k hk=>gen_ok EZt_ok hI Tryz.func20 (n:=2) rfl (VZt_ok (pZt n rows (⟨c0,c1,c2⟩) hk.1 hk.2.1 hk.2.2.1)) (gOZt n rows (⟨c0,c1,c2⟩)) k hk
  . cases h
noncomputable def gTZt (rows : List Str) (c : Comp) : PT U:=fun k=>(OkT c) /\ ((rows : List Str).length + rowC c <= 1000000) /\ k (.tup [.acc 2,.err (tE c)]) [(2,.ac (N:=U) 9 (tL rows c))] 3
noncomputable def gDZt : GC U:=fun a its=>match a,its with | [.acc 0,.agg [.str c0,.sl 58 c1,.sl 40 c2]],[(0,.ac 9 rows)]=>some (gTZt rows (⟨c0,c1,c2⟩)) | _,_=>none
theorem gDZt_ok (args : List (SV U)) (its : Items U) (S : PT U) (h : gDZt args its = some S) : GenOK Tryz.prog U eT Gl 20 args its (2 * its.length) S:=by
 unfold gDZt at h
 split at h
 . rename_i c0 c1 c2 rows
   cases h
   exact fun k hk=>gCZt_ok (cszC (⟨c0,c1,c2⟩ : Comp) + 1) [.acc 0,.agg [.str c0,.sl 58 c1,.sl 40 c2]] [(0,.ac 9 rows)] (gSZt _ rows (⟨c0,c1,c2⟩)) rfl k ⟨hk.1,hk.2.1,Nat.lt_succ_self _,hk.2.2⟩
 . cases h
noncomputable def NZt : Env:=EZt
theorem NZt_ok : EnvOK NZt:=EZt_ok
noncomputable def GfZt : Nat -> Option (GC U):=addF 20 gDZt noG
theorem GfZt_ok : ∀ K Cf args its S,GfZt K = some Cf -> Cf args its = some S -> GenOK Tryz.prog U eT Gl K args its (2 * its.length) S:=addG_ok gDZt_ok noG_ok
noncomputable def gSZT (n : Nat) (c : Comp) : PT U:=fun k=>(OkT c) /\ (mayC c = true) /\ (rowC c <= 1000000) /\ cszC c < n /\ k (.acc 0) [(0,.ac (N:=U) 9 (linC c))] 1
noncomputable def gCZT (n : Nat) : GC U:=fun a its=>match a,its with | [.agg [.str c0,.sl 58 c1,.sl 40 c2]],[]=>some (gSZT n (⟨c0,c1,c2⟩)) | _,_=>none
noncomputable def EZT : Env:=NZt.addI 31 Tryz.f31
theorem EZT_ok : EnvOK EZT:=NZt_ok.addI Tryz.call31 Tryz.func31
noncomputable def GmZT (n : Nat) : Nat -> Option (GC U):=addF 31 (gCZT n) GfZt
def anZT : Nat -> Ann:=fun | 31=>⟨53,fun | 8=>some ⟨[1],[.slot 3 (.acc 9),.slot 7 (.int .i64)]⟩ | 3=>some ⟨[1],[.slot 3 (.acc 9),.slot 4 (.int .i64)]⟩ | _=>none,fun  | _=>none⟩ | _=>⟨0,fun _=>none,fun _=>none⟩
def VZT (n : Nat) (c : Comp) (Q : List Str -> Prop) : Prop :=
([66,69,71,73,78,58] : List UInt8).length + List.length c.Name <= 9223372036854775807 /\ ∃ (I : List (List UInt8) -> Int -> Prop),∃ (m : List (List UInt8) -> Int -> Nat),I [([66,69,71,73,78,58] : List UInt8) ++ c.Name] (0 : Int) /\ ∀ (x : List (List UInt8)) (x_1 : Int),I x x_1 -> (x_1 < (↑c.Props.length : Int) -> (0 : Int) <= x_1 /\ x_1 < (↑c.Props.length : Int) /\ smallP (Prp.mk (ix c.Props x_1).Group (ix c.Props x_1).Name (ix c.Props x_1).Params (ix c.Props x_1).Value) /\ (x.length + [(printR (Prp.mk (ix c.Props x_1).Group (ix c.Props x_1).Name (ix c.Props x_1).Params (ix c.Props x_1).Value)).fst].length) * (some (16 : Nat)).getD (0 : Nat) <= 140737488355328 /\ in64 (x_1 + 1) /\ I (x ++ [(printR (Prp.mk (ix c.Props x_1).Group (ix c.Props x_1).Name (ix c.Props x_1).Params (ix c.Props x_1).Value)).fst]) (x_1 + 1) /\ m (x ++ [(printR (Prp.mk (ix c.Props x_1).Group (ix c.Props x_1).Name (ix c.Props x_1).Params (ix c.Props x_1).Value)).fst]) (x_1 + 1) < m x x_1) /\ (¬x_1 < (↑c.Props.length : Int) -> ∃ (I : List (List UInt8) -> Int -> Prop),∃ (m : List (List UInt8) -> Int -> Nat),I x (0 : Int) /\ ∀ (x : List (List UInt8)) (x_2 : Int),I x x_2 -> (x_2 < (↑c.Comps.length : Int) -> (0 : Int) <= x_2 /\ x_2 < (↑c.Comps.length : Int) /\ OkT (Comp.mk (ix c.Comps x_2).Name (ix c.Comps x_2).Props (ix c.Comps x_2).Comps) /\ mayC (Comp.mk (ix c.Comps x_2).Name (ix c.Comps x_2).Props (ix c.Comps x_2).Comps) = true /\ rowC (Comp.mk (ix c.Comps x_2).Name (ix c.Comps x_2).Props (ix c.Comps x_2).Comps) <= 1000000 /\ cszC (Comp.mk (ix c.Comps x_2).Name (ix c.Comps x_2).Props (ix c.Comps x_2).Comps) < n /\ (x.length + (linC (Comp.mk (ix c.Comps x_2).Name (ix c.Comps x_2).Props (ix c.Comps x_2).Comps)).length) * (some (16 : Nat)).getD (0 : Nat) <= 140737488355328 /\ in64 (x_2 + 1) /\ I (x ++ linC (Comp.mk (ix c.Comps x_2).Name (ix c.Comps x_2).Props (ix c.Comps x_2).Comps)) (x_2 + 1) /\ m (x ++ linC (Comp.mk (ix c.Comps x_2).Name (ix c.Comps x_2).Props (ix c.Comps x_2).Comps)) (x_2 + 1) < m x x_2) /\ (¬x_2 < (↑c.Comps.length : Int) -> ([69,78,68,58] : List UInt8).length + List.length c.Name <= 9223372036854775807 /\ (x.length + [([69,78,68,58] : List UInt8) ++ c.Name].length) * (some (16 : Nat)).getD (0 : Nat) <= 140737488355328 /\ Q (x ++ [([69,78,68,58] : List UInt8) ++ c.Name])))
theorem VZT_ok {n : Nat} {c : Comp} {Q : List Str -> Prop} (h : VZT n c Q) : vcFun (E:=EZT) (inlGN EZT (GmZT n) noM anZT 2) (anZT 31) Tryz.f31 [.agg [.str c.Name,.sl (N:=U) 58 c.Props,.sl (N:=U) 40 c.Comps]] [] [] 0 (endG EZT [] 0 1 [[.slot 0 (.acc 9)]] ((Q,fun _=>(0 : Nat)),())):=Eq.mp (show VZT n c Q = vcFun (E:=EZT) (inlGN EZT (GmZT n) noM anZT 2) (anZT 31) Tryz.f31 [.agg [.str c.Name,.sl (N:=U) 58 c.Props,.sl (N:=U) 40 c.Comps]] [] [] 0 (endG EZT [] 0 1 [[.slot 0 (.acc 9)]] ((Q,fun _=>(0 : Nat)),())) by kernel_rfl) h
theorem pZT (n : Nat) (c : Comp) (hs : OkT c) (hm : mayC c = true) (hl : rowC c <= 1000000) (hr : cszC c < n + 1) : VZT n c (fun y0=>y0 = linC c):=by
 unfold VZT
 obtain ⟨q1,q2,q3,q4,q5⟩:=hs.out
 obtain ⟨m1,m2,m3,m4⟩:=mayC_out.1 hm
 have hrc:=rowC_eq c
 have hpos:=row_geL c.Comps
 rw [show (some 16).getD 0 = 16 from rfl]
 refine ⟨by rw [show ([66,69,71,73,78,58] : Str).length = 6 from rfl]; omega,fun x i=>0 <= i /\ i <= c.Props.length /\ x = [sBEGIN ++ 58 :: c.Name] ++ (c.Props.take i.toNat).map tell,fun _ i=>((c.Props.length : Int) - i).toNat,⟨by omega,by omega,by rw [show (0 : Int).toNat = 0 from rfl,List.take_zero,List.map_nil,List.append_nil]; rfl⟩,?_⟩
 rintro x i ⟨i0,i1,hx⟩
 have hxl : (x.length : Int) = 1 + i:=by
  rw [hx,List.length_append,List.length_map,List.length_take,List.length_singleton]; omega
 refine ⟨fun hl=>?_,fun hl=>?_⟩
 . have hp:=ix_mem i0 hl
   have e2:=take_next i0 hl
   generalize ix c.Props i = p at hp e2 ⊢
   refine ⟨i0,hl,q3 p hp,by rw [List.length_singleton]; omega,⟨by omega,by omega⟩,⟨by omega,by omega,?_⟩,by dsimp only; omega⟩
   rw [e2,List.map_append,<- List.append_assoc,<- hx]
   exact congrArg (fun t=>x ++ [t]) (printR_may (m3 p hp))
 rw [take_full i0 hl] at hx
 refine ⟨fun y j=>0 <= j /\ j <= c.Comps.length /\ y = x ++ linL (c.Comps.take j.toNat),fun _ j=>((c.Comps.length : Int) - j).toNat,⟨by omega,by omega,by rw [show (0 : Int).toNat = 0 from rfl,List.take_zero]; unfold linL; rw [List.append_nil]⟩,?_⟩
 rintro y j ⟨j0,j1,hy⟩
 obtain ⟨t0,t1⟩:=row_take (l:=c.Comps) j.toNat
 have hyl : (y.length : Int) = x.length + rowL (c.Comps.take j.toNat):=by
  rw [hy,List.length_append,Int.natCast_add,lin_lenL]
 refine ⟨fun hl2=>?_,fun hl2=>?_⟩
 . have hp:=ix_mem j0 hl2
   have e2:=take_next j0 hl2
   have h3:=row_next j0 hl2
   obtain ⟨u0,u1⟩:=row_take (l:=c.Comps) (j + 1).toNat
   have hcs:=cszC_in j0 hl2
   have hrd:=rowC_eq (ix c.Comps j)
   have hll:=lin_lenC (ix c.Comps j)
   generalize ix c.Comps j = d at hp e2 h3 hcs hrd hll ⊢
   rw [show Comp.mk d.Name d.Props d.Comps = d from by cases d; rfl]
   refine ⟨j0,hl2,q5 d hp,mayL_iff.1 m4 d hp,by omega,by omega,by omega,⟨by omega,by omega⟩,⟨by omega,by omega,?_⟩,by dsimp only; omega⟩
   rw [e2,linL_app,linL_cons,show linL [] = [] from rfl,List.append_nil,<- List.append_assoc,<- hy]
 . rw [take_full j0 hl2] at hy hyl
   refine ⟨by rw [show ([69,78,68,58] : Str).length = 4 from rfl]; omega,by rw [List.length_singleton]; omega,?_⟩
   rw [hy,hx,linC_eq]
   simp only [List.append_assoc,List.cons_append,List.nil_append]
   rfl
theorem gAZT (c : Comp) (k : SV U -> Items U -> Nat -> Prop) : ((∀ (y0 : List Str),y0 = linC c -> k (.acc 0) [(0,.ac (N:=U) 9 y0)] 1) /\ True) = allS EZT [] (st0 EZT [] 0) [[.slot 0 (.acc 9)]] ((fun y0=>y0 = linC c,fun _=>(0 : Nat)),()) (fun im new=>im.1 -> k (ansOf EZT 1 new) new.items new.nx):=by kernel_rfl
theorem gOZT (n : Nat) (c : Comp) (k : SV U -> Items U -> Nat -> Prop) (hk : gSZT (n + 1) c k) : allS EZT [] (st0 EZT [] 0) [[.slot 0 (.acc 9)]] ((fun y0=>y0 = linC c,fun _=>(0 : Nat)),()) (fun im new=>im.1 -> k (ansOf EZT 1 new) new.items new.nx):=by
 rw [<- gAZT]
 refine ⟨fun y0 h=>?_,trivial⟩
 have hy0:=h
 subst hy0
 exact hk.2.2.2.2
theorem gCZT_ok : ∀ (n : Nat) (args : List (SV U)) (its : Items U) (S : PT U),gCZT n args its = some S -> GenOK Tryz.prog U eT Gl 31 args its (2 * its.length) S
 | 0,args,its,S,h=>by
  unfold gCZT at h
  split at h
  . rename_i c0 c1 c2
    cases h
    exact fun k hk=>absurd hk.2.2.2.1 (Nat.not_lt_zero _)
  . cases h
 | n + 1,args,its,S,h=>by
  have hI:=inlGN_ok (E:=EZT) EZT_ok (addG_ok (gCZT_ok n) GfZt_ok) noM_ok anZT 2
  unfold gCZT at h
  split at h
  . rename_i c0 c1 c2
    cases h
    exact fun k hk=>gen_ok EZT_ok hI Tryz.func31 (n:=1) rfl (VZT_ok (pZT n (⟨c0,c1,c2⟩) hk.1 hk.2.1 hk.2.2.1 hk.2.2.2.1)) (gOZT n (⟨c0,c1,c2⟩)) k hk
  . cases h
noncomputable def gTZT (c : Comp) : PT U:=fun k=>(OkT c) /\ (mayC c = true) /\ (rowC c <= 1000000) /\ k (.acc 0) [(0,.ac (N:=U) 9 (linC c))] 1
noncomputable def gDZT : GC U:=fun a its=>match a,its with | [.agg [.str c0,.sl 58 c1,.sl 40 c2]],[]=>some (gTZT (⟨c0,c1,c2⟩)) | _,_=>none
theorem gDZT_ok (args : List (SV U)) (its : Items U) (S : PT U) (h : gDZT args its = some S) : GenOK Tryz.prog U eT Gl 31 args its (2 * its.length) S:=by
 unfold gDZT at h
 split at h
 . rename_i c0 c1 c2
   cases h
   exact fun k hk=>gCZT_ok (cszC (⟨c0,c1,c2⟩ : Comp) + 1) [.agg [.str c0,.sl 58 c1,.sl 40 c2]] [] (gSZT _ (⟨c0,c1,c2⟩)) rfl k ⟨hk.1,hk.2.1,hk.2.2.1,Nat.lt_succ_self _,hk.2.2.2⟩
 . cases h
noncomputable def NZT : Env:=EZT
theorem NZT_ok : EnvOK NZT:=EZT_ok
noncomputable def GfZT : Nat -> Option (GC U):=addF 31 gDZT GfZt
theorem GfZT_ok : ∀ K Cf args its S,GfZT K = some Cf -> Cf args its = some S -> GenOK Tryz.prog U eT Gl K args its (2 * its.length) S:=addG_ok gDZT_ok GfZt_ok
theorem few_okP {p : Prp} (h : fewP p = true) : okP p:=by
 have s:=few_small h
 refine ⟨by have:=s.params; omega,fun x hx=>by have:=(s.param x hx).vals; omega⟩
def anZp : Nat -> Ann:=fun | 9=>⟨38,fun | 3=>some ⟨[0,8,9],[.slot 4 (.acc 9),.slot 10 (.int .i64)]⟩ | _=>none,fun  | _=>none⟩ | _=>⟨0,fun _=>none,fun _=>none⟩
def VZp (l : List Comp) (Q : Str -> Err -> Prop) : Prop :=
∃ (I : List (List UInt8) -> Int -> Prop),∃ (m : List (List UInt8) -> Int -> Nat),I [] (0 : Int) /\ ∀ (x : List (List UInt8)) (x_1 : Int),I x x_1 -> (x_1 < (↑l.length : Int) -> (0 : Int) <= x_1 /\ x_1 < (↑l.length : Int) /\ OkT (Comp.mk (ix l x_1).Name (ix l x_1).Props (ix l x_1).Comps) /\ (↑x.length : Int) + rowC (Comp.mk (ix l x_1).Name (ix l x_1).Props (ix l x_1).Comps) <= 1000000 /\ (tE (Comp.mk (ix l x_1).Name (ix l x_1).Props (ix l x_1).Comps) ≠ Err.nil -> Q [] (Err.no (2 : Int))) /\ (¬tE (Comp.mk (ix l x_1).Name (ix l x_1).Props (ix l x_1).Comps) ≠ Err.nil -> in64 (x_1 + 1) /\ I (tL x (Comp.mk (ix l x_1).Name (ix l x_1).Props (ix l x_1).Comps)) (x_1 + 1) /\ m (tL x (Comp.mk (ix l x_1).Name (ix l x_1).Props (ix l x_1).Comps)) (x_1 + 1) < m x x_1)) /\ (¬x_1 < (↑l.length : Int) -> rowL l <= 1000000000 /\ ((6 : Int) < depL l -> Q [] (Err.no (12 : Int))) /\ (¬(6 : Int) < depL l -> ((1000 : Int) < (↑x.length : Int) -> Q [] (Err.no (5 : Int))) /\ (¬(1000 : Int) < (↑x.length : Int) -> x.length <= 100000 /\ Q (foldS dec x).fst (foldE (foldS dec x)))))
theorem VZp_ok {l : List Comp} {Q : Str -> Err -> Prop} (h : VZp l Q) : vcFun (E:=NZT) (inlGN NZT (GfZT) noM anZp 2) (anZp 9) Tryz.f9 [.sl (N:=U) 40 l] [] [] 0 (resP NZT [.str,.err] Q):=Eq.mp (show VZp l Q = vcFun (E:=NZT) (inlGN NZT (GfZT) noM anZp 2) (anZp 9) Tryz.f9 [.sl (N:=U) 40 l] [] [] 0 (resP NZT [.str,.err] Q) by kernel_rfl) h
theorem pZp (l : List Comp) (hs : ∀ x ∈ l,OkT x) (hl : rowL l <= 1000000) : VZp l (fun y0 y1=>y0 = (printC l).1 /\ y1 = printE l):=by
 unfold VZp
 have hL:=(rowL_ge l).1
 have h0:=row_geL l
 have hd:=dep_rowL l
 refine ⟨fun x i=>0 <= i /\ i <= l.length /\ (∀ d ∈ l.take i.toNat,mayC d = true) /\ x = linL (l.take i.toNat),fun _ i=>((l.length : Int) - i).toNat,⟨by omega,by omega,fun p hp=>(by cases hp),by rw [show (0 : Int).toNat = 0 from rfl,List.take_zero]; unfold linL; rfl⟩,?_⟩
 rintro y j ⟨j0,j1,hj,hy⟩
 obtain ⟨t0,t1⟩:=row_take (l:=l) j.toNat
 have hyl : (y.length : Int) = rowL (l.take j.toNat):=by rw [hy,lin_lenL]
 refine ⟨fun hl2=>?_,fun hl2=>?_⟩
 . have hp:=ix_mem j0 hl2
   have e2:=take_next j0 hl2
   have h3:=row_next j0 hl2
   obtain ⟨u0,u1⟩:=row_take (l:=l) (j + 1).toNat
   have hrd:=rowC_eq (ix l j)
   have hll:=lin_lenC (ix l j)
   generalize ix l j = d at hp e2 h3 hrd hll ⊢
   rw [show Comp.mk d.Name d.Props d.Comps = d from by cases d; rfl]
   refine ⟨j0,hl2,hs d hp,by omega,fun h=>?_,fun h=>?_⟩
   . have e:=pr_may fun hm=>(tE_bad h).1 (mayL_iff.1 hm d hp)
     exact ⟨by rw [e],by unfold printE; rw [e]; rfl⟩
   obtain ⟨g1,g2⟩:=tE_ok h y
   rw [g2]
   refine ⟨⟨by omega,by omega⟩,⟨by omega,by omega,?_,?_⟩,by dsimp only; omega⟩
   . rw [e2]
     intro q hq
     rcases List.mem_append.1 hq with hq | hq
     . exact hj q hq
     . rw [List.mem_singleton.1 hq]; exact g1
   . rw [e2,linL_app,linL_cons,show linL [] = [] from rfl,List.append_nil,<- hy]
 rw [take_full j0 hl2] at hj hy hyl
 have hm:=mayL_iff.2 hj
 refine ⟨by omega,fun h6=>?_,fun h6=>⟨fun hk=>?_,fun hk=>⟨by omega,?_⟩⟩⟩
 . have e:=pr_deep hm h6
   exact ⟨by rw [e],by unfold printE; rw [e]; rfl⟩
 . have e:=pr_many hm h6 (by omega)
   exact ⟨by rw [e],by unfold printE; rw [e]; rfl⟩
 . have e:=pr_ok hm h6 (by omega)
   rw [hy,fold_told hm]
   exact ⟨by rw [e],by unfold printE; rw [e]; rfl⟩
def cZp (a : List (SV U)) (nx : Nat) : Option (CR U):=match a with | [.sl 40 l]=>some ⟨[(∀ x ∈ (l : List Comp),OkT x),rowL (l : List Comp) <= 1000000],[],.tup [.str ((printC l).1),.err (printE l)],[]⟩ | _=>none
theorem cZp_ok (args : List (SV U)) (nx : Nat) (c : CR U) (h : cZp args nx = some c) (hp : args.all pureS = true) (ho : allP c.ob) : ConOK NZT.P NZT.N NZT.T NZT.G 9 args nx c:=by
 unfold cZp at h
 split at h
 . rename_i l
   cases h
   exact con2 NZT_ok (inlGN_ok NZT_ok GfZT_ok noM_ok anZp 2) Tryz.func9 (k1:=.str) (k2:=.err) (x1:=(printC l).1) (x2:=printE l) rfl hp (VZp_ok (pZp l ho.1 ho.2.1))
 . cases h
noncomputable def NZp : Env:=NZT.addC 9 cZp
theorem NZp_ok : EnvOK NZp:=NZT_ok.addC Tryz.call9 cZp_ok
def anZP : Nat -> Ann:=fun | 13=>⟨41,fun | 3=>some ⟨[0],[.slot 4 (.acc 9),.slot 5 (.int .i64)]⟩ | _=>none,fun  | _=>none⟩ | _=>⟨0,fun _=>none,fun _=>none⟩
def VZP (l : List Comp) (Q : Str -> Int -> Prop) : Prop :=
∃ (I : List (List UInt8) -> Int -> Prop),∃ (m : List (List UInt8) -> Int -> Nat),I [] (0 : Int) /\ ∀ (x : List (List UInt8)) (x_1 : Int),I x x_1 -> (x_1 < (↑l.length : Int) -> (0 : Int) <= x_1 /\ x_1 < (↑l.length : Int) /\ OkT (Comp.mk (ix l x_1).Name (ix l x_1).Props (ix l x_1).Comps) /\ (¬mayC (Comp.mk (ix l x_1).Name (ix l x_1).Props (ix l x_1).Comps) = true -> Q [] (2 : Int)) /\ (¬¬mayC (Comp.mk (ix l x_1).Name (ix l x_1).Props (ix l x_1).Comps) = true -> (0 : Int) <= x_1 /\ x_1 < (↑l.length : Int) /\ OkT (Comp.mk (ix l x_1).Name (ix l x_1).Props (ix l x_1).Comps) /\ mayC (Comp.mk (ix l x_1).Name (ix l x_1).Props (ix l x_1).Comps) = true /\ rowC (Comp.mk (ix l x_1).Name (ix l x_1).Props (ix l x_1).Comps) <= 1000000 /\ (x.length + (linC (Comp.mk (ix l x_1).Name (ix l x_1).Props (ix l x_1).Comps)).length) * (some (16 : Nat)).getD (0 : Nat) <= 140737488355328 /\ in64 (x_1 + 1) /\ I (x ++ linC (Comp.mk (ix l x_1).Name (ix l x_1).Props (ix l x_1).Comps)) (x_1 + 1) /\ m (x ++ linC (Comp.mk (ix l x_1).Name (ix l x_1).Props (ix l x_1).Comps)) (x_1 + 1) < m x x_1)) /\ (¬x_1 < (↑l.length : Int) -> rowL l <= 1000000000 /\ ((6 : Int) < depL l -> Q [] (12 : Int)) /\ (¬(6 : Int) < depL l -> ((1000 : Int) < (↑x.length : Int) -> Q [] (5 : Int)) /\ (¬(1000 : Int) < (↑x.length : Int) -> x.length <= 100000 /\ Q (foldS dec x).fst (0 : Int))))
theorem VZP_ok {l : List Comp} {Q : Str -> Int -> Prop} (h : VZP l Q) : vcFun (E:=NZp) (inlGN NZp (GfZT) noM anZP 2) (anZP 13) Tryz.f13 [.sl (N:=U) 40 l] [] [] 0 (resP NZp [.str,.int .i64] Q):=Eq.mp (show VZP l Q = vcFun (E:=NZp) (inlGN NZp (GfZT) noM anZP 2) (anZP 13) Tryz.f13 [.sl (N:=U) 40 l] [] [] 0 (resP NZp [.str,.int .i64] Q) by kernel_rfl) h
theorem pZP (l : List Comp) (hs : ∀ x ∈ l,OkT x) (hl : rowL l <= 1000000) : VZP l (fun y0 y1=>y0 = (printC l).1 /\ y1 = (printC l).2):=by
 unfold VZP
 have hL:=(rowL_ge l).1
 rw [show (some 16).getD 0 = 16 from rfl]
 have h0:=row_geL l
 have hd:=dep_rowL l
 refine ⟨fun x i=>0 <= i /\ i <= l.length /\ (∀ d ∈ l.take i.toNat,mayC d = true) /\ x = linL (l.take i.toNat),fun _ i=>((l.length : Int) - i).toNat,⟨by omega,by omega,fun p hp=>(by cases hp),by rw [show (0 : Int).toNat = 0 from rfl,List.take_zero]; unfold linL; rfl⟩,?_⟩
 rintro y j ⟨j0,j1,hj,hy⟩
 obtain ⟨t0,t1⟩:=row_take (l:=l) j.toNat
 have hyl : (y.length : Int) = rowL (l.take j.toNat):=by rw [hy,lin_lenL]
 refine ⟨fun hl2=>?_,fun hl2=>?_⟩
 . have hp:=ix_mem j0 hl2
   have e2:=take_next j0 hl2
   have h3:=row_next j0 hl2
   obtain ⟨u0,u1⟩:=row_take (l:=l) (j + 1).toNat
   have hrd:=rowC_eq (ix l j)
   have hll:=lin_lenC (ix l j)
   generalize ix l j = d at hp e2 h3 hrd hll ⊢
   rw [show Comp.mk d.Name d.Props d.Comps = d from by cases d; rfl]
   refine ⟨j0,hl2,hs d hp,fun h=>?_,fun h=>?_⟩
   . have e:=pr_may fun hm=>h (mayL_iff.1 hm d hp)
     exact ⟨by rw [e],by rw [e]⟩
   have g1 : mayC d = true:=Classical.byContradiction fun g=>h g
   refine ⟨j0,hl2,hs d hp,g1,by omega,by omega,⟨by omega,by omega⟩,⟨by omega,by omega,?_,?_⟩,by dsimp only; omega⟩
   . rw [e2]
     intro q hq
     rcases List.mem_append.1 hq with hq | hq
     . exact hj q hq
     . rw [List.mem_singleton.1 hq]; exact g1
   . rw [e2,linL_app,linL_cons,show linL [] = [] from rfl,List.append_nil,<- hy]
 rw [take_full j0 hl2] at hj hy hyl
 have hm:=mayL_iff.2 hj
 refine ⟨by omega,fun h6=>?_,fun h6=>⟨fun hk=>?_,fun hk=>⟨by omega,?_⟩⟩⟩
 . have e:=pr_deep hm h6
   exact ⟨by rw [e],by rw [e]⟩
 . have e:=pr_many hm h6 (by omega)
   exact ⟨by rw [e],by rw [e]⟩
 . have e:=pr_ok hm h6 (by omega)
   rw [hy,fold_told hm]
   exact ⟨by rw [e],by rw [e]⟩
def cZP (a : List (SV U)) (nx : Nat) : Option (CR U):=match a with | [.sl 40 l]=>some ⟨[(∀ x ∈ (l : List Comp),OkT x),rowL (l : List Comp) <= 1000000],[],.tup [.str ((printC l).1),.int .i64 ((printC l).2)],[]⟩ | _=>none
theorem cZP_ok (args : List (SV U)) (nx : Nat) (c : CR U) (h : cZP args nx = some c) (hp : args.all pureS = true) (ho : allP c.ob) : ConOK NZp.P NZp.N NZp.T NZp.G 13 args nx c:=by
 unfold cZP at h
 split at h
 . rename_i l
   cases h
   exact con2 NZp_ok (inlGN_ok NZp_ok GfZT_ok noM_ok anZP 2) Tryz.func13 (k1:=.str) (k2:=.int .i64) (x1:=(printC l).1) (x2:=(printC l).2) rfl hp (VZP_ok (pZP l ho.1 ho.2.1))
 . cases h
noncomputable def NZP : Env:=NZp.addC 13 cZP
theorem NZP_ok : EnvOK NZP:=NZp_ok.addC Tryz.call13 cZP_ok
end Go.Proofs.YtadgfmmmdhlljaaGreatDoor
end
section
namespace Go.Co
open Go Go.Wk Go.Wl Go.Rx Go.Fo Go.Li
theorem wProps_len {few : Prp -> Bool} : ∀ (l : List Prp) (n m : Int),wProps few l n = some m -> n + l.length <= m
 | [],n,m,h=>by cases h; simp
 | p :: l,n,m,h=>by
  unfold wProps at h
  split at h
  . have:=wProps_len l _ m h
    rw [List.length_cons]; omega
  . cases h
theorem wLoop_row {few : Prp -> Bool} {f : List Comp -> Int} (hf : ∀ l,0 <= f l /\ f l <= 100000) (hr : ∀ l,f l < 100000 -> rowL l <= 2 * f l) : ∀ (l : List Comp) (n : Int),0 <= n -> wLoop few f l n < 100000 -> 2 * n + rowL l - 2 * l.length <= 2 * wLoop few f l n
 | [],n,h,hl=>by
  unfold wLoop at hl ⊢
  unfold rowL
  simp only [List.length_nil]
  omega
 | c :: l,n,h,hl=>by
  rw [rowL_cons,rowC_eq,List.length_cons]
  unfold wLoop at hl ⊢
  split
  . rename_i h60; rw [if_pos h60] at hl; omega
  . rename_i h60
    rw [if_neg h60] at hl
    split
    . rename_i hm; rw [hm] at hl; simp only at hl; omega
    . rename_i m hm
      rw [hm] at hl
      simp only at hl
      have h1:=wProps_len _ _ _ hm
      have hc0 : 0 <= capN c.Name.length:=by unfold capN; omega
      have hfc:=hf c.Comps
      have hge:=wLoop_ge (few:=few) hf l (if m < 100000 then m + f c.Comps else m) (by split <;> omega)
      obtain ⟨h3,_⟩:=hge.2.2 hl
      have hm1 : m < 100000:=by
       rcases Int.lt_or_le m 100000 with h | h
       . exact h
       . rw [if_neg (by omega)] at h3 hl; omega
      rw [if_pos hm1] at h3 hl ⊢
      have ih:=wLoop_row hf hr l (m + f c.Comps) (by omega) hl
      have hrc:=hr c.Comps (by omega)
      omega
theorem wgt_row {few : Prp -> Bool} : ∀ (r : Nat) (l : List Comp),wgt few r l < 100000 -> rowL l <= 2 * wgt few r l
 | 0,l,h=>by unfold wgt at h; omega
 | r + 1,l,h=>by
  unfold wgt at h ⊢
  split
  . rename_i h6; rw [if_pos h6] at h; omega
  . rename_i h6
    rw [if_neg h6] at h
    have:=wLoop_row (few:=few) (wgt_ge few r) (wgt_row r) l l.length (by omega) h
    omega
theorem FewC.okT {few : Prp -> Bool} (hf : ∀ p,few p = true -> smallP p) : ∀ {c : Comp},FewC few c -> OkT c:=fun {c} h=>by
 induction h with
 | @mk n p cs h1 h2 h3 h4 _ ih=>exact .mk (by omega) (by omega) (fun x hx=>hf x (h3 x hx)) (by omega) ih
theorem flat_big {k : Nat} : ∀ {l : List Str},(∀ s ∈ l,s.length <= k) -> (l.flatMap (rowGo dec 75)).length <= l.length * (4 * k + 2)
 | [],_=>Nat.zero_le _
 | x :: l,h=>by
  have ih:=flat_big (k:=k) (l:=l) fun y hy=>h y (by simp [hy])
  have h1:=rowGo_len dec x.length 75 x (Nat.le_refl _)
  have:=h x (by simp)
  rw [List.flatMap_cons,List.length_append,List.length_cons,Nat.succ_mul]
  omega
theorem printE_nr (l : List Comp) : (printE l).nr = (printC l).2:=by
 unfold printE
 by_cases hm : mayL l = true
 . by_cases h6 : 6 < depL l
   . rw [pr_deep hm h6]; rfl
   . by_cases h3 : 1000 < rowL l
     . rw [pr_many hm h6 h3]; rfl
     . rw [pr_ok hm h6 h3]; rfl
 . rw [pr_may hm]; rfl
theorem print_zero {l : List Comp} (h : (printC l).2 = 0) : mayL l = true /\ depL l <= 6 /\ rowL l <= 1000 /\ (printC l).1 = (linL l).flatMap (rowGo dec 75):=by
 rcases print_cases l with ⟨a,b,c,e⟩ | ⟨_,n,e,h2,_⟩
 . exact ⟨a,b,c,by rw [e]⟩
 . rw [e] at h; simp only at h; omega
theorem print_nz {l : List Comp} (h : (printC l).2 ≠ 0) : (printC l).1 = []:=by
 rcases print_cases l with ⟨a,b,c,e⟩ | ⟨_,n,e,h2,_⟩
 . rw [e] at h; exact absurd rfl h
 . rw [e]
theorem print_len {l : List Comp} (h : mayL l = true) (hr : rowL l <= 1000) : ((linL l).flatMap (rowGo dec 75)).length <= 30000000:=by
 have h1:=flat_big (k:=5000) (l:=linL l) fun s hs=>(rMay_ok (rows_mayL l h s hs)).1
 have h2:=lin_lenL l
 have h3:=Nat.mul_le_mul_right (4 * 5000 + 2) (show (linL l).length <= 1000 by omega)
 omega
end Go.Co
end
section
namespace Go.Co
open Go Go.Wk Go.Wl Go.Rx Go.Fo Go.Li
inductive SmC : Comp -> Prop
 | mk {n : Str} {p : List Prp} {c : List Comp} : n.length <= 5000 -> (∀ x ∈ p,smallP x) -> (∀ x ∈ c,SmC x) -> SmC (.mk n p c)
theorem SmC.out {c : Comp} (h : SmC c) : c.Name.length <= 5000 /\ (∀ x ∈ c.Props,smallP x) /\ ∀ x ∈ c.Comps,SmC x:=by
 cases h with | mk h1 h2 h3=>exact ⟨h1,h2,h3⟩
theorem printC_num (l : List Comp) : 0 <= (printC l).2 /\ (printC l).2 <= 12:=by
 rcases print_cases l with ⟨_,_,_,e⟩ | ⟨_,n,e,h2,_⟩ <;> rw [e]
 . exact ⟨Int.le_refl _,by show (0 : Int) <= 12; decide⟩
 . show 0 <= n /\ n <= 12; omega
theorem printC_len (l : List Comp) : (printC l).1.length <= 30000000:=by
 by_cases h : (printC l).2 = 0
 . obtain ⟨m,_,r,e⟩:=print_zero h
   rw [e]; exact print_len m r
 . rw [print_nz h]; exact Nat.zero_le _
theorem again {s : Str} {l : List Comp} (h : compS s = .ok l) : ((printC l).2 = 2 /\ 2500 < s.length /\ (printC l).1 = []) ∨ ((printC l).2 = 0 /\ (printC l).1.length <= 30000000 /\ compS (printC l).1 = .ok l):=by
 obtain ⟨a,b,c,_⟩:=parse_right_all h
 by_cases hm : mayL l = true
 . right
   rw [pr_ok hm (by omega) (by omega)]
   exact ⟨rfl,print_len hm b,parse_print hm a b⟩
 . left
   rw [pr_may hm]
   exact ⟨rfl,by apply Classical.byContradiction; intro g; exact hm (c (by omega)),rfl⟩
theorem two_dep (a b : Comp) : depL [a,b] = max (depC a) (depC b):=by
 have:=dep_geC a; have:=dep_geC b
 rw [depL_cons,dep_one]
theorem two_row (a b : Comp) : rowL [a,b] = rowC a + rowC b:=by rw [rowL_cons,row_one]
theorem two_may {a b : Comp} : mayL [a,b] = true ↔ mayC a = true /\ mayC b = true:=by
 rw [mayL_cons,mayL_cons,show mayL [] = true by rw [mayL],Bool.and_true,Bool.and_eq_true]
theorem one_may {a : Comp} : mayL [a] = true ↔ mayC a = true:=by
 rw [mayL_cons,show mayL [] = true by rw [mayL],Bool.and_true]
theorem lin_one (a : Comp) : linL [a] = linC a:=by rw [linL_cons,show linL [] = [] by rw [linL],List.append_nil]
theorem lin_two (a b : Comp) : linL [a,b] = linC a ++ linC b:=by rw [linL_cons,lin_one]
theorem row_geC (c : Comp) : 0 <= rowC c:=by have:=lin_lenC c; omega
theorem print_one {a b : Comp} (h : (printC [a,b]).2 = 0) : (printC [a]).2 = 0 /\ (printC [b]).2 = 0:=by
 obtain ⟨m,d,r,_⟩:=print_zero h
 obtain ⟨m1,m2⟩:=two_may.1 m
 rw [two_dep] at d
 rw [two_row] at r
 have:=row_geC a; have:=row_geC b
 rw [pr_ok (one_may.2 m1) (by rw [dep_one]; omega) (by rw [row_one]; omega),pr_ok (one_may.2 m2) (by rw [dep_one]; omega) (by rw [row_one]; omega)]
 exact ⟨rfl,rfl⟩
theorem print_both {a b : Comp} (h1 : (printC [a]).2 = 0) (h2 : (printC [b]).2 = 0) (hr : rowL [a,b] <= 900) : printC [a,b] = ((printC [a]).1 ++ (printC [b]).1,0):=by
 obtain ⟨m1,d1,r1,e1⟩:=print_zero h1
 obtain ⟨m2,d2,r2,e2⟩:=print_zero h2
 rw [dep_one] at d1 d2
 rw [pr_ok (two_may.2 ⟨one_may.1 m1,one_may.1 m2⟩) (by rw [two_dep]; omega) (by omega),e1,e2,lin_two,lin_one,lin_one,List.flatMap_append]
def nest (a b : Comp) : Comp:=.mk [88] [] [a,b]
theorem nest_begin : rowGo dec 75 (sBEGIN ++ [58,88]) = [66,69,71,73,78,58,88,13,10]:=by kernel_rfl
theorem nest_end : rowGo dec 75 (sEND ++ [58,88]) = [69,78,68,58,88,13,10]:=by kernel_rfl
theorem print_nest {a b : Comp} (h1 : (printC [a]).2 = 0) (h2 : (printC [b]).2 = 0) (hr : rowL [a,b] <= 900) :
  ((printC [nest a b]).2 = 12 /\ 6 <= depL [a,b]) ∨
  (printC [nest a b] = ([66,69,71,73,78,58,88,13,10] ++ (printC [a]).1 ++ (printC [b]).1 ++ [69,78,68,58,88,13,10],0) /\ (printC [nest a b]).1.length <= 30000000 /\ compS (printC [nest a b]).1 = .ok [nest a b]):=by
 obtain ⟨m1,d1,r1,e1⟩:=print_zero h1
 obtain ⟨m2,d2,r2,e2⟩:=print_zero h2
 have hm : mayL [nest a b] = true:=one_may.2 (mayC_out.2 ⟨show isName [88] by decide,show ([88] : Str).length + 6 <= 5000 by decide,fun p hp=>(by cases hp),two_may.2 ⟨one_may.1 m1,one_may.1 m2⟩⟩)
 have hd : depL [nest a b] = 1 + depL [a,b]:=by rw [dep_one,depC_eq]; rfl
 have hrr : rowL [nest a b] = 2 + rowL [a,b]:=by
  rw [row_one,rowC_eq]
  show 2 + ((0 : Nat) : Int) + rowL [a,b] = 2 + rowL [a,b]
  omega
 by_cases h6 : 6 < depL [nest a b]
 . left
   rw [pr_deep hm h6]
   exact ⟨rfl,by omega⟩
 . right
   rw [pr_ok hm h6 (by omega)]
   refine ⟨?_,print_len hm (by omega),parse_print hm (by omega) (by omega)⟩
   rw [e1,e2,lin_one,lin_one,lin_one,linC_eq]
   show ((_ :: ([] ++ (linL [a,b] ++ [_]))).flatMap _,_) = _
   rw [List.nil_append,List.flatMap_cons,List.flatMap_append,lin_two,List.flatMap_append,List.flatMap_cons,List.flatMap_nil,List.append_nil]
   show (rowGo dec 75 (sBEGIN ++ [58,88]) ++ _,_) = _
   rw [nest_begin]
   show (_ ++ (_ ++ _ ++ rowGo dec 75 (sEND ++ [58,88])),_) = _
   rw [nest_end]
   simp only [List.append_assoc]
end Go.Co
end
section
namespace Go.Co
open Go Go.Wk Go.Wl Go.Li Go.ChangeShapes Go.WideShapes Go.RowKit
def OpensF {α : Type} (P : Program) (t : TypeId) (r : Rd α) (N : Nat) : Prop :=
 ∀ {H : Type} {enc : TypeId × Value -> H} {fuel : Nat} {w : World} {sp : Nat -> Bool} {cs : List Value} {x : DataW H × List MemPlace},fuel <= N -> DataW.trod enc P w 0 sp true fuel t cs = some x -> ∃ y,r.rd (fun _=>True) w cs y
section
variable {P : Program} {t e : TypeId}
theorem opensF_slice {α : Type} {r : Rd α} {N : Nat} (ht : P.underlying t = some (.slice e)) (hsz : P.cellsOf e = r.sz) (hp : 0 < r.sz) (ho : OpensF P e r N) : OpensF P t (dSlice r) (N + 1):=fun {H enc fuel w sp cs x} hf h=>by
 rcases DataW.trod_slice ht h with ⟨rfl,_⟩ | ⟨a,len,cap,elems,rest,n,hn,rfl,_,_,hlc,hcm,hel,hget,_⟩
 . exact ⟨[],dSlice_nil⟩
 . have each : ∀ i,i < len -> ∃ c y,Cells w a.block (a.off + i * r.sz) c /\ r.rd (fun _=>True) w c y /\ a.spot = none:=by
     intro i hi
     have h1:=hget i hi
     rw [List.getElem?_eq_getElem (by omega)] at h1
     simp only [Option.bind_eq_some_iff] at h1
     obtain ⟨c,hc,hx⟩:=h1
     obtain ⟨y,hy⟩:=ho (by omega) hx
     rw [hsz] at hc
     have hc':=cells_of hp hc
     have hs0 : a.spot = none:=by
      have h0:=hget 0 (by omega)
      rw [List.getElem?_eq_getElem (by omega)] at h0
      simp only [Option.bind_eq_some_iff] at h0
      obtain ⟨c0,hc0,_⟩:=h0
      rw [hsz] at hc0
      have:=(cells_of hp hc0).1
      simpa [Addr.add] using this
     refine ⟨c,y,?_,hy,hs0⟩
     have:=hc'.2.2
     unfold Addr.add at this
     split at this
     . rename_i e0
       rw [e0]; exact this
     . exact this
   have each' : ∀ i : Fin len,∃ y : α,∃ c,Cells w a.block (a.off + i * r.sz) c /\ r.rd (fun _=>True) w c y:=fun i=>by
    obtain ⟨c,y,h1,h2,_⟩:=each i i.2; exact ⟨y,c,h1,h2⟩
   have ⟨f,hf⟩:=Classical.axiomOfChoice each'
   refine ⟨List.ofFn f,?_,some a,cap,by simp,⟨fun h=>(by cases h),by simpa using hlc⟩,fun i hi=>?_⟩
   . simp [maxLen] at hcm ⊢; omega
   . have hi' : i < len:=by simpa using hi
     obtain ⟨c,h1,h2⟩:=hf ⟨i,hi'⟩
     obtain ⟨_,_,_,_,hs0⟩:=each i hi'
     refine ⟨a.block,a.off,c,?_,trivial,h1,?_⟩
     . obtain ⟨b,o,s⟩:=a; simp only at hs0; subst hs0; rfl
     . simpa using h2
theorem opensF_comp {dP : Rd Prp} {fs : Array Field} {tn tp tc : TypeId} (ht : P.underlying t = some (.struct fs)) (hf : fs.toList.map (fun f=>(f.type,f.offset)) = [(tn,0),(tp,1),(tc,2)]) (hz : P.cellsOf t = 3) (zn : P.cellsOf tn = 1) (zp : P.cellsOf tp = 1) (zc : P.cellsOf tc = 1)
  (hn : P.underlying tn = some .string) (op : OpensD P tp (dSlice dP)) (hc : P.underlying tc = some (.slice t)) : ∀ N : Nat,OpensF P t (dComp dP) N:=by
 intro N
 induction N using Nat.strongRecOn with
 | ind N ih =>
  intro H enc fuel w sp cs x hfu h
  obtain ⟨xs,n,hn1,_,hlen,hxl,hget⟩:=DataW.trod_struct ht h
  have hsz : fs.size = 3:=by have:=congrArg List.length hf; simpa using this
  have fld : ∀ (i : Nat) (hi : i < 3),fs[i]? = some (fs[i]'(by omega)):=fun i hi=>by simp
  have ty : ∀ (i : Nat) (hi : i < 3),((fs[i]'(by omega)).type,(fs[i]'(by omega)).offset) = ([(tn,0),(tp,1),(tc,2)] : List (TypeId × Nat))[i]'(by simpa using hi):=fun i hi=>by
   have h1 : (fs.toList.map (fun f=>(f.type,f.offset)))[i]? = some ((fs[i]'(by omega)).type,(fs[i]'(by omega)).offset):=by
    rw [List.getElem?_map,Array.getElem?_toList,fld i hi]; rfl
   rw [hf,List.getElem?_eq_getElem (by simpa using hi)] at h1
   exact (Option.some.inj h1).symm
  rw [hz] at hlen
  have hcs : ∃ a b c,cs = [a,b,c]:=by
   match cs,hlen with
   | [a,b,c],_=>exact ⟨a,b,c,rfl⟩
  obtain ⟨a,b,c,rfl⟩:=hcs
  . have g0:=hget 0 _ (fld 0 (by omega))
    have g1:=hget 1 _ (fld 1 (by omega))
    have g2:=hget 2 _ (fld 2 (by omega))
    have t0:=ty 0 (by omega)
    have t1:=ty 1 (by omega)
    have t2:=ty 2 (by omega)
    simp only [List.getElem_cons_zero,List.getElem_cons_succ,Prod.mk.injEq] at t0 t1 t2
    rw [t0.1,t0.2,zn,List.getElem?_eq_getElem (by omega)] at g0
    rw [t1.1,t1.2,zp,List.getElem?_eq_getElem (by omega)] at g1
    rw [t2.1,t2.2,zc,List.getElem?_eq_getElem (by omega)] at g2
    obtain ⟨y0,k0⟩:=opensD_str hn g0
    obtain ⟨y1,k1⟩:=op g1
    have sl : OpensF P tc (dSlice (dComp dP)) n:=by
     cases n with
     | zero =>
       intro H enc fuel w sp cs x hf h
       obtain rfl:=Nat.le_zero.1 hf
       rcases DataW.trod_slice hc h with ⟨rfl,_⟩ | ⟨_,_,_,_,_,_,hn,_⟩
       . exact ⟨[],dSlice_nil⟩
       . cases hn
     | succ m=>exact opensF_slice hc (by rw [hz]; rfl) (by show 0 < 3; omega) (ih m (by omega))
    obtain ⟨y2,k2⟩:=sl (Nat.le_refl _) g2
    exact ⟨.mk y0 y1 y2,(dComp_iff dP).2 ⟨[a],[b],[c],rfl,k0,k1,k2⟩⟩
theorem opensD_comp {dP : Rd Prp} {fs : Array Field} {tn tp tc : TypeId} (ht : P.underlying t = some (.struct fs)) (hf : fs.toList.map (fun f=>(f.type,f.offset)) = [(tn,0),(tp,1),(tc,2)]) (hz : P.cellsOf t = 3) (zn : P.cellsOf tn = 1) (zp : P.cellsOf tp = 1) (zc : P.cellsOf tc = 1)
  (hn : P.underlying tn = some .string) (op : OpensD P tp (dSlice dP)) (hc : P.underlying tc = some (.slice t)) : OpensD P t (dComp dP):=fun {H enc fuel w sp cs x} h=>opensF_comp ht hf hz zn zp zc hn op hc fuel (Nat.le_refl _) h
end
end Go.Co
end
