/- 35 texts, one behind the other. -/
import Derived.Test.YtadgfmmmdhlljaaGreatDoorK9
import Derived.Test.YtadgfmmmdhlljaaGreatDoorK4
import Derived.Test.YtadgfmmmdhlljaaGreatDoorK3
import Derived.Test.YtadgfmmmdhlljaaGreatDoorK6
set_option linter.unusedVariables false
set_option linter.unusedSimpArgs false
set_option maxRecDepth 100000
section
namespace Go.Proofs.YtadgfmmmdhlljaaGreatDoor
open Go Go.Wk Go.Wl Go.Rx Go.Fo Go.Li Go.Co 
def an103 : Nat -> Ann:=fun | 68=>⟨45,fun | 7=>some ⟨[0,2,6],[.own 0 [.str],.own 2 [.str,(.acc 9)],.own 6 [.str,(.acc 9)]]⟩ | _=>none,fun  | _=>none⟩ | _=>⟨0,fun _=>none,fun _=>none⟩
def V103 (s : Str) (Q : Str -> Param -> Err -> Prop) : Prop :=
List.length s <= 1000000000 /\ (nE s ≠ Err.nil -> Q (List.dropWhile letterB s) (Param.mk [] []) (nE s)) /\ (¬nE s ≠ Err.nil -> (¬(hdIs (61 : UInt8) (List.dropWhile letterB s)).isSome = true -> Q ((hdIs (61 : UInt8) (List.dropWhile letterB s)).getD (List.dropWhile letterB s)) (Param.mk [] []) (Err.w (134 : Nat) ([112,97,114,97,109] : List UInt8) (Err.no (11 : Int)))) /\ (¬¬(hdIs (61 : UInt8) (List.dropWhile letterB s)).isSome = true -> ∃ (I : List UInt8 -> List UInt8 -> List (List UInt8) -> List UInt8 -> List (List UInt8) -> Prop),∃ (m : List UInt8 -> List UInt8 -> List (List UInt8) -> List UInt8 -> List (List UInt8) -> Nat),I ((hdIs (61 : UInt8) (List.dropWhile letterB s)).getD (List.dropWhile letterB s)) [] [] (upper (List.takeWhile letterB s)) [] /\ ∀ (x x_1 : List UInt8) (x_2 : List (List UInt8)) (x_3 : List UInt8) (x_4 : List (List UInt8)),I x x_1 x_2 x_3 x_4 -> x.length <= 100000000 /\ ((gV x).snd.fst ≠ Err.nil -> Q (gV x).snd.snd (Param.mk x_3 x_4) (gV x).snd.fst) /\ (¬(gV x).snd.fst ≠ Err.nil -> (x_4.length + [(gV x).fst].length) * (some (16 : Nat)).getD (0 : Nat) <= 140737488355328 /\ (¬(hdIs (44 : UInt8) (gV x).snd.snd).isSome = true -> Q ((hdIs (44 : UInt8) (gV x).snd.snd).getD (gV x).snd.snd) (Param.mk x_3 (x_4 ++ [(gV x).fst])) Err.nil) /\ (¬¬(hdIs (44 : UInt8) (gV x).snd.snd).isSome = true -> I ((hdIs (44 : UInt8) (gV x).snd.snd).getD (gV x).snd.snd) x_1 x_2 x_3 (x_4 ++ [(gV x).fst]) /\ m ((hdIs (44 : UInt8) (gV x).snd.snd).getD (gV x).snd.snd) x_1 x_2 x_3 (x_4 ++ [(gV x).fst]) < m x x_1 x_2 x_3 x_4))))
theorem V103_ok {s : Str} {Q : Str -> Param -> Err -> Prop} (h : V103 s Q) : vcFun (E:=N65) (inlMN N65 M121 an103 2) (an103 68) Tryz.f68 [.ref 0 0] [(0,.own 128 [.str s])] [] 1 (resM N65 128 1 2 [.str,.val 110,.err] Q):=Eq.mp (show V103 s Q = vcFun (E:=N65) (inlMN N65 M121 an103 2) (an103 68) Tryz.f68 [.ref 0 0] [(0,.own 128 [.str s])] [] 1 (resM N65 128 1 2 [.str,.val 110,.err] Q) by kernel_rfl) h
theorem p103 (s : Str) (hs : s.length <= 100000000) : V103 s (fun y0 y1 y2=>y0 = (gP s).2.2 /\ y1 = (gP s).1 /\ y2 = (gP s).2.1):=by
 unfold V103
 have hd:=drop_len letterB s
 refine ⟨by omega,fun he=>?_,fun he=>?_⟩
 . rw [gP_err he]; exact ⟨rfl,rfl,rfl⟩
 have he : nE s = .nil:=Classical.not_not.1 he
 refine ⟨fun h1=>?_,fun h1=>?_⟩
 . have h1 : hdIs 61 (s.dropWhile letterB) = none:=by simpa using h1
   rw [h1,gP_no he h1]; exact ⟨rfl,rfl,rfl⟩
 obtain ⟨t,h1⟩:=Option.isSome_iff_exists.1 (Classical.not_not.1 h1)
 have ht:=hdIs_len h1
 rw [h1,gP_on he h1]
 simp only [Option.getD_some]
 refine ⟨fun x a b n vs=>a = [] /\ b = [] /\ n = upper (s.takeWhile letterB) /\ vs.length + x.length <= s.length /\ ∃ k,x.length < k /\ vs ++ (gVs k x).1 = (gVs (t.length + 1) t).1 /\ (gVs k x).2 = (gVs (t.length + 1) t).2,fun x _ _ _ _=>x.length,⟨rfl,rfl,rfl,by simp; omega,t.length + 1,by omega,rfl,rfl⟩,?_⟩
 rintro x a b n vs ⟨rfl,rfl,rfl,hl,k,hk,h2,h3⟩
 obtain ⟨k,rfl⟩ : ∃ j,k = j + 1:=⟨k - 1,by omega⟩
 have gl:=gV_len x
 refine ⟨by omega,fun hv=>?_,fun hv=>⟨by simp; omega,fun h4=>?_,fun h4=>?_⟩⟩
 . rw [gVs_err hv] at h2 h3
   rw [<- h2,<- h3]; simp
 . have hv : (gV x).2.1 = .nil:=Classical.not_not.1 hv
   have h4 : hdIs 44 (gV x).2.2 = none:=by simpa using h4
   rw [gVs_end hv h4] at h2 h3
   rw [<- h2,<- h3,h4]; simp
 . have hv : (gV x).2.1 = .nil:=Classical.not_not.1 hv
   obtain ⟨u,h4⟩:=Option.isSome_iff_exists.1 (Classical.not_not.1 h4)
   have hu:=hdIs_len h4
   rw [gVs_on hv h4] at h2 h3
   rw [h4]
   simp only [Option.getD_some]
   refine ⟨⟨by first | rfl | trivial,by first | rfl | trivial,by first | rfl | trivial,by simp; omega,k,by omega,by rw [<- h2]; simp,h3⟩,by omega⟩
def m103 : MC U:=⟨128,fun a ce=>match a,ce with | [],[.str s]=>some ⟨[List.length (α:=UInt8) s <= 100000000],[],.tup [.agg [.str ((gP s).1).Name,.sl 9 ((gP s).1).Values],.err ((gP s).2.1)],[.str ((gP s).2.2)]⟩ | _,_=>none⟩
theorem m103_ok (args cells : List (SV U)) (r : MR U) (h : m103.C args cells = some r) (ho : allP r.ob) : MutOK Tryz.prog U eT G0 68 m103.S args cells r:=by
 unfold m103 at h
 simp only at h
 split at h
 . rename_i s
   cases h
   exact mut_ok N65_ok (inlMN_ok N65_ok M121_ok an103 2) Tryz.func68 (m:=1) (n:=2) (ks:=[.str,.val 110,.err]) (X:=((gP s).2.2,(gP s).1,(gP s).2.1,())) rfl (V103_ok (p103 s ho.1))
 . cases h
noncomputable def N103 : Env:=N65.addI 68 Tryz.f68
theorem N103_ok : EnvOK N103:=N65_ok.addI Tryz.call68 Tryz.func68
def M103 : Nat -> Option (MC U):=addF 68 m103 M121
theorem M103_ok : ∀ K o args cells r,M103 K = some o -> o.C args cells = some r -> allP r.ob -> MutOK Tryz.prog U eT G0 K o.S args cells r:=addM_ok m103_ok M121_ok
noncomputable def NI47 : Env:=N103.addI 47 Tryz.f47
theorem NI47_ok : EnvOK NI47:=N103_ok.addI Tryz.call47 Tryz.func47
end Go.Proofs.YtadgfmmmdhlljaaGreatDoor
end
section
namespace Go.Rx
open Go Go.Wk Go.Wl
def HZ (E : Env) (inl : Inl E) (an : Ann) (fn : Func) (args : List E.SV) (n : Nat) (ks : List VK) (X : Vals E.N ks) : Prop:=vcFun inl an fn args [] [] 0 (resZ E n ks (eqs E.N ks X []))
theorem conH {E : Env} {inl : Inl E} {nx K n : Nat} {fn : Func} {an : Ann} {ks : List VK} {X : Vals E.N ks} {args : List E.SV} {ob : List Prop} (hE : EnvOK E) (hI : InlOK E inl) (hf : E.P.funcs[K]? = some fn) (hk : ks.all noAcc = true) (hp : args.all pureS = true)
  (hv : HZ E inl an fn args n ks X) : ConOK E.P E.N E.T E.G K args nx ⟨ob,[],tellA n (tell E ks X),[]⟩:=conZ hE hI hf hk hp hv
end Go.Rx
end
section
namespace Go.Proofs.YtadgfmmmdhlljaaGreatDoor
open Go Go.Wk Go.Wl Go.Rx Go.Fo Go.Li Go.Co 
def an28 : Nat -> Ann:=fun | 25=>⟨23,fun _=>none,fun  | _=>none⟩ | 47=>⟨72,fun | 10=>some ⟨[2,4,5],[.own 2 [.str,.str,(.acc 110),.str],.own 4 [.str],.own 5 [.str,.str,(.acc 110),.str]]⟩ | _=>none,fun | 7=>some ⟨[2,3,4,5],[.slot 6 .str,.slot 7 .err,.own 4 [.str],.own 5 [.str,.str,(.acc 110),.str]]⟩ | _=>none⟩ | 69=>⟨42,fun | 2=>some ⟨[0,1],[.slot 5 (.int .i64)]⟩ | _=>none,fun  | _=>none⟩ | _=>⟨0,fun _=>none,fun _=>none⟩
def q280 (x_10 : List UInt8):=(hdIs (58 : UInt8) ((hdIs (59 : UInt8) x_10).getD x_10)).getD ((hdIs (59 : UInt8) x_10).getD x_10)
def V28 (s : Str) (Q : Prp -> Err -> Prop) : Prop :=
List.length s <= 1000000000 /\ ∃ (J : List UInt8 -> Err -> List UInt8 -> List UInt8 -> List UInt8 -> List Param -> List UInt8 -> Prop),((nE s = Err.nil -> ((hdIs (46 : UInt8) (List.dropWhile letterB s)).isSome = true -> List.length ((hdIs (46 : UInt8) (List.dropWhile letterB s)).getD (List.dropWhile letterB s)) <= 1000000000 /\ J (upper (List.takeWhile letterB ((hdIs (46 : UInt8) (List.dropWhile letterB s)).getD (List.dropWhile letterB s)))) (nE ((hdIs (46 : UInt8) (List.dropWhile letterB s)).getD (List.dropWhile letterB s))) (List.dropWhile letterB ((hdIs (46 : UInt8) (List.dropWhile letterB s)).getD (List.dropWhile letterB s))) (upper (List.takeWhile letterB s)) [] [] []) /\ (¬(hdIs (46 : UInt8) (List.dropWhile letterB s)).isSome = true -> J (upper (List.takeWhile letterB s)) (nE s) ((hdIs (46 : UInt8) (List.dropWhile letterB s)).getD (List.dropWhile letterB s)) [] [] [] [])) /\ (¬nE s = Err.nil -> J (upper (List.takeWhile letterB s)) (nE s) (List.dropWhile letterB s) [] [] [] [])) /\ ∀ (x : List UInt8) (x_1 : Err) (x_2 x_3 x_4 : List UInt8) (x_5 : List Param) (x_6 : List UInt8),J x x_1 x_2 x_3 x_4 x_5 x_6 -> (x_1 ≠ Err.nil -> (x_1.is (11 : Int) -> Q (Prp.mk [] [] [] []) (Err.no (11 : Int))) /\ (¬x_1.is (11 : Int) -> x_5.length <= 1000000000 /\ (manyB (Prp.mk x_3 x_4 x_5 x_6) = true -> Q (Prp.mk [] [] [] []) (Err.no (5 : Int))) /\ (¬manyB (Prp.mk x_3 x_4 x_5 x_6) = true -> Q (Prp.mk x_3 x_4 x_5 x_6) Err.nil))) /\ (¬x_1 ≠ Err.nil -> ∃ (I : List UInt8 -> List UInt8 -> List Param -> List UInt8 -> List UInt8 -> List UInt8 -> List UInt8 -> List Param -> List UInt8 -> Prop),∃ (m : List UInt8 -> List UInt8 -> List Param -> List UInt8 -> List UInt8 -> List UInt8 -> List UInt8 -> List Param -> List UInt8 -> Nat),I [] [] [] [] x_2 x_3 x x_5 x_6 /\ ∀ (x x_7 : List UInt8) (x_8 : List Param) (x_9 x_10 x_11 x_12 : List UInt8) (x_13 : List Param) (x_14 : List UInt8),I x x_7 x_8 x_9 x_10 x_11 x_12 x_13 x_14 -> ((hdIs (59 : UInt8) x_10).isSome = true -> List.length ((hdIs (59 : UInt8) x_10).getD x_10) <= 100000000 /\ ((gP ((hdIs (59 : UInt8) x_10).getD x_10)).snd.fst ≠ Err.nil -> ((gP ((hdIs (59 : UInt8) x_10).getD x_10)).snd.fst.is (11 : Int) -> Q (Prp.mk [] [] [] []) (Err.no (11 : Int))) /\ (¬(gP ((hdIs (59 : UInt8) x_10).getD x_10)).snd.fst.is (11 : Int) -> x_13.length <= 1000000000 /\ (manyB (Prp.mk x_11 x_12 x_13 x_14) = true -> Q (Prp.mk [] [] [] []) (Err.no (5 : Int))) /\ (¬manyB (Prp.mk x_11 x_12 x_13 x_14) = true -> Q (Prp.mk x_11 x_12 x_13 x_14) Err.nil))) /\ (¬(gP ((hdIs (59 : UInt8) x_10).getD x_10)).snd.fst ≠ Err.nil -> (x_13.length + [Param.mk (gP ((hdIs (59 : UInt8) x_10).getD x_10)).fst.Name (gP ((hdIs (59 : UInt8) x_10).getD x_10)).fst.Values].length) * (some (40 : Nat)).getD (0 : Nat) <= 140737488355328 /\ I x x_7 x_8 x_9 (gP ((hdIs (59 : UInt8) x_10).getD x_10)).snd.snd x_11 x_12 (x_13 ++ [Param.mk (gP ((hdIs (59 : UInt8) x_10).getD x_10)).fst.Name (gP ((hdIs (59 : UInt8) x_10).getD x_10)).fst.Values]) x_14 /\ m x x_7 x_8 x_9 (gP ((hdIs (59 : UInt8) x_10).getD x_10)).snd.snd x_11 x_12 (x_13 ++ [Param.mk (gP ((hdIs (59 : UInt8) x_10).getD x_10)).fst.Name (gP ((hdIs (59 : UInt8) x_10).getD x_10)).fst.Values]) x_14 < m x x_7 x_8 x_9 x_10 x_11 x_12 x_13 x_14)) /\ (¬(hdIs (59 : UInt8) x_10).isSome = true -> (¬(hdIs (58 : UInt8) ((hdIs (59 : UInt8) x_10).getD x_10)).isSome = true -> ((Err.w (134 : Nat) ([118,97,108,117,101] : List UInt8) (Err.no (11 : Int))).is (11 : Int) -> Q (Prp.mk [] [] [] []) (Err.no (11 : Int))) /\ (¬(Err.w (134 : Nat) ([118,97,108,117,101] : List UInt8) (Err.no (11 : Int))).is (11 : Int) -> x_13.length <= 1000000000 /\ (manyB (Prp.mk x_11 x_12 x_13 x_14) = true -> Q (Prp.mk [] [] [] []) (Err.no (5 : Int))) /\ (¬manyB (Prp.mk x_11 x_12 x_13 x_14) = true -> Q (Prp.mk x_11 x_12 x_13 x_14) Err.nil))) /\ (¬¬(hdIs (58 : UInt8) ((hdIs (59 : UInt8) x_10).getD x_10)).isSome = true -> ∃ (I : Int -> Prop),∃ (m : Int -> Nat),I (0 : Int) /\ ∀ (x : Int),I x -> (x < (↑(List.length (q280 x_10)) : Int) -> (0 : Int) <= x) /\ (x < (↑(List.length (q280 x_10)) : Int) -> x < (↑(List.length (q280 x_10)) : Int)) /\ (x < (↑(List.length (q280 x_10)) : Int) /\ standsB (ix (q280 x_10) x) = true -> in64 (x + 1) /\ I (x + 1) /\ m (x + 1) < m x) /\ (¬(x < (↑(List.length (q280 x_10)) : Int) /\ standsB (ix (q280 x_10) x) = true) -> (0 : Int) <= x /\ x <= (↑(List.length (q280 x_10)) : Int) /\ (0 : Int) <= x /\ x <= (↑(List.length (q280 x_10)) : Int) /\ (List.drop x.toNat (q280 x_10) ≠ [] -> ((Err.w (134 : Nat) ([118,97,108,117,101] : List UInt8) (Err.no (11 : Int))).is (11 : Int) -> Q (Prp.mk [] [] [] []) (Err.no (11 : Int))) /\ (¬(Err.w (134 : Nat) ([118,97,108,117,101] : List UInt8) (Err.no (11 : Int))).is (11 : Int) -> x_13.length <= 1000000000 /\ (manyB (Prp.mk x_11 x_12 x_13 (List.take x.toNat (q280 x_10))) = true -> Q (Prp.mk [] [] [] []) (Err.no (5 : Int))) /\ (¬manyB (Prp.mk x_11 x_12 x_13 (List.take x.toNat (q280 x_10))) = true -> Q (Prp.mk x_11 x_12 x_13 (List.take x.toNat (q280 x_10))) Err.nil))) /\ (¬List.drop x.toNat (q280 x_10) ≠ [] -> (Err.nil.is (11 : Int) -> Q (Prp.mk [] [] [] []) (Err.no (11 : Int))) /\ (¬Err.nil.is (11 : Int) -> x_13.length <= 1000000000 /\ (manyB (Prp.mk x_11 x_12 x_13 (List.take x.toNat (q280 x_10))) = true -> Q (Prp.mk [] [] [] []) (Err.no (5 : Int))) /\ (¬manyB (Prp.mk x_11 x_12 x_13 (List.take x.toNat (q280 x_10))) = true -> Q (Prp.mk x_11 x_12 x_13 (List.take x.toNat (q280 x_10))) Err.nil)))))))
def W28 (s : Str) (Q : Prp -> Err -> Prop) : Prop:=vcFun (E:=NI47) (inlMN NI47 M103 an28 4) (an28 25) Tryz.f25 [.str s] [] [] 0 (resZ NI47 2 [.val 58,.err] Q)
attribute [local irreducible] W28 HZ
theorem V28_eq {s : Str} {Q : Prp -> Err -> Prop} : V28 s Q = W28 s Q:=by kernel_rfl
theorem V28_ok {s : Str} {Q : Prp -> Err -> Prop} (h : V28 s Q) : W28 s Q:=by rw [<- V28_eq]; exact h
theorem p28 (s : Str) (hs : s.length <= 100000000) : V28 s (fun y0 y1=>y0 = (parseS s).1 /\ y1 = (parseS s).2):=by
 unfold V28 q280
 have hd:=drop_len letterB s
 have bad : pProp s = none -> prp0 = (parseS s).1 /\ Err.no 11 = (parseS s).2:=fun h=>by unfold parseS; rw [h]; exact ⟨rfl,rfl⟩
 refine ⟨by omega,fun nm e r g b c d=>(b = [] /\ c = [] /\ d = []) /\ okE e /\ (e ≠ .nil -> pProp s = none) /\ (e = .nil -> pProp s = tailS g nm [] r) /\ r.length <= s.length,⟨fun he=>⟨fun h1=>?_,fun h1=>?_⟩,fun he=>?_⟩,?_⟩
 . obtain ⟨t,h1⟩:=Option.isSome_iff_exists.1 h1
   have ht:=hdIs_len h1
   have hdt:=drop_len letterB t
   have hp:=prop_group he h1
   rw [h1]
   simp only [Option.getD_some]
   refine ⟨by omega,⟨by first | rfl | trivial,by first | rfl | trivial,by first | rfl | trivial⟩,nE_ok t,fun h=>by rw [hp,if_neg h],fun h=>by rw [hp,if_pos h],by omega⟩
 . have h1 : hdIs 46 (s.dropWhile letterB) = none:=by simpa using h1
   rw [h1]
   exact ⟨⟨rfl,rfl,rfl⟩,nE_ok s,fun h=>absurd he h,fun h=>prop_plain he h1,hd⟩
 . exact ⟨⟨rfl,rfl,rfl⟩,nE_ok s,fun h=>prop_err he,fun h=>absurd h he,hd⟩
 rintro nm e r g b c d ⟨⟨rfl,rfl,rfl⟩,ho,h1,h2,hl⟩
 refine ⟨fun he=>⟨fun _=>bad (h1 he),fun h=>absurd (okE_is ho he) h⟩,fun he=>?_⟩
 have h2:=h2 (Classical.not_not.1 he)
 clear he h1 ho
 refine ⟨fun a1 a2 a3 a4 x g' nm' l v=>(a1 = [] /\ a2 = [] /\ a3 = [] /\ a4 = [] /\ g' = g /\ nm' = nm /\ v = []) /\ pProp s = tailS g nm l x /\ l.length + x.length <= s.length,fun _ _ _ _ x _ _ _ _=>x.length,⟨⟨rfl,rfl,rfl,rfl,rfl,rfl,rfl⟩,h2,by simp; omega⟩,?_⟩
 rintro a1 a2 a3 a4 x g' nm' l v ⟨⟨rfl,rfl,rfl,rfl,rfl,rfl,rfl⟩,hp,hl⟩
 refine ⟨fun h3=>?_,fun h3=>?_⟩
 . obtain ⟨t,h3⟩:=Option.isSome_iff_exists.1 h3
   have ht:=hdIs_len h3
   have hg:=gP_len t
   rw [h3]
   simp only [Option.getD_some]
   refine ⟨by omega,fun he=>⟨fun _=>bad (by rw [hp,tail_err h3 he]),fun h=>absurd (okE_is (gP_ok t) he) h⟩,fun he=>?_⟩
   have he:=Classical.not_not.1 he
   refine ⟨by simp; omega,⟨⟨by first | rfl | trivial,by first | rfl | trivial,by first | rfl | trivial,by first | rfl | trivial,by first | rfl | trivial,by first | rfl | trivial,by first | rfl | trivial⟩,by rw [hp,tail_on h3 he],by simp; omega⟩,by omega⟩
 have h3 : hdIs 59 x = none:=by simpa using h3
 rw [h3]
 simp only [Option.getD_none]
 refine ⟨fun h4=>?_,fun h4=>?_⟩
 . have h4 : hdIs 58 x = none:=by simpa using h4
   exact ⟨fun _=>bad (by rw [hp,tail_no h3 h4]),fun h=>absurd rfl h⟩
 obtain ⟨v,h4⟩:=Option.isSome_iff_exists.1 (Classical.not_not.1 h4)
 have hv:=hdIs_len h4
 have hpe:=tail_end (g:=g') (n:=nm') (l:=l) h3 h4
 rw [h4]
 simp only [Option.getD_some]
 refine ⟨fun i=>0 <= i /\ i <= v.length /\ ∀ j : Int,0 <= j -> j < i -> standsB (ix v j) = true,fun i=>((v.length : Int) - i).toNat,⟨by omega,by omega,fun j _ _=>by omega⟩,?_⟩
 rintro i ⟨i0,i1,hi⟩
 refine ⟨fun _=>i0,fun h=>h,fun ⟨h,hc⟩=>⟨⟨by omega,by omega⟩,⟨by omega,by omega,fun j j0 j1=>?_⟩,by first | omega | (dsimp only; omega)⟩,fun he=>?_⟩
 . by_cases e : j = i
   . subst e; exact hc
   . exact hi j j0 (by omega)
 . obtain ⟨e1,e2⟩:=while_take i0 i1 hi he
   have l1 : (v.take i.toNat).length <= v.length:=by rw [List.length_take]; omega
   rw [e1] at l1
   rw [e1,e2]
   skip
   refine ⟨i0,i1,i0,i1,fun hn=>⟨fun _=>bad ?_,fun h=>absurd rfl h⟩,fun hn=>⟨fun h=>?_,fun _=>?_⟩⟩
   . rw [hp,hpe,if_neg (fun h=>hn (while_nil.2 h))]
   . simp [Err.is,Err.num] at h
   . have hn:=Classical.not_not.1 hn
     have ha:=while_nil.1 hn
     rw [while_all hn]
     rw [if_pos ha] at hpe
     rw [hpe] at hp
     unfold parseS
     rw [hp]
     refine ⟨by omega,fun h=>?_,fun h=>?_⟩
     . simp only [finS,if_pos h]; exact ⟨by first | rfl | trivial,by first | rfl | trivial⟩
     . simp only [finS,if_neg h]; exact ⟨by first | rfl | trivial,by first | rfl | trivial⟩
theorem Y28_eq {s : Str} : W28 s (fun y0 y1=>y0 = (parseS s).1 /\ y1 = (parseS s).2) = HZ NI47 (inlMN NI47 M103 an28 4) (an28 25) Tryz.f25 [.str s] 2 [.val 58,.err] ((parseS s).1,(parseS s).2,()):=by kernel_rfl
theorem Y28_ok (s : Str) (hs : s.length <= 100000000) : HZ NI47 (inlMN NI47 M103 an28 4) (an28 25) Tryz.f25 [.str s] 2 [.val 58,.err] ((parseS s).1,(parseS s).2,()):=by
 rw [<- Y28_eq]
 exact V28_ok (p28 s hs)
def c28r (s : Str) : CR U:=⟨[List.length (α:=UInt8) s <= 100000000],[],.tup [.agg [.str ((parseS s).1).Group,.str ((parseS s).1).Name,.sl 110 ((parseS s).1).Params,.str ((parseS s).1).Value],.err ((parseS s).2)],[]⟩
theorem c28r_eq (s : Str) : (⟨[List.length (α:=UInt8) s <= 100000000],[],tellA 2 (tell NI47 [.val 58,.err] ((parseS s).1,(parseS s).2,())),[]⟩ : CR NI47.N) = c28r s:=by kernel_rfl
theorem c28r_ok (s : Str) (hs : s.length <= 100000000) (nx : Nat) (hp : ([.str s] : List (SV U)).all pureS = true) : ConOK NI47.P NI47.N NI47.T NI47.G 25 [.str s] nx (c28r s):=by
 rw [<- c28r_eq]
 exact conH NI47_ok (inlMN_ok NI47_ok M103_ok an28 4) Tryz.func25 rfl hp (Y28_ok s hs)
def c28 (a : List (SV U)) (nx : Nat) : Option (CR U):=match a with | [.str s]=>some (c28r s) | _=>none
theorem c28_ok (args : List (SV U)) (nx : Nat) (c : CR U) (h : c28 args nx = some c) (hp : args.all pureS = true) (ho : allP c.ob) : ConOK NI47.P NI47.N NI47.T NI47.G 25 args nx c:=by
 unfold c28 at h
 split at h
 . rename_i s
   cases h
   exact c28r_ok s ho.1 nx hp
 . cases h
noncomputable def N28 : Env:=NI47.addC 25 c28
theorem N28_ok : EnvOK N28:=NI47_ok.addC Tryz.call25 c28_ok
end Go.Proofs.YtadgfmmmdhlljaaGreatDoor
end
section
namespace Go.Li
open Go Go.Wk Go.Wl Go.Rx Go.Fo
def parseR (s : Str) : Prp × Int:=match pProp s with
 | none=>(prp0,11)
 | some p=>if manyB p = true then (prp0,5) else (p,0)
instance (s : Str) : Decidable (isName s):=by unfold isName; infer_instance
def rightXB (x : Param) : Bool:=decide (isName x.Name) && decide (x.Values ≠ []) && x.Values.all fun v=>v.all saysB
def rightB (p : Prp) : Bool:=decide (isName p.Name) && (decide (p.Group = []) || decide (isName p.Group)) && !manyB p && p.Value.all standsB && p.Params.all rightXB
theorem rightXB_iff {x : Param} : rightXB x = true ↔ rightX x:=by
 unfold rightXB rightX
 simp only [Bool.and_eq_true,decide_eq_true_eq,List.all_eq_true]
 exact ⟨fun ⟨⟨a,b⟩,c⟩=>⟨a,b,c⟩,fun ⟨a,b,c⟩=>⟨⟨a,b⟩,c⟩⟩
theorem rightB_iff {p : Prp} : rightB p = true ↔ right0 p /\ manyB p = false:=by
 unfold rightB right0
 simp only [Bool.and_eq_true,Bool.or_eq_true,decide_eq_true_eq,Bool.not_eq_true']
 have e : p.Params.all rightXB = true ↔ ∀ x ∈ p.Params,rightX x:=by
  rw [List.all_eq_true]
  exact ⟨fun h x hx=>rightXB_iff.1 (h x hx),fun h x hx=>rightXB_iff.2 (h x hx)⟩
 rw [e]
 constructor
 . rintro ⟨⟨⟨⟨a,b⟩,c⟩,d⟩,e⟩
   exact ⟨⟨a,fun h=>b.resolve_left h,d,e⟩,c⟩
 . rintro ⟨⟨a,b,d,e⟩,c⟩
   refine ⟨⟨⟨⟨a,?_⟩,c⟩,d⟩,e⟩
   by_cases h : p.Group = []
   . exact .inl h
   . exact .inr (b h)
def printS (p : Prp) : Str × Err:=if rightB p = true then (tell p,.nil) else ([],.no 2)
def printR (p : Prp) : Str × Int:=if rightB p = true then (tell p,0) else ([],2)
structure smallX (x : Param) : Prop where
 name : x.Name.length <= 5000
 vals : x.Values.length <= 5000
 val : ∀ v ∈ x.Values.take 31,v.length <= 5000
structure smallP (p : Prp) : Prop where
 name : p.Name.length <= 100000
 group : p.Group.length <= 5000
 value : p.Value.length <= 5000
 params : p.Params.length <= 5000
 param : ∀ x ∈ p.Params,smallX x
theorem small_val {p : Prp} (h : smallP p) (hm : manyB p = false) {x : Param} (hx : x ∈ p.Params) : x.Values.length <= 20 /\ ∀ v ∈ x.Values,v.length <= 5000:=by
 have h1 : x.Values.length <= 20:=by
  unfold manyB at hm
  simp only [Bool.or_eq_false_iff,List.any_eq_false,decide_eq_true_eq] at hm
  have:=hm.1.2 x hx
  omega
 refine ⟨h1,fun v hv=>(h.param x hx).val v ?_⟩
 rw [List.take_of_length_le (by omega)]; exact hv
theorem small_params {p : Prp} (hm : manyB p = false) : p.Params.length <= 20:=by
 unfold manyB at hm
 simp only [Bool.or_eq_false_iff,decide_eq_false_iff_not] at hm
 omega
theorem esc_len2 : ∀ s : Str,(esc s).length <= 2 * s.length
 | []=>Nat.le_refl _
 | c :: s=>by
  have ih:=esc_len2 s
  have e : esc (c :: s) = escB c ++ esc s:=by simp [esc]
  have : (escB c).length <= 2:=by unfold escB; split <;> (try split) <;> (try split) <;> simp
  rw [e,List.length_append,List.length_cons]; omega
theorem told_len (v : Str) : (told v).length <= 2 * v.length + 2:=by
 have:=esc_len2 v
 unfold told
 split
 . simp only [List.length_cons,List.length_append,List.length_nil]; omega
 . omega
theorem joinV_len {k : Nat} : ∀ {l : List Str},(∀ v ∈ l,v.length <= k) -> (joinV l).length <= l.length * (2 * k + 3)
 | [],_=>Nat.zero_le _
 | [v],h=>by
  have:=told_len v
  have:=h v (by simp)
  simp only [joinV,List.length_cons,List.length_nil]; omega
 | v :: w :: l,h=>by
  have ih:=joinV_len (k:=k) (l:=w :: l) fun x hx=>h x (by simp [hx])
  have:=told_len v
  have:=h v (by simp)
  simp only [joinV,List.length_append,List.length_cons] at ih ⊢
  have e : (l.length + 1 + 1) * (2 * k + 3) = (l.length + 1) * (2 * k + 3) + (2 * k + 3):=Nat.succ_mul _ _
  rw [e]; omega
theorem tellP_len {p : Prp} (h : smallP p) (hm : manyB p = false) {x : Param} (hx : x ∈ p.Params) : (joinV x.Values).length <= 200060 /\ (tellP x).length <= 210000:=by
 obtain ⟨h1,h2⟩:=small_val h hm hx
 have h3:=joinV_len h2
 have h4 : x.Values.length * (2 * 5000 + 3) <= 20 * (2 * 5000 + 3):=Nat.mul_le_mul_right _ h1
 have h5:=(h.param x hx).name
 unfold tellP
 simp only [List.length_cons,List.length_append]
 omega
theorem flat_len {α : Type} {f : α -> Str} {k : Nat} : ∀ {l : List α},(∀ x ∈ l,(f x).length <= k) -> (l.flatMap f).length <= l.length * k
 | [],_=>Nat.zero_le _
 | x :: l,h=>by
  have ih:=flat_len (f:=f) (k:=k) (l:=l) fun y hy=>h y (by simp [hy])
  have:=h x (by simp)
  rw [List.flatMap_cons,List.length_append,List.length_cons,Nat.succ_mul]
  omega
end Go.Li
end
section
namespace Go.Li
open Go Go.Wk Go.Wl Go.Rx Go.Fo
theorem parse_tell {p : Prp} (h : rightB p = true) : parseS (tell p) = (p,.nil):=by
 obtain ⟨h1,h2⟩:=rightB_iff.1 h
 unfold parseS
 rw [tell_read h1]
 unfold finS
 simp only [h2]
 rfl
theorem parse_right {s : Str} (h : (parseS s).2 = .nil) : rightB (parseS s).1 = true /\ pProp s = some (parseS s).1:=by
 unfold parseS finS at *
 cases hp : pProp s with
 | none=>rw [hp] at h; cases h
 | some p =>
  rw [hp] at h
  simp only at h ⊢
  by_cases hm : manyB p = true
  . rw [if_pos hm] at h; cases h
  . rw [if_neg hm] at h ⊢
    exact ⟨rightB_iff.2 ⟨read_right hp,by simpa using hm⟩,rfl⟩
theorem parse_err {s : Str} (h : (parseS s).2 ≠ .nil) : (parseS s).1 = prp0 /\ (∃ n,(parseS s).2 = .no n /\ (n = 11 ∨ n = 5) /\ (parseR s) = (prp0,n)):=by
 unfold parseS parseR finS at *
 cases hp : pProp s with
 | none=>exact ⟨rfl,11,rfl,.inl rfl,rfl⟩
 | some p =>
  rw [hp] at h
  simp only at h ⊢
  by_cases hm : manyB p = true
  . rw [if_pos hm]; exact ⟨rfl,5,rfl,.inr rfl,by rw [if_pos hm]⟩
  . rw [if_neg hm] at h; exact absurd rfl h
def says (l : List Str) : Prp:=⟨[],[65],[⟨[88],l⟩],[118]⟩
theorem said_len2 : ∀ (n : Nat) (s : Str),s.length <= n -> (said s).length <= s.length:=by
 intro n
 induction n with
 | zero=>intro s h; obtain rfl:=List.eq_nil_of_length_eq_zero (Nat.le_zero.1 h); exact Nat.le_refl _
 | succ n ih =>
  intro s hs
  match s,hs with
  | [],_=>exact Nat.le_refl _
  | [c],_=>exact Nat.le_refl _
  | c :: d :: r,hs =>
   simp only [List.length_cons] at hs
   have i1:=ih r (by omega)
   have i2:=ih (d :: r) (by simp only [List.length_cons]; omega)
   simp only [List.length_cons] at i2
   rw [said]
   split
   . simp only [List.length_cons]; omega
   . split
     . simp only [List.length_cons]; omega
     . split <;> (simp only [List.length_cons]; omega)
theorem while_le (p : UInt8 -> Bool) (s : Str) : (s.takeWhile p).length <= s.length:=(List.takeWhile_sublist p).length_le
theorem pName_size {s n r : Str} (h : pName s = some (n,r)) : n.length <= s.length:=by
 unfold pName at h
 split at h
 . cases h
 . cases h; unfold upper; rw [List.length_map]; exact while_le _ _
theorem pValue_size {s v r : Str} (h : pValue s = some (v,r)) : v.length <= s.length:=by
 unfold pValue at h
 split at h
 . rename_i t ht
   split at h
   . cases h
     have:=hdIs_len ht
     have:=said_len2 _ (t.takeWhile inB) (Nat.le_refl _)
     have:=while_le inB t
     omega
   . cases h
 . cases h
   have:=said_len2 _ (s.takeWhile plainB) (Nat.le_refl _)
   have:=while_le plainB s
   omega
theorem pVals_size : ∀ (n : Nat) (s : Str),s.length <= n -> ∀ l r,pVals s = some (l,r) -> l.length <= s.length + 1 /\ ∀ v ∈ l,v.length <= s.length:=by
 intro n
 induction n with
 | zero =>
  intro s hs l r h
  rw [pVals_eq] at h
  split at h
  . cases h
  . rename_i v t ht
    have h1:=pValue_len ht
    have h0:=pValue_size ht
    split at h
    . cases h; exact ⟨by simp,fun x hx=>by rw [List.mem_singleton.1 hx]; exact h0⟩
    . rename_i u hu
      have:=hdIs_len hu
      omega
 | succ n ih =>
  intro s hs l r h
  rw [pVals_eq] at h
  split at h
  . cases h
  . rename_i v t ht
    have h1:=pValue_len ht
    have h0:=pValue_size ht
    split at h
    . cases h; exact ⟨by simp,fun x hx=>by rw [List.mem_singleton.1 hx]; exact h0⟩
    . rename_i u hu
      have:=hdIs_len hu
      split at h
      . cases h
      . rename_i l' r' h'
        cases h
        obtain ⟨i1,i2⟩:=ih u (by omega) _ _ h'
        refine ⟨by simp only [List.length_cons]; omega,fun x hx=>?_⟩
        rcases List.mem_cons.1 hx with rfl | hx
        . exact h0
        . have:=i2 x hx; omega
theorem pParam_size {s r : Str} {x : Param} (h : pParam s = some (x,r)) : x.Name.length <= s.length /\ x.Values.length <= s.length /\ ∀ v ∈ x.Values,v.length <= s.length:=by
 unfold pParam at h
 split at h
 . cases h
 . rename_i n t ht
   split at h
   . cases h
   . rename_i u hu
     split at h
     . cases h
     . rename_i l' r' h'
       cases h
       obtain ⟨h1,h2⟩:=pVals_size _ _ (Nat.le_refl _) _ _ h'
       have a:=pName_size ht
       have b:=pName_len ht
       have c:=hdIs_len hu
       exact ⟨a,by dsimp only; omega,fun v hv=>by have:=h2 v hv; omega⟩
theorem pParams_size : ∀ (n : Nat) (s : Str),s.length <= n -> ∀ l r,pParams s = some (l,r) -> (l.length <= s.length /\ r.length <= s.length) /\ ∀ x ∈ l,x.Name.length <= s.length /\ x.Values.length <= s.length /\ ∀ v ∈ x.Values,v.length <= s.length:=by
 intro n
 induction n with
 | zero =>
  intro s hs l r h
  rw [pParams_eq] at h
  split at h
  . cases h; exact ⟨⟨Nat.zero_le _,Nat.le_refl _⟩,fun x hx=>by cases hx⟩
  . rename_i t ht
    have:=hdIs_len ht
    omega
 | succ n ih =>
  intro s hs l r h
  rw [pParams_eq] at h
  split at h
  . cases h; exact ⟨⟨Nat.zero_le _,Nat.le_refl _⟩,fun x hx=>by cases hx⟩
  . rename_i t ht
    have h1:=hdIs_len ht
    split at h
    . cases h
    . rename_i x t' hp
      have h2:=pParam_len hp
      split at h
      . cases h
      . rename_i l' r' h'
        cases h
        obtain ⟨⟨i1,i3⟩,i2⟩:=ih _ (by omega) _ _ h'
        refine ⟨⟨by simp only [List.length_cons]; omega,by omega⟩,fun y hy=>?_⟩
        rcases List.mem_cons.1 hy with rfl | hy
        . obtain ⟨a,b,c⟩:=pParam_size hp
          exact ⟨by omega,by omega,fun v hv=>by have:=c v hv; omega⟩
        . obtain ⟨a,b,c⟩:=i2 y hy
          exact ⟨by omega,by omega,fun v hv=>by have:=c v hv; omega⟩
theorem head_size {s g n r : Str} (h : pHead s = some (g,n,r)) : g.length <= s.length /\ n.length <= s.length /\ r.length <= s.length:=by
 unfold pHead at h
 split at h
 . cases h
 . rename_i m u hm
   have a:=pName_size hm
   have b:=pName_len hm
   split at h
   . cases h; exact ⟨Nat.zero_le _,a,b⟩
   . rename_i t ht
     have c:=hdIs_len ht
     split at h
     . cases h
     . rename_i m2 u2 hm2
       cases h
       have d:=pName_size hm2
       have e:=pName_len hm2
       exact ⟨a,by omega,by omega⟩
theorem small_read {s : Str} {p : Prp} (hs : s.length <= 5000) (h : pProp s = some p) : smallP p:=by
 unfold pProp at h
 split at h
 . cases h
 . rename_i g n r hh
   obtain ⟨a,b,c⟩:=head_size hh
   split at h
   . cases h
   . rename_i l t hl
     obtain ⟨⟨d,g1⟩,e⟩:=pParams_size _ _ (Nat.le_refl _) _ _ hl
     split at h
     . cases h
     . rename_i v hv
       have f:=hdIs_len hv
       split at h
       . cases h
         refine ⟨by dsimp only; omega,by dsimp only; omega,by dsimp only; omega,by dsimp only; omega,fun x hx=>?_⟩
         obtain ⟨i,j,k⟩:=e x hx
         exact ⟨by omega,by omega,fun v hv=>by have:=k v (List.mem_of_mem_take hv); omega⟩
       . cases h
theorem small0 : smallP prp0:=⟨Nat.zero_le _,Nat.zero_le _,Nat.zero_le _,Nat.zero_le _,fun x hx=>by cases hx⟩
theorem parse_small {s : Str} (hs : s.length <= 5000) : smallP (parseS s).1:=by
 by_cases h : (parseS s).2 = .nil
 . exact small_read hs (parse_right h).2
 . rw [(parse_err h).1]; exact small0
end Go.Li
end
section
namespace Go.Proofs.YtadgfmmmdhlljaaGreatDoor
open Go Go.Wk Go.Wl Go.Rx Go.Fo Go.Li Go.Co 
def an34 : Nat -> Ann:=fun | 58=>⟨53,fun | 4=>some ⟨[31,32],[.slot 33 (.int .i64)]⟩ | _=>none,fun  | _=>none⟩ | 81=>⟨9,fun _=>none,fun  | _=>none⟩ | 96=>⟨19,fun | 2=>some ⟨[0,1,7],[.slot 8 (.int .i64)]⟩ | _=>none,fun  | _=>none⟩ | 82=>⟨6,fun _=>none,fun  | _=>none⟩ | _=>⟨0,fun _=>none,fun _=>none⟩
def V34 (p : Prp) (Q : Bool -> Prop) : Prop :=
List.length p.Name <= 9223372036854775807 /\ (¬¬nameB p.Name = true /\ p.Group ≠ [] -> List.length p.Group <= 9223372036854775807) /\ (¬(¬nameB p.Name = true ∨ p.Group ≠ [] /\ ¬nameB p.Group = true) -> p.Params.length <= 1000000000) /\ (¬((¬nameB p.Name = true ∨ p.Group ≠ [] /\ ¬nameB p.Group = true) ∨ manyB (Prp.mk p.Group p.Name p.Params p.Value) = true) -> List.length p.Value <= 9223372036854775807) /\ (((¬nameB p.Name = true ∨ p.Group ≠ [] /\ ¬nameB p.Group = true) ∨ manyB (Prp.mk p.Group p.Name p.Params p.Value) = true) ∨ ¬standAll false p.Value = true -> Q false) /\ (¬(((¬nameB p.Name = true ∨ p.Group ≠ [] /\ ¬nameB p.Group = true) ∨ manyB (Prp.mk p.Group p.Name p.Params p.Value) = true) ∨ ¬standAll false p.Value = true) -> ∃ (I : Int -> Prop),∃ (m : Int -> Nat),I (0 : Int) /\ ∀ (x : Int),I x -> (x < (↑p.Params.length : Int) -> (0 : Int) <= x /\ x < (↑p.Params.length : Int) /\ List.length (ix p.Params x).Name <= 9223372036854775807 /\ (¬nameB (ix p.Params x).Name = true ∨ (↑(ix p.Params x).Values.length : Int) = 0 -> Q false) /\ (¬(¬nameB (ix p.Params x).Name = true ∨ (↑(ix p.Params x).Values.length : Int) = 0) -> ∃ (I_1 : Int -> Prop),∃ (m_1 : Int -> Nat),I_1 (0 : Int) /\ ∀ (x_1 : Int),I_1 x_1 -> (x_1 < (↑(ix p.Params x).Values.length : Int) -> (0 : Int) <= x_1 /\ x_1 < (↑(ix p.Params x).Values.length : Int) /\ (ix (ix p.Params x).Values x_1).length <= 9223372036854775807 /\ (¬standAll true (ix (ix p.Params x).Values x_1) = true -> ((0 : Int) <= x_1 -> Q false) /\ (¬(0 : Int) <= x_1 -> in64 (x + 1) /\ I (x + 1) /\ m (x + 1) < m x)) /\ (¬¬standAll true (ix (ix p.Params x).Values x_1) = true -> in64 (x_1 + 1) /\ I_1 (x_1 + 1) /\ m_1 (x_1 + 1) < m_1 x_1)) /\ (¬x_1 < (↑(ix p.Params x).Values.length : Int) -> ((0 : Int) <= (-1 : Int) -> Q false) /\ (¬(0 : Int) <= (-1 : Int) -> in64 (x + 1) /\ I (x + 1) /\ m (x + 1) < m x)))) /\ (¬x < (↑p.Params.length : Int) -> Q true))
theorem V34_ok {p : Prp} {Q : Bool -> Prop} (h : V34 p Q) : vcFun (E:=N28) (inlMN N28 M103 an34 4) (an34 58) Tryz.f58 [.agg [.str p.Group,.str p.Name,.sl (N:=U) 110 p.Params,.str p.Value]] [] [] 0 (resP N28 [.bool] Q):=Eq.mp (show V34 p Q = vcFun (E:=N28) (inlMN N28 M103 an34 4) (an34 58) Tryz.f58 [.agg [.str p.Group,.str p.Name,.sl (N:=U) 110 p.Params,.str p.Value]] [] [] 0 (resP N28 [.bool] Q) by kernel_rfl) h
theorem name_iff (s : Str) : nameB s = true ↔ isName s:=decide_eq_true_iff
theorem stand_f (s : Str) : standAll false s = s.all standsB:=by unfold standAll; simp
theorem stand_t (s : Str) : standAll true s = s.all saysB:=by unfold standAll saysB; simp
theorem right_no {p : Prp} (h : ¬ (right0 p /\ manyB p = false)) : false = rightB p:=by
 cases e : rightB p
 . rfl
 . exact absurd (rightB_iff.1 e) h
theorem right_yes {p : Prp} (h : right0 p /\ manyB p = false) : true = rightB p:=(rightB_iff.2 h).symm
theorem p34 (p : Prp) (h : smallP p) : V34 p (fun y0=>y0 = rightB p):=by
 unfold V34
 refine ⟨by have:=h.name; omega,fun _=>by have:=h.group; omega,fun _=>by have:=h.params; omega,fun _=>by have:=h.value; omega,fun hb=>right_no fun ⟨⟨a,b,c,_⟩,d⟩=>?_,fun hg=>?_⟩
 . rcases hb with ((hb | ⟨hb,hb2⟩) | hb) | hb
   . exact hb ((name_iff _).2 a)
   . exact hb2 ((name_iff _).2 (b hb))
   . have hb : manyB p = true:=hb
     rw [d] at hb; cases hb
   . rw [stand_f] at hb; exact hb c
 have hN : isName p.Name:=(name_iff _).1 (Classical.byContradiction fun n=>hg (.inl (.inl (.inl n))))
 have hG : p.Group ≠ [] -> isName p.Group:=fun e=>(name_iff _).1 (Classical.byContradiction fun n=>hg (.inl (.inl (.inr ⟨e,n⟩))))
 have hM : manyB p = false:=by
  cases e : manyB p
  . rfl
  . exact absurd (.inl (.inr e)) hg
 have hV : p.Value.all standsB = true:=by rw [<- stand_f]; exact Classical.byContradiction fun n=>hg (.inr n)
 clear hg
 refine ⟨fun i=>0 <= i /\ i <= p.Params.length /\ ∀ j : Int,0 <= j -> j < i -> rightX (ix p.Params j),fun i=>((p.Params.length : Int) - i).toNat,⟨by omega,by omega,fun j _ _=>by omega⟩,?_⟩
 rintro i ⟨i0,i1,hx⟩
 have hp:=h.params
 refine ⟨fun hi=>?_,fun hi=>right_yes ⟨⟨hN,hG,hV,fun x hm=>?_⟩,hM⟩⟩
 . have hm:=mem_of_ix i0 hi
   have sx:=h.param _ hm
   obtain ⟨v1,v2⟩:=small_val h hM hm
   generalize hxe : ix p.Params i = x at *
   have bad : ¬ rightX x -> false = rightB p:=fun hn=>right_no fun ⟨⟨_,_,_,d⟩,_⟩=>hn (d x hm)
   refine ⟨i0,hi,by have:=sx.name; omega,fun hb=>bad fun ⟨a,b,_⟩=>?_,fun hg=>?_⟩
   . rcases hb with hb | hb
     . exact hb ((name_iff _).2 a)
     . exact b (List.length_eq_zero_iff.1 (by omega))
   have hxN : isName x.Name:=(name_iff _).1 (Classical.byContradiction fun n=>hg (.inl n))
   have hxV : x.Values ≠ []:=fun e=>hg (.inr (by rw [e]; rfl))
   refine ⟨fun k=>0 <= k /\ k <= x.Values.length /\ ∀ j : Int,0 <= j -> j < k -> (ix x.Values j).all saysB = true,fun k=>((x.Values.length : Int) - k).toNat,⟨by omega,by omega,fun j _ _=>by omega⟩,?_⟩
   rintro k ⟨k0,k1,hk⟩
   refine ⟨fun hkl=>⟨k0,hkl,by have:=v2 _ (mem_of_ix k0 hkl); omega,fun hs=>⟨fun _=>bad fun ⟨_,_,c⟩=>?_,fun n=>absurd k0 n⟩,fun hs=>⟨⟨by omega,by omega⟩,⟨by omega,by omega,fun j j0 j1=>?_⟩,by first | omega | (dsimp only; omega)⟩⟩,fun hkl=>⟨fun n=>by omega,fun _=>⟨⟨by omega,by omega⟩,⟨by omega,by omega,fun j j0 j1=>?_⟩,by first | omega | (dsimp only; omega)⟩⟩⟩
   . rw [stand_t] at hs
     exact hs (c _ (mem_of_ix k0 hkl))
   . rw [stand_t] at hs
     by_cases e : j = k
     . subst e; exact Classical.not_not.1 hs
     . exact hk j j0 (by omega)
   . by_cases e : j = i
     . subst e
       rw [hxe]
       refine ⟨hxN,hxV,fun v hv=>?_⟩
       obtain ⟨n,hn,rfl⟩:=List.getElem_of_mem hv
       have:=hk n (by omega) (by omega)
       rw [ix_get (by simpa using hn)] at this
       simpa using this
     . exact hx j j0 (by omega)
 . obtain ⟨n,hn,rfl⟩:=List.getElem_of_mem hm
   have:=hx n (by omega) (by omega)
   rw [ix_get (by simpa using hn)] at this
   simpa using this
def c34s (p : Prp) : Q1 U:=⟨[smallP p],[],blB (rightB p)⟩
def c34 (a : List (SV U)) : Option (Q1 U):=match a with | [.agg [.str p0,.str p1,.sl 110 p2,.str p3]]=>some (c34s (⟨p0,p1,p2,p3⟩)) | _=>none
theorem c34_ok (args : List (SV U)) (q : Q1 U) (h : c34 args = some q) (ho : allP q.ob) : LendOK N28 58 args ⟨q.ob,q.hy,q.v,[]⟩:=by
 unfold c34 at h
 split at h
 . rename_i p0 p1 p2 p3
   cases h
   exact lend1 N28_ok (inlMN_ok N28_ok M103_ok an34 4) Tryz.func58 (k:=.bool) trivial (V34_ok (p34 (⟨p0,p1,p2,p3⟩) ho.1)) 0
 . cases h
noncomputable def N34 : Env:=N28.addL 58 c34
theorem N34_ok : EnvOK N34:=N28_ok.addL Tryz.call58 c34_ok
def an35 : Nat -> Ann:=fun | 75=>⟨98,fun | 9=>some ⟨[1],[.slot 4 (.int .i64)]⟩ | 15=>some ⟨[1,4,5],[.slot 6 (.int .i64)]⟩ | 18=>some ⟨[1,4,5,6],[.slot 7 (.int .i64)]⟩ | 4=>some ⟨[1],[.slot 3 (.int .i64)]⟩ | _=>none,fun  | _=>none⟩ | _=>⟨0,fun _=>none,fun _=>none⟩
def V35 (p : Prp) (Q : Bool -> Prop) : Prop :=
List.length p.Name <= 100000000 /\ (¬¬nameB p.Name = true /\ p.Group ≠ [] -> List.length p.Group <= 100000000) /\ (¬(¬nameB p.Name = true ∨ p.Group ≠ [] /\ ¬nameB p.Group = true) -> p.Params.length <= 1000000000) /\ ((¬nameB p.Name = true ∨ p.Group ≠ [] /\ ¬nameB p.Group = true) ∨ manyB (Prp.mk p.Group p.Name p.Params p.Value) = true -> Q false) /\ (¬((¬nameB p.Name = true ∨ p.Group ≠ [] /\ ¬nameB p.Group = true) ∨ manyB (Prp.mk p.Group p.Name p.Params p.Value) = true) -> ∃ (I : Int -> Prop),∃ (m : Int -> Nat),I (0 : Int) /\ ∀ (x : Int),I x -> (x < (↑(List.length p.Value) : Int) -> (0 : Int) <= x /\ x < (↑(List.length p.Value) : Int) /\ (¬standsB (ix p.Value x) = true -> Q false) /\ (¬¬standsB (ix p.Value x) = true -> in64 (x + 1) /\ I (x + 1) /\ m (x + 1) < m x)) /\ (¬x < (↑(List.length p.Value) : Int) -> ∃ (I : Int -> Prop),∃ (m : Int -> Nat),I (0 : Int) /\ ∀ (x : Int),I x -> (x < (↑p.Params.length : Int) -> (0 : Int) <= x /\ x < (↑p.Params.length : Int) /\ List.length (ix p.Params x).Name <= 100000000 /\ (¬nameB (ix p.Params x).Name = true ∨ (↑(ix p.Params x).Values.length : Int) = 0 -> Q false) /\ (¬(¬nameB (ix p.Params x).Name = true ∨ (↑(ix p.Params x).Values.length : Int) = 0) -> ∃ (I_1 : Int -> Prop),∃ (m_1 : Int -> Nat),I_1 (0 : Int) /\ ∀ (x_1 : Int),I_1 x_1 -> (x_1 < (↑(ix p.Params x).Values.length : Int) -> ∃ (I : Int -> Prop),∃ (m : Int -> Nat),I (0 : Int) /\ ∀ (x_2 : Int),I x_2 -> (0 : Int) <= x_1 /\ x_1 < (↑(ix p.Params x).Values.length : Int) /\ (x_2 < (↑(ix (ix p.Params x).Values x_1).length : Int) -> (0 : Int) <= x_1 /\ x_1 < (↑(ix p.Params x).Values.length : Int) /\ (0 : Int) <= x_2 /\ x_2 < (↑(ix (ix p.Params x).Values x_1).length : Int) /\ (¬standsB (ix (ix (ix p.Params x).Values x_1) x_2) = true -> (0 : Int) <= x_1) /\ (¬standsB (ix (ix (ix p.Params x).Values x_1) x_2) = true -> x_1 < (↑(ix p.Params x).Values.length : Int)) /\ (¬standsB (ix (ix (ix p.Params x).Values x_1) x_2) = true -> (0 : Int) <= x_2) /\ (¬standsB (ix (ix (ix p.Params x).Values x_1) x_2) = true -> x_2 < (↑(ix (ix p.Params x).Values x_1).length : Int)) /\ (¬standsB (ix (ix (ix p.Params x).Values x_1) x_2) = true /\ ix (ix (ix p.Params x).Values x_1) x_2 ≠ 10 -> Q false) /\ (¬(¬standsB (ix (ix (ix p.Params x).Values x_1) x_2) = true /\ ix (ix (ix p.Params x).Values x_1) x_2 ≠ 10) -> in64 (x_2 + 1) /\ I (x_2 + 1) /\ m (x_2 + 1) < m x_2)) /\ (¬x_2 < (↑(ix (ix p.Params x).Values x_1).length : Int) -> in64 (x_1 + 1) /\ I_1 (x_1 + 1) /\ m_1 (x_1 + 1) < m_1 x_1)) /\ (¬x_1 < (↑(ix p.Params x).Values.length : Int) -> in64 (x + 1) /\ I (x + 1) /\ m (x + 1) < m x))) /\ (¬x < (↑p.Params.length : Int) -> Q true)))
theorem V35_ok {p : Prp} {Q : Bool -> Prop} (h : V35 p Q) : vcFun (E:=N34) (inlMN N34 M103 an35 2) (an35 75) Tryz.f75 [.agg [.str p.Group,.str p.Name,.sl (N:=U) 110 p.Params,.str p.Value]] [] [] 0 (resP N34 [.bool] Q):=Eq.mp (show V35 p Q = vcFun (E:=N34) (inlMN N34 M103 an35 2) (an35 75) Tryz.f75 [.agg [.str p.Group,.str p.Name,.sl (N:=U) 110 p.Params,.str p.Value]] [] [] 0 (resP N34 [.bool] Q) by kernel_rfl) h
theorem says_iff (c : UInt8) : saysB c = true ↔ ¬ (¬ standsB c = true /\ c ≠ 10):=by
 unfold saysB
 rw [Bool.or_eq_true,beq_iff_eq]
 constructor
 . rintro (h | h) ⟨a,b⟩
   . exact a h
   . exact b h
 . intro h
   by_cases a : standsB c = true
   . exact .inl a
   . exact .inr (Classical.byContradiction fun b=>h ⟨a,b⟩)
theorem p35 (p : Prp) (h : smallP p) : V35 p (fun y0=>y0 = rightB p):=by
 unfold V35
 refine ⟨by have:=h.name; omega,fun _=>by have:=h.group; omega,fun _=>by have:=h.params; omega,fun hb=>right_no fun ⟨⟨a,b,c,_⟩,d⟩=>?_,fun hg=>?_⟩
 . rcases hb with (hb | ⟨hb,hb2⟩) | hb
   . exact hb ((name_iff _).2 a)
   . exact hb2 ((name_iff _).2 (b hb))
   . have hb : manyB p = true:=hb
     rw [d] at hb; cases hb
 have hN : isName p.Name:=(name_iff _).1 (Classical.byContradiction fun n=>hg (.inl (.inl n)))
 have hG : p.Group ≠ [] -> isName p.Group:=fun e=>(name_iff _).1 (Classical.byContradiction fun n=>hg (.inl (.inr ⟨e,n⟩)))
 have hM : manyB p = false:=by
  cases e : manyB p
  . rfl
  . exact absurd (.inr e) hg
 clear hg
 have hv:=h.value
 refine ⟨fun k=>0 <= k /\ k <= p.Value.length /\ ∀ j : Int,0 <= j -> j < k -> standsB (ix p.Value j) = true,fun k=>((p.Value.length : Int) - k).toNat,⟨by omega,by omega,fun j _ _=>by omega⟩,?_⟩
 rintro k ⟨k0,k1,hk⟩
 refine ⟨fun hi=>⟨k0,hi,fun hs=>right_no fun ⟨⟨_,_,c,_⟩,_⟩=>not_all k0 hi hs c,fun hs=>⟨⟨by omega,by omega⟩,⟨by omega,by omega,fun j j0 j1=>?_⟩,by first | omega | (dsimp only; omega)⟩⟩,fun hi=>?_⟩
 . by_cases e : j = k
   . subst e; exact Classical.not_not.1 hs
   . exact hk j j0 (by omega)
 have hV : p.Value.all standsB = true:=all_ix fun j j0 j1=>hk j j0 (by omega)
 clear hi hk k1 k0
 refine ⟨fun i=>0 <= i /\ i <= p.Params.length /\ ∀ j : Int,0 <= j -> j < i -> rightX (ix p.Params j),fun i=>((p.Params.length : Int) - i).toNat,⟨by omega,by omega,fun j _ _=>by omega⟩,?_⟩
 rintro i ⟨i0,i1,hx⟩
 have hp:=h.params
 refine ⟨fun hi=>?_,fun hi=>right_yes ⟨⟨hN,hG,hV,fun x hm=>?_⟩,hM⟩⟩
 . have hm:=mem_of_ix i0 hi
   have sx:=h.param _ hm
   obtain ⟨v1,v2⟩:=small_val h hM hm
   generalize hxe : ix p.Params i = x at *
   have bad : ¬ rightX x -> false = rightB p:=fun hn=>right_no fun ⟨⟨_,_,_,d⟩,_⟩=>hn (d x hm)
   refine ⟨i0,hi,by have:=sx.name; omega,fun hb=>bad fun ⟨a,b,_⟩=>?_,fun hg=>?_⟩
   . rcases hb with hb | hb
     . exact hb ((name_iff _).2 a)
     . exact b (List.length_eq_zero_iff.1 (by omega))
   have hxN : isName x.Name:=(name_iff _).1 (Classical.byContradiction fun n=>hg (.inl n))
   have hxV : x.Values ≠ []:=fun e=>hg (.inr (by rw [e]; rfl))
   refine ⟨fun k=>0 <= k /\ k <= x.Values.length /\ ∀ j : Int,0 <= j -> j < k -> (ix x.Values j).all saysB = true,fun k=>((x.Values.length : Int) - k).toNat,⟨by omega,by omega,fun j _ _=>by omega⟩,?_⟩
   rintro k ⟨k0,k1,hk⟩
   refine ⟨fun hkl=>?_,fun hkl=>⟨⟨by omega,by omega⟩,⟨by omega,by omega,fun j j0 j1=>?_⟩,by first | omega | (dsimp only; omega)⟩⟩
   . have hmk:=mem_of_ix k0 hkl
     have hvk:=v2 _ hmk
     refine ⟨fun y=>0 <= y /\ y <= (ix x.Values k).length /\ ∀ j : Int,0 <= j -> j < y -> saysB (ix (ix x.Values k) j) = true,fun y=>(((ix x.Values k).length : Int) - y).toNat,⟨by omega,by omega,fun j _ _=>by omega⟩,?_⟩
     rintro y ⟨y0,y1,hy⟩
     refine ⟨k0,hkl,fun hyl=>⟨k0,hkl,y0,hyl,fun _=>k0,fun _=>hkl,fun _=>y0,fun _=>hyl,fun hs=>bad fun ⟨_,_,c⟩=>?_,fun hs=>⟨⟨by omega,by omega⟩,⟨by omega,by omega,fun j j0 j1=>?_⟩,by first | omega | (dsimp only; omega)⟩⟩,fun hyl=>⟨⟨by omega,by omega⟩,⟨by omega,by omega,fun j j0 j1=>?_⟩,by first | omega | (dsimp only; omega)⟩⟩
     . exact (says_iff _).1 (List.all_eq_true.1 (c _ hmk) _ (mem_of_ix y0 hyl)) hs
     . by_cases e : j = y
       . subst e; exact (says_iff _).2 hs
       . exact hy j j0 (by omega)
     . by_cases e : j = k
       . subst e; exact all_ix fun z z0 z1=>hy z z0 (by omega)
       . exact hk j j0 (by omega)
   . by_cases e : j = i
     . subst e
       rw [hxe]
       refine ⟨hxN,hxV,fun v hv=>?_⟩
       obtain ⟨n,hn,rfl⟩:=List.getElem_of_mem hv
       have:=hk n (by omega) (by omega)
       rw [ix_get (by simpa using hn)] at this
       simpa using this
     . exact hx j j0 (by omega)
 . obtain ⟨n,hn,rfl⟩:=List.getElem_of_mem hm
   have:=hx n (by omega) (by omega)
   rw [ix_get (by simpa using hn)] at this
   simpa using this
def c35s (p : Prp) : Q1 U:=⟨[smallP p],[],blB (rightB p)⟩
def c35 (a : List (SV U)) : Option (Q1 U):=match a with | [.agg [.str p0,.str p1,.sl 110 p2,.str p3]]=>some (c35s (⟨p0,p1,p2,p3⟩)) | _=>none
theorem c35_ok (args : List (SV U)) (q : Q1 U) (h : c35 args = some q) (ho : allP q.ob) : LendOK N34 75 args ⟨q.ob,q.hy,q.v,[]⟩:=by
 unfold c35 at h
 split at h
 . rename_i p0 p1 p2 p3
   cases h
   exact lend1 N34_ok (inlMN_ok N34_ok M103_ok an35 2) Tryz.func75 (k:=.bool) trivial (V35_ok (p35 (⟨p0,p1,p2,p3⟩) ho.1)) 0
 . cases h
noncomputable def N35 : Env:=N34.addL 75 c35
theorem N35_ok : EnvOK N35:=N34_ok.addL Tryz.call75 c35_ok
def an70 : Nat -> Ann:=fun | 59=>⟨15,fun _=>none,fun  | _=>none⟩ | _=>⟨0,fun _=>none,fun _=>none⟩
def V70 (s : Str) (Q : Str -> Prop) : Prop :=
(-1 : Int) < 0 /\ List.length s <= 1000000000 /\ ([94,94] : List UInt8).length = 2 /\ (-1 : Int) < 0 /\ List.length (replB (94 : UInt8) ([94,94] : List UInt8) s) <= 1000000000 /\ ([94,39] : List UInt8).length = 2 /\ (-1 : Int) < 0 /\ List.length (replB (34 : UInt8) ([94,39] : List UInt8) (replB (94 : UInt8) ([94,94] : List UInt8) s)) <= 1000000000 /\ ([94,110] : List UInt8).length = 2 /\ List.length (replB (10 : UInt8) ([94,110] : List UInt8) (replB (34 : UInt8) ([94,39] : List UInt8) (replB (94 : UInt8) ([94,94] : List UInt8) s))) <= 4000000000 /\ (([59,58,44] : List UInt8) = ([13,10] : List UInt8) ∨ ([59,58,44] : List UInt8) = ([59,58,44] : List UInt8)) /\ ((List.any (replB (10 : UInt8) ([94,110] : List UInt8) (replB (34 : UInt8) ([94,39] : List UInt8) (replB (94 : UInt8) ([94,94] : List UInt8) s))) fun (c : UInt8)=>([59,58,44] : List UInt8).contains c) = true -> ([34] : List UInt8).length + List.length (replB (10 : UInt8) ([94,110] : List UInt8) (replB (34 : UInt8) ([94,39] : List UInt8) (replB (94 : UInt8) ([94,94] : List UInt8) s))) <= 9223372036854775807 /\ List.length (([34] : List UInt8) ++ replB (10 : UInt8) ([94,110] : List UInt8) (replB (34 : UInt8) ([94,39] : List UInt8) (replB (94 : UInt8) ([94,94] : List UInt8) s))) + ([34] : List UInt8).length <= 9223372036854775807 /\ Q (([34] : List UInt8) ++ replB (10 : UInt8) ([94,110] : List UInt8) (replB (34 : UInt8) ([94,39] : List UInt8) (replB (94 : UInt8) ([94,94] : List UInt8) s)) ++ ([34] : List UInt8))) /\ (¬(List.any (replB (10 : UInt8) ([94,110] : List UInt8) (replB (34 : UInt8) ([94,39] : List UInt8) (replB (94 : UInt8) ([94,94] : List UInt8) s))) fun (c : UInt8)=>([59,58,44] : List UInt8).contains c) = true -> Q (replB (10 : UInt8) ([94,110] : List UInt8) (replB (34 : UInt8) ([94,39] : List UInt8) (replB (94 : UInt8) ([94,94] : List UInt8) s))))
theorem V70_ok {s : Str} {Q : Str -> Prop} (h : V70 s Q) : vcFun (E:=N35) (inlMN N35 M103 an70 2) (an70 59) Tryz.f59 [.str s] [] [] 0 (resP N35 [.str] Q):=Eq.mp (show V70 s Q = vcFun (E:=N35) (inlMN N35 M103 an70 2) (an70 59) Tryz.f59 [.str s] [] [] 0 (resP N35 [.str] Q) by kernel_rfl) h
theorem p70 (s : Str) (hs : s.length <= 100000000) : V70 s (fun y0=>y0 = told s):=by
 unfold V70
 have l1:=replB_len 94 (t:=[94,94]) rfl s
 have l2:=replB_len 34 (t:=[94,39]) rfl (replB 94 [94,94] s)
 have e:=esc_repl s
 have l3:=esc_len s
 have q:=esc_quote s
 rw [e,q]
 refine ⟨by omega,by omega,rfl,by omega,by omega,rfl,by omega,by omega,rfl,by omega,.inr rfl,fun h=>⟨by simp only [List.length_cons,List.length_nil]; omega,by simp only [List.length_append,List.length_cons,List.length_nil]; omega,?_⟩,fun h=>?_⟩
 . unfold told; rw [if_pos h]; rfl
 . unfold told; rw [if_neg h]
def c70 (a : List (SV U)) : Option (Q1 U):=match a with | [.str s]=>some ⟨[List.length (α:=UInt8) s <= 100000000],[],.str (told s)⟩ | _=>none
theorem c70_ok (args : List (SV U)) (q : Q1 U) (h : c70 args = some q) (ho : allP q.ob) : LendOK N35 59 args ⟨q.ob,q.hy,q.v,[]⟩:=by
 unfold c70 at h
 split at h
 . rename_i s
   cases h
   exact lend1 N35_ok (inlMN_ok N35_ok M103_ok an70 2) Tryz.func59 (k:=.str) (x:=told s) trivial (V70_ok (p70 s ho.1)) 0
 . cases h
noncomputable def N70 : Env:=N35.addL 59 c70
theorem N70_ok : EnvOK N70:=N35_ok.addL Tryz.call59 c70_ok
def an32 : Nat -> Ann:=fun | 35=>⟨59,fun | 7=>some ⟨[1,25,26],[.slot 4 .str,.slot 27 (.int .i64)]⟩ | 11=>some ⟨[1,4,6,25,26,27,32,33],[.slot 7 (.acc 9),.slot 34 (.int .i64)]⟩ | _=>none,fun | 6=>some ⟨[1],[.slot 4 .str]⟩ | _=>none⟩ | _=>⟨0,fun _=>none,fun _=>none⟩
def V32 (p : Prp) (Q : Str -> Err -> Prop) : Prop :=
smallP (Prp.mk p.Group p.Name p.Params p.Value) /\ (¬rightB (Prp.mk p.Group p.Name p.Params p.Value) = true -> Q [] (Err.no (2 : Int))) /\ (¬¬rightB (Prp.mk p.Group p.Name p.Params p.Value) = true -> ∃ (J : List UInt8 -> Prop),((p.Group ≠ [] -> List.length p.Group + ([46] : List UInt8).length <= 9223372036854775807 /\ List.length (p.Group ++ ([46] : List UInt8)) + List.length p.Name <= 9223372036854775807 /\ J (p.Group ++ ([46] : List UInt8) ++ p.Name)) /\ (¬p.Group ≠ [] -> J p.Name)) /\ ∀ (x : List UInt8),J x -> ∃ (I : List UInt8 -> Int -> Prop),∃ (m : List UInt8 -> Int -> Nat),I x (0 : Int) /\ ∀ (x : List UInt8) (x_1 : Int),I x x_1 -> (x_1 < (↑p.Params.length : Int) -> (0 : Int) <= x_1 /\ x_1 < (↑p.Params.length : Int) /\ ∃ (I_1 : List (List UInt8) -> Int -> Prop),∃ (m_1 : List (List UInt8) -> Int -> Nat),I_1 [] (0 : Int) /\ ∀ (x_2 : List (List UInt8)) (x_3 : Int),I_1 x_2 x_3 -> (x_3 < (↑(ix p.Params x_1).Values.length : Int) -> (0 : Int) <= x_3 /\ x_3 < (↑(ix p.Params x_1).Values.length : Int) /\ (ix (ix p.Params x_1).Values x_3).length <= 100000000 /\ (x_2.length + [told (ix (ix p.Params x_1).Values x_3)].length) * (some (16 : Nat)).getD (0 : Nat) <= 140737488355328 /\ in64 (x_3 + 1) /\ I_1 (x_2 ++ [told (ix (ix p.Params x_1).Values x_3)]) (x_3 + 1) /\ m_1 (x_2 ++ [told (ix (ix p.Params x_1).Values x_3)]) (x_3 + 1) < m_1 x_2 x_3) /\ (¬x_3 < (↑(ix p.Params x_1).Values.length : Int) -> ([59] : List UInt8).length + List.length (ix p.Params x_1).Name <= 9223372036854775807 /\ List.length (([59] : List UInt8) ++ (ix p.Params x_1).Name) + ([61] : List UInt8).length <= 9223372036854775807 /\ ((Lib.join x_2 ([44] : List UInt8)).length <= 140737488355328 /\ x_2.length <= 140737488355328) /\ List.length (([59] : List UInt8) ++ (ix p.Params x_1).Name ++ ([61] : List UInt8)) + (Lib.join x_2 ([44] : List UInt8)).length <= 9223372036854775807 /\ x.length + List.length (([59] : List UInt8) ++ (ix p.Params x_1).Name ++ ([61] : List UInt8) ++ Lib.join x_2 ([44] : List UInt8)) <= 9223372036854775807 /\ in64 (x_1 + 1) /\ I (x ++ (([59] : List UInt8) ++ (ix p.Params x_1).Name ++ ([61] : List UInt8) ++ Lib.join x_2 ([44] : List UInt8))) (x_1 + 1) /\ m (x ++ (([59] : List UInt8) ++ (ix p.Params x_1).Name ++ ([61] : List UInt8) ++ Lib.join x_2 ([44] : List UInt8))) (x_1 + 1) < m x x_1)) /\ (¬x_1 < (↑p.Params.length : Int) -> x.length + ([58] : List UInt8).length <= 9223372036854775807 /\ List.length (x ++ ([58] : List UInt8)) + List.length p.Value <= 9223372036854775807 /\ Q (x ++ ([58] : List UInt8) ++ p.Value) Err.nil))
theorem V32_ok {p : Prp} {Q : Str -> Err -> Prop} (h : V32 p Q) : vcFun (E:=N70) (inlMN N70 M103 an32 2) (an32 35) Tryz.f35 [.agg [.str p.Group,.str p.Name,.sl (N:=U) 110 p.Params,.str p.Value]] [] [] 0 (resP N70 [.str,.err] Q):=Eq.mp (show V32 p Q = vcFun (E:=N70) (inlMN N70 M103 an32 2) (an32 35) Tryz.f35 [.agg [.str p.Group,.str p.Name,.sl (N:=U) 110 p.Params,.str p.Value]] [] [] 0 (resP N70 [.str,.err] Q) by kernel_rfl) h
theorem tell_head {p : Prp} (h : smallP p) : (if p.Group = [] then p.Name else p.Group ++ 46 :: p.Name).length <= 105001:=by
 have:=h.name
 have:=h.group
 split
 . omega
 . simp only [List.length_append,List.length_cons]; omega
theorem flat_take {p : Prp} (h : smallP p) (hm : manyB p = false) (i : Nat) : ((p.Params.take i).flatMap tellP).length <= 4200000:=by
 have h1:=flat_len (f:=tellP) (k:=210000) (l:=p.Params.take i) fun x hx=>(tellP_len h hm (List.mem_of_mem_take hx)).2
 have h2:=small_params hm
 have h3 : (p.Params.take i).length <= 20:=by rw [List.length_take]; omega
 have h4:=Nat.mul_le_mul_right 210000 h3
 omega
theorem joinV_snoc : ∀ {l : List Str},l ≠ [] -> ∀ v : Str,joinV (l ++ [v]) = joinV l ++ 44 :: told v
 | [],h,_=>absurd rfl h
 | [u],_,v=>rfl
 | u :: w :: l,_,v=>by
  have ih:=joinV_snoc (l:=w :: l) (by simp) v
  simp only [List.cons_append] at ih ⊢
  simp only [joinV]
  rw [ih]; simp
theorem join_take {p : Prp} (h : smallP p) (hm : manyB p = false) {x : Param} (hx : x ∈ p.Params) (k : Nat) : (joinV (x.Values.take k)).length <= 200060:=by
 obtain ⟨h1,h2⟩:=small_val h hm hx
 have h3:=joinV_len (k:=5000) (l:=x.Values.take k) fun v hv=>h2 v (List.mem_of_mem_take hv)
 have h4 : (x.Values.take k).length <= 20:=by rw [List.length_take]; omega
 have h5:=Nat.mul_le_mul_right (2 * 5000 + 3) h4
 omega
theorem p32 (p : Prp) (h : smallP p) : V32 p (fun y0 y1=>y0 = (printS p).1 /\ y1 = (printS p).2):=by
 unfold V32
 refine ⟨h,fun hr=>?_,fun hr=>?_⟩
 . have hr : ¬ rightB p = true:=hr
   unfold printS; rw [if_neg hr]; exact ⟨rfl,rfl⟩
 have hr : rightB p = true:=Classical.not_not.1 hr
 obtain ⟨h0,hM⟩:=rightB_iff.1 hr
 have s1:=h.name
 have s2:=h.group
 have s3:=h.value
 have s4:=small_params hM
 refine ⟨fun x=>x = if p.Group = [] then p.Name else p.Group ++ 46 :: p.Name,⟨fun hg=>⟨by simp only [List.length_cons,List.length_nil]; omega,by simp only [List.length_append,List.length_cons,List.length_nil]; omega,by rw [if_neg hg]; simp⟩,fun hg=>by rw [if_pos (Classical.not_not.1 hg)]⟩,?_⟩
 rintro x hx
 have lx:=tell_head h
 rw [<- hx] at lx
 refine ⟨fun y i=>0 <= i /\ i <= p.Params.length /\ y = x ++ (p.Params.take i.toNat).flatMap tellP,fun _ i=>((p.Params.length : Int) - i).toNat,⟨by omega,by omega,by simp⟩,?_⟩
 rintro y i ⟨i0,i1,rfl⟩
 have fl:=flat_take h hM i.toNat
 refine ⟨fun hi=>⟨i0,hi,?_⟩,fun hi=>?_⟩
 . have hm:=mem_of_ix i0 hi
   have tk:=take_next i0 hi
   obtain ⟨v1,v2⟩:=small_val h hM hm
   obtain ⟨jl,tl⟩:=tellP_len h hM hm
   have nl:=(h.param _ hm).name
   generalize ix p.Params i = z at *
   refine ⟨fun l k=>0 <= k /\ k <= z.Values.length /\ l = (z.Values.take k.toNat).map told,fun _ k=>((z.Values.length : Int) - k).toNat,⟨by omega,by omega,by simp⟩,?_⟩
   rintro l k ⟨k0,k1,rfl⟩
   refine ⟨fun hk=>⟨k0,hk,by have:=v2 _ (mem_of_ix k0 hk); omega,by simp; omega,⟨by omega,by omega⟩,⟨by omega,by omega,by rw [take_next k0 hk]; simp⟩,by first | omega | (dsimp only; omega)⟩,fun hk=>?_⟩
   have e : z.Values.take k.toNat = z.Values:=List.take_of_length_le (by omega)
   rw [e,join_told]
   simp only [List.length_cons,List.length_nil,List.length_append,List.length_map]
   refine ⟨by omega,by omega,⟨by omega,by omega⟩,by omega,by omega,⟨by omega,by omega⟩,⟨by omega,by omega,?_⟩,by first | omega | (dsimp only; omega)⟩
   rw [tk]; simp [tellP]
 . have e : p.Params.take i.toNat = p.Params:=List.take_of_length_le (by omega)
   rw [e] at fl ⊢
   simp only [List.length_cons,List.length_nil,List.length_append]
   refine ⟨by omega,by omega,?_⟩
   unfold printS Li.tell; rw [if_pos hr,<- hx]; simp
def c32s (p : Prp) (nx : Nat) : CR U:=⟨[smallP p],[],.tup [.str ((printS p).1),.err ((printS p).2)],[]⟩
def c32 (a : List (SV U)) (nx : Nat) : Option (CR U):=match a with | [.agg [.str p0,.str p1,.sl 110 p2,.str p3]]=>some (c32s (⟨p0,p1,p2,p3⟩) nx) | _=>none
theorem c32_ok (args : List (SV U)) (nx : Nat) (c : CR U) (h : c32 args nx = some c) (hp : args.all pureS = true) (ho : allP c.ob) : ConOK N70.P N70.N N70.T N70.G 35 args nx c:=by
 unfold c32 at h
 split at h
 . rename_i p0 p1 p2 p3
   cases h
   exact con2 N70_ok (inlMN_ok N70_ok M103_ok an32 2) Tryz.func35 (k1:=.str) (k2:=.err) rfl hp (V32_ok (p32 (⟨p0,p1,p2,p3⟩) ho.1))
 . cases h
noncomputable def N32 : Env:=N70.addC 35 c32
theorem N32_ok : EnvOK N32:=N70_ok.addC Tryz.call35 c32_ok
def an33 : Nat -> Ann:=fun | 51=>⟨70,fun | 7=>some ⟨[1],[.slot 4 .str,.slot 5 (.int .i64)]⟩ | 11=>some ⟨[1,5],[.slot 4 .str,.slot 6 (.int .i64)]⟩ | _=>none,fun | 6=>some ⟨[1],[.slot 4 .str]⟩ | 15=>some ⟨[1,5,6],[.slot 4 .str]⟩ | _=>none⟩ | _=>⟨0,fun _=>none,fun _=>none⟩
def V33 (p : Prp) (Q : Str -> Int -> Prop) : Prop :=
smallP (Prp.mk p.Group p.Name p.Params p.Value) /\ (¬rightB (Prp.mk p.Group p.Name p.Params p.Value) = true -> Q [] (2 : Int)) /\ (¬¬rightB (Prp.mk p.Group p.Name p.Params p.Value) = true -> ∃ (J : List UInt8 -> Prop),((p.Group ≠ [] -> List.length p.Group + ([46] : List UInt8).length <= 9223372036854775807 /\ List.length (p.Group ++ ([46] : List UInt8)) + List.length p.Name <= 9223372036854775807 /\ J (p.Group ++ ([46] : List UInt8) ++ p.Name)) /\ (¬p.Group ≠ [] -> J p.Name)) /\ ∀ (x : List UInt8),J x -> ∃ (I : List UInt8 -> Int -> Prop),∃ (m : List UInt8 -> Int -> Nat),I x (0 : Int) /\ ∀ (x : List UInt8) (x_1 : Int),I x x_1 -> (x_1 < (↑p.Params.length : Int) -> x.length + ([59] : List UInt8).length <= 9223372036854775807 /\ (0 : Int) <= x_1 /\ x_1 < (↑p.Params.length : Int) /\ List.length (x ++ ([59] : List UInt8)) + List.length (ix p.Params x_1).Name <= 9223372036854775807 /\ List.length (x ++ ([59] : List UInt8) ++ (ix p.Params x_1).Name) + ([61] : List UInt8).length <= 9223372036854775807 /\ ∃ (I_1 : List UInt8 -> Int -> Prop),∃ (m_1 : List UInt8 -> Int -> Nat),I_1 (x ++ ([59] : List UInt8) ++ (ix p.Params x_1).Name ++ ([61] : List UInt8)) (0 : Int) /\ ∀ (x_2 : List UInt8) (x_3 : Int),I_1 x_2 x_3 -> (0 : Int) <= x_1 /\ x_1 < (↑p.Params.length : Int) /\ (x_3 < (↑(ix p.Params x_1).Values.length : Int) -> ∃ (J : List UInt8 -> Prop),(((0 : Int) < x_3 -> x_2.length + ([44] : List UInt8).length <= 9223372036854775807 /\ J (x_2 ++ ([44] : List UInt8))) /\ (¬(0 : Int) < x_3 -> J x_2)) /\ ∀ (x : List UInt8),J x -> (0 : Int) <= x_1 /\ x_1 < (↑p.Params.length : Int) /\ (0 : Int) <= x_3 /\ x_3 < (↑(ix p.Params x_1).Values.length : Int) /\ (ix (ix p.Params x_1).Values x_3).length <= 100000000 /\ x.length + List.length (told (ix (ix p.Params x_1).Values x_3)) <= 9223372036854775807 /\ in64 (x_3 + 1) /\ I_1 (x ++ told (ix (ix p.Params x_1).Values x_3)) (x_3 + 1) /\ m_1 (x ++ told (ix (ix p.Params x_1).Values x_3)) (x_3 + 1) < m_1 x_2 x_3) /\ (¬x_3 < (↑(ix p.Params x_1).Values.length : Int) -> in64 (x_1 + 1) /\ I x_2 (x_1 + 1) /\ m x_2 (x_1 + 1) < m x x_1)) /\ (¬x_1 < (↑p.Params.length : Int) -> x.length + ([58] : List UInt8).length <= 9223372036854775807 /\ List.length (x ++ ([58] : List UInt8)) + List.length p.Value <= 9223372036854775807 /\ Q (x ++ ([58] : List UInt8) ++ p.Value) (0 : Int)))
theorem V33_ok {p : Prp} {Q : Str -> Int -> Prop} (h : V33 p Q) : vcFun (E:=N32) (inlMN N32 M103 an33 2) (an33 51) Tryz.f51 [.agg [.str p.Group,.str p.Name,.sl (N:=U) 110 p.Params,.str p.Value]] [] [] 0 (resP N32 [.str,.int .i64] Q):=Eq.mp (show V33 p Q = vcFun (E:=N32) (inlMN N32 M103 an33 2) (an33 51) Tryz.f51 [.agg [.str p.Group,.str p.Name,.sl (N:=U) 110 p.Params,.str p.Value]] [] [] 0 (resP N32 [.str,.int .i64] Q) by kernel_rfl) h
theorem p33 (p : Prp) (h : smallP p) : V33 p (fun y0 y1=>y0 = (printR p).1 /\ y1 = (printR p).2):=by
 unfold V33
 refine ⟨h,fun hr=>?_,fun hr=>?_⟩
 . have hr : ¬ rightB p = true:=hr
   unfold printR; rw [if_neg hr]; exact ⟨rfl,rfl⟩
 have hr : rightB p = true:=Classical.not_not.1 hr
 obtain ⟨h0,hM⟩:=rightB_iff.1 hr
 have s1:=h.name
 have s2:=h.group
 have s3:=h.value
 have s4:=small_params hM
 refine ⟨fun x=>x = if p.Group = [] then p.Name else p.Group ++ 46 :: p.Name,⟨fun hg=>⟨by simp only [List.length_cons,List.length_nil]; omega,by simp only [List.length_append,List.length_cons,List.length_nil]; omega,by rw [if_neg hg]; simp⟩,fun hg=>by rw [if_pos (Classical.not_not.1 hg)]⟩,?_⟩
 rintro x hx
 have lx:=tell_head h
 rw [<- hx] at lx
 refine ⟨fun y i=>0 <= i /\ i <= p.Params.length /\ y = x ++ (p.Params.take i.toNat).flatMap tellP,fun _ i=>((p.Params.length : Int) - i).toNat,⟨by omega,by omega,by simp⟩,?_⟩
 rintro y i ⟨i0,i1,rfl⟩
 have fl:=flat_take h hM i.toNat
 refine ⟨fun hi=>?_,fun hi=>?_⟩
 . have hm:=mem_of_ix i0 hi
   have tk:=take_next i0 hi
   obtain ⟨v1,v2⟩:=small_val h hM hm
   have jl:=join_take h hM hm
   have nl:=(h.param _ hm).name
   generalize ix p.Params i = z at *
   refine ⟨by simp only [List.length_cons,List.length_nil,List.length_append]; omega,i0,hi,by simp only [List.length_cons,List.length_nil,List.length_append]; omega,by simp only [List.length_cons,List.length_nil,List.length_append]; omega,?_⟩
   obtain ⟨b,hb⟩ : ∃ b,b = x ++ (p.Params.take i.toNat).flatMap tellP ++ [59] ++ z.Name ++ [61]:=⟨_,rfl⟩
   have lb : b.length <= 5000000:=by rw [hb]; simp only [List.length_cons,List.length_nil,List.length_append]; omega
   rw [<- hb]
   refine ⟨fun s k=>0 <= k /\ k <= z.Values.length /\ s = b ++ joinV (z.Values.take k.toNat),fun _ k=>((z.Values.length : Int) - k).toNat,⟨by omega,by omega,by simp [joinV]⟩,?_⟩
   rintro s k ⟨k0,k1,rfl⟩
   have jk:=jl k.toNat
   refine ⟨i0,hi,fun hk=>?_,fun hk=>⟨⟨by omega,by omega⟩,⟨by omega,by omega,?_⟩,by first | omega | (dsimp only; omega)⟩⟩
   . have hv:=v2 _ (mem_of_ix k0 hk)
     have tv:=take_next k0 hk
     generalize ix z.Values k = v at *
     have tl:=told_len v
     refine ⟨fun y=>y = b ++ (if k = 0 then [] else joinV (z.Values.take k.toNat) ++ [44]),⟨fun hp=>⟨by simp only [List.length_cons,List.length_nil,List.length_append]; omega,by rw [if_neg (by omega)]; simp⟩,fun hp=>?_⟩,?_⟩
     . have : k = 0:=by omega
       subst this
       simp [joinV]
     rintro y rfl
     refine ⟨i0,hi,k0,hk,by omega,?_,⟨by omega,by omega⟩,⟨by omega,by omega,?_⟩,by first | omega | (dsimp only; omega)⟩
     . split
       . simp only [List.length_nil,List.length_append]; omega
       . simp only [List.length_cons,List.length_nil,List.length_append]; omega
     . rw [tv]
       by_cases hz : k = 0
       . subst hz; simp [joinV]
       . rw [if_neg hz,joinV_snoc (fun e=>by
           have:=congrArg List.length e
           rw [List.length_take,List.length_nil] at this; omega)]
         simp
   . have e : z.Values.take k.toNat = z.Values:=List.take_of_length_le (by omega)
     rw [e,tk,hb]; simp [tellP]
 . have e : p.Params.take i.toNat = p.Params:=List.take_of_length_le (by omega)
   rw [e] at fl ⊢
   simp only [List.length_cons,List.length_nil,List.length_append]
   refine ⟨by omega,by omega,?_⟩
   unfold printR Li.tell; rw [if_pos hr,<- hx]; simp
def c33s (p : Prp) : Q1 U:=⟨[smallP p],[],.tup [.str ((printR p).1),.int .i64 ((printR p).2)]⟩
def c33 (a : List (SV U)) : Option (Q1 U):=match a with | [.agg [.str p0,.str p1,.sl 110 p2,.str p3]]=>some (c33s (⟨p0,p1,p2,p3⟩)) | _=>none
theorem c33_ok (args : List (SV U)) (q : Q1 U) (h : c33 args = some q) (ho : allP q.ob) : LendOK N32 51 args ⟨q.ob,q.hy,q.v,[]⟩:=by
 unfold c33 at h
 split at h
 . rename_i p0 p1 p2 p3
   cases h
   exact lend2 N32_ok (inlMN_ok N32_ok M103_ok an33 2) Tryz.func51 (k1:=.str) (k2:=.int .i64) trivial trivial (V33_ok (p33 (⟨p0,p1,p2,p3⟩) ho.1)) 0
 . cases h
end Go.Proofs.YtadgfmmmdhlljaaGreatDoor
end
section
namespace Go.Co
open Go Go.Wk Go.Wl Go.Rx Go.Fo Go.Li
def sBEGIN : Str:=[66,69,71,73,78]
def sEND : Str:=[69,78,68]
def atE (a : Int) (e : Err) : Err:=match e.num with | some n=>.fault a n | none=>e
instance (s : Str) : Decidable (isName s):=by unfold isName; infer_instance
def nameP (p : Prp) : Str:=if p.Group = [] /\ p.Params = [] /\ isName (upper p.Value) then upper p.Value else []
def namedS (p : Prp) : Str × Err:=if nameP p = [] then ([],.no 11) else (nameP p,.nil)
theorem upper_nil {a : Str} : upper a = [] ↔ a = []:=by
 unfold upper
 exact List.map_eq_nil_iff
theorem letter_upB (c : UInt8) : letterB (upB c) = letterB c :=
 all8 (P:=fun c=>letterB (upB c) = letterB c) (by decide +kernel) c
theorem upper_letters (a : Str) : (upper a).all letterB = a.all letterB:=by
 unfold upper
 rw [List.all_map]
 congr 1
 funext c
 exact letter_upB c
theorem isName_upper (a : Str) : isName (upper a) ↔ a ≠ [] /\ a.all letterB = true:=by
 unfold isName
 rw [Ne,upper_nil,upper_letters]
 exact ⟨fun ⟨h1,h2,_⟩=>⟨h1,h2⟩,fun ⟨h1,h2⟩=>⟨h1,h2,(upper_right h2).2⟩⟩
theorem read_name {v : Str} (h : v ≠ [] /\ v.all letterB = true) : parseS (v ++ [58]) = (⟨[],upper v,[],[]⟩,.nil):=by
 obtain ⟨e1,e2⟩:=while_app h.2 (c:=58) (by decide) []
 have hn : pName (v ++ [58]) = some (upper v,[58]):=by unfold pName; rw [e1,e2,if_neg h.1]
 have hh : pHead (v ++ [58]) = some ([],upper v,[58]):=by
  unfold pHead
  rw [hn]
  rfl
 have hp : pProp (v ++ [58]) = some ⟨[],upper v,[],[]⟩:=by
  unfold pProp
  rw [hh]
  simp only
  rw [pParams_eq]
  rfl
 unfold parseS
 rw [hp]
 rfl
theorem name_read {v : Str} (h1 : (parseS (v ++ [58])).2 = .nil) (h2 : (parseS (v ++ [58])).1.Group = []) (h3 : (parseS (v ++ [58])).1.Params = []) (h4 : (parseS (v ++ [58])).1.Value = []) : v ≠ [] /\ v.all letterB = true:=by
 obtain ⟨-, hp⟩:=parse_right h1
 generalize (parseS (v ++ [58])).1 = q at h2 h3 h4 hp
 obtain ⟨g,n,l,x⟩:=q
 simp only at h2 h3 h4
 subst h2 h3 h4
 unfold pProp at hp
 cases hh : pHead (v ++ [58]) with
 | none=>rw [hh] at hp; cases hp
 | some t =>
  obtain ⟨g,n',r⟩:=t
  rw [hh] at hp
  simp only at hp
  cases hl : pParams r with
  | none=>rw [hl] at hp; cases hp
  | some u =>
   obtain ⟨l,t⟩:=u
   rw [hl] at hp
   simp only at hp
   cases hd : hdIs 58 t with
   | none=>rw [hd] at hp; cases hp
   | some x =>
    rw [hd] at hp
    simp only at hp
    split at hp
    . simp only [Option.some.injEq,Prp.mk.injEq] at hp
      obtain ⟨rfl,rfl,rfl,rfl⟩:=hp
      have ht : t = [58]:=by
       cases t with
       | nil=>cases hd
       | cons d t =>
        change (if d = 58 then some t else none) = some [] at hd
        by_cases e : d = 58
        . rw [if_pos e] at hd; simp only [Option.some.injEq] at hd; rw [e,hd]
        . rw [if_neg e] at hd; cases hd
      subst ht
      have hr : r = [58]:=by
       rw [pParams_eq] at hl
       cases h59 : hdIs 59 r with
       | none=>rw [h59] at hl; cases hl; rfl
       | some u =>
        rw [h59] at hl
        simp only at hl
        cases hx : pParam u with
        | none=>rw [hx] at hl; cases hl
        | some y =>
         obtain ⟨y,z⟩:=y
         rw [hx] at hl
         simp only at hl
         cases hz : pParams z with
         | none=>rw [hz] at hl; cases hl
         | some l=>rw [hz] at hl; cases hl
      subst hr
      have hn : (v ++ [58]).takeWhile letterB ≠ [] /\ (v ++ [58]).dropWhile letterB = [58]:=by
       unfold pHead at hh
       cases hn : pName (v ++ [58]) with
       | none=>rw [hn] at hh; cases hh
       | some w =>
        obtain ⟨m,r⟩:=w
        rw [hn] at hh
        simp only at hh
        cases h46 : hdIs 46 r with
        | none =>
         rw [h46] at hh
         simp only [Option.some.injEq,Prod.mk.injEq] at hh
         unfold pName at hn
         split at hn
         . cases hn
         . rename_i hne
           simp only [Option.some.injEq,Prod.mk.injEq] at hn
           exact ⟨hne,by rw [hn.2,hh.2.2]⟩
        | some u =>
         rw [h46] at hh
         simp only at hh
         cases hu : pName u with
         | none=>rw [hu] at hh; cases hh
         | some y =>
          obtain ⟨y,z⟩:=y
          rw [hu] at hh
          simp only [Option.some.injEq,Prod.mk.injEq] at hh
          have hm:=hh.1
          subst hm
          unfold pName at hn
          split at hn
          . cases hn
          . rename_i hne
            simp only [Option.some.injEq,Prod.mk.injEq] at hn
            exact absurd (upper_nil.1 hn.1) hne
      have hv : (v ++ [58]).takeWhile letterB = v:=by
       have:=List.takeWhile_append_dropWhile (p:=letterB) (l:=v ++ [58])
       rw [hn.2] at this
       exact List.append_cancel_right this
      rw [hv] at hn
      refine ⟨hn.1,?_⟩
      rw [<- hv]
      exact List.all_takeWhile
    . cases hp
theorem named_ok (p : Prp) : ((parseS (p.Value ++ [58])).2 ≠ .nil ∨ p.Group ≠ [] ∨ p.Params ≠ [] ∨ (parseS (p.Value ++ [58])).1.Group ≠ [] ∨ (parseS (p.Value ++ [58])).1.Params ≠ [] ∨ (parseS (p.Value ++ [58])).1.Value ≠ []) /\ namedS p = ([],.no 11) ∨
  ((parseS (p.Value ++ [58])).2 = .nil /\ p.Group = [] /\ p.Params = [] /\ (parseS (p.Value ++ [58])).1.Group = [] /\ (parseS (p.Value ++ [58])).1.Params = [] /\ (parseS (p.Value ++ [58])).1.Value = []) /\ namedS p = ((parseS (p.Value ++ [58])).1.Name,.nil):=by
 by_cases h : p.Value ≠ [] /\ p.Value.all letterB = true
 . have hr:=read_name h
   have hu : isName (upper p.Value):=(isName_upper _).2 h
   have hne : upper p.Value ≠ []:=hu.1
   by_cases hg : p.Group = [] /\ p.Params = []
   . refine .inr ⟨?_,?_⟩
     . rw [hr]; exact ⟨rfl,hg.1,hg.2,rfl,rfl,rfl⟩
     . have e : nameP p = upper p.Value:=by unfold nameP; rw [if_pos ⟨hg.1,hg.2,hu⟩]
       unfold namedS; rw [e,if_neg hne,hr]
   . refine .inl ⟨?_,?_⟩
     . by_cases h1 : p.Group = []
       . exact .inr (.inr (.inl fun h2=>hg ⟨h1,h2⟩))
       . exact .inr (.inl h1)
     . have e : nameP p = []:=by unfold nameP; rw [if_neg (fun h=>hg ⟨h.1,h.2.1⟩)]
       unfold namedS; rw [if_pos e]
 . refine .inl ⟨?_,?_⟩
   . refine Classical.byContradiction fun hn=>h ?_
     simp only [not_or,Classical.not_not,Ne] at hn
     exact name_read hn.1 hn.2.2.2.1 hn.2.2.2.2.1 hn.2.2.2.2.2
   . have e : nameP p = []:=by unfold nameP; rw [if_neg (fun hh=>h ((isName_upper _).1 hh.2.2))]
     unfold namedS; rw [if_pos e]
abbrev Frm:=Comp × Int
def addP (c : Comp) (p : Prp) : Comp:=.mk c.Name (c.Props ++ [p]) c.Comps
def addC (c x : Comp) : Comp:=.mk c.Name c.Props (c.Comps ++ [x])
def stepC (st : List Frm) (out : List Comp) (a : Int) (p : Prp) : Except (Int × Int) (List Frm × List Comp) :=
 if p.Name = sBEGIN then
  if nameP p = [] then .error (11,a) else if 6 < st.length + 1 then .error (12,a) else .ok ((.mk (nameP p) [] [],a) :: st,out)
 else match st with
  | []=>.error (11,a)
  | (c,b) :: st=>if p.Name = sEND then
    if nameP p = [] ∨ nameP p ≠ c.Name then .error (11,a) else match st with
     | []=>.ok ([],out ++ [c])
     | (d,b') :: st=>.ok ((addC d c,b') :: st,out)
   else .ok ((addP c p,b) :: st,out)
def goC : List Row -> List Frm -> List Comp -> Except (Int × Int) (List Comp)
 | [],[],out=>.ok out
 | [],(_,b) :: _,_=>.error (11,b)
 | r :: rs,st,out=>if (parseS r.Text).2 ≠ .nil then .error ((parseS r.Text).2.num.getD 0,r.At) else match stepC st out r.At (parseS r.Text).1 with
  | .error e=>.error e
  | .ok q=>goC rs q.1 q.2
def compS (s : Str) : Except (Int × Int) (List Comp):=match unfoldS s with | .error e=>.error e | .ok rows=>goC rows [] []
def cR (r : Except (Int × Int) (List Comp)) : List Comp × Int × Int:=match r with | .ok l=>(l,0,0) | .error e=>([],e.1,e.2)
def cE (r : Except (Int × Int) (List Comp)) : Err:=match r with | .ok _=>.nil | .error e=>.fault e.2 e.1
end Go.Co
end
section
namespace Go.Co
open Go Go.Wk Go.Wl Go.Rx Go.Fo Go.Li
theorem short_of {L : List Row} (h : ∀ r ∈ L.dropLast,r.Text.length <= 5000) (hl : (L.getLastD default).Text.length <= 5000) : ∀ r ∈ L,r.Text.length <= 5000:=by
 intro r hr
 by_cases hn : L = []
 . subst hn; cases hr
 . rw [<- List.dropLast_concat_getLast hn,List.mem_append,List.mem_singleton] at hr
   rcases hr with hr | rfl
   . exact h r hr
   . rw [List.getLastD_eq_getLast?,List.getLast?_eq_some_getLast hn] at hl
     exact hl
theorem uGo_short : ∀ (ls : List Str) (a : Int) (out : List Row) (o : Bool) (rows : List Row),(∀ r ∈ out,r.Text.length <= 5000) -> out.length <= 1000 -> uGo ls a out o = .ok rows -> rows.length <= 1000 /\ ∀ r ∈ rows,r.Text.length <= 5000
 | [],_,out,_,rows,h1,h2,h=>by
  unfold uGo at h; cases h; exact ⟨h2,h1⟩
 | l :: ls,a,out,o,rows,h1,h2,h=>by
  rw [uGo] at h
  cases hs : uStep a l out o with
  | error e=>rw [hs] at h; cases h
  | ok q =>
   obtain ⟨out',o'⟩:=q
   rw [hs] at h
   simp only at h
   have key : (∀ r ∈ out',r.Text.length <= 5000) /\ out'.length <= 1000:=by
    unfold uStep at hs
    split at hs
    . cases hs; exact ⟨h1,h2⟩
    . split at hs
      . split at hs
        . obtain ⟨rfl,-, k1,k2⟩:=uTop_in hs
          refine ⟨short_of (fun r hr=>?_) k1,k2⟩
          unfold lastAdd at hr
          rw [List.dropLast_concat] at hr
          exact h1 r ((List.dropLast_sublist _).subset hr)
        . cases hs
      . obtain ⟨rfl,-, k1,k2⟩:=uTop_in hs
        refine ⟨short_of (fun r hr=>?_) k1,k2⟩
        rw [List.dropLast_concat] at hr
        exact h1 r hr
   exact uGo_short ls _ out' o' rows key.1 key.2 h
theorem unfold_short {s : Str} {rows : List Row} (h : unfoldS s = .ok rows) : rows.length <= 1000 /\ ∀ r ∈ rows,r.Text.length <= 5000 :=
 uGo_short _ _ _ _ _ (fun r hr=>by cases hr) (by simp) h
theorem ix_mem {α : Type} [Inhabited α] {l : List α} {x : Int} (h0 : 0 <= x) (h1 : x < l.length) : ix l x ∈ l:=by
 have : x.toNat < l.length:=by omega
 unfold ix
 rw [List.getD_eq_getElem?_getD,List.getElem?_eq_getElem this]
 exact List.getElem_mem this
theorem drop_ix {α : Type} [Inhabited α] {l : List α} {x : Int} (h0 : 0 <= x) (h1 : x < l.length) : l.drop x.toNat = ix l x :: l.drop (x + 1).toNat:=by
 have : x.toNat < l.length:=by omega
 rw [show (x + 1).toNat = x.toNat + 1 by omega]
 unfold ix
 rw [List.getD_eq_getElem?_getD,List.getElem?_eq_getElem this,Option.getD_some]
 exact List.drop_eq_getElem_cons this
section
variable (rows : List Row) (R : Except (Int × Int) (List Comp))
def InvC (x : Int) (out : List Comp) (st : List Frm) : Prop :=
 (0 <= x /\ x <= rows.length /\ (out.length : Int) <= x /\ ∀ f ∈ st,(f.1.Props.length : Int) <= x /\ (f.1.Comps.length : Int) <= x) /\ R = goC (rows.drop x.toNat) st out
variable {rows R} {x : Int} {out : List Comp} {st : List Frm} {c d : Comp} {b b' : Int}
theorem InvC.pp (h : InvC rows R x out st) (hx : x < rows.length) (hr : ∀ r ∈ rows,r.Text.length <= 5000) : (ix rows x).Text.length <= 5000 /\ (parseS (ix rows x).Text).1.Value.length <= 5000:=by
 have:=hr _ (ix_mem h.1.1 hx)
 exact ⟨this,(parse_small this).value⟩
theorem InvC.next (h : InvC rows R x out st) (hx : x < rows.length) : R = goC (ix rows x :: rows.drop (x + 1).toNat) st out:=by rw [<- drop_ix h.1.1 hx]; exact h.2
theorem InvC.bad (h : InvC rows R x out st) (hx : x < rows.length) (he : (parseS (ix rows x).Text).2 ≠ .nil) : [] = (cR R).1 /\ atE (ix rows x).At (parseS (ix rows x).Text).2 = cE R:=by
 obtain ⟨-, n,e1,-⟩:=parse_err he
 rw [h.next hx,goC,if_pos he,e1]
 exact ⟨rfl,rfl⟩
theorem InvC.stepE (h : InvC rows R x out st) (hx : x < rows.length) (ho : ¬ (parseS (ix rows x).Text).2 ≠ .nil) {n : Int} (hs : stepC st out (ix rows x).At (parseS (ix rows x).Text).1 = .error (n,(ix rows x).At)) : [] = (cR R).1 /\ atE (ix rows x).At (.no n) = cE R:=by
 rw [h.next hx,goC,if_neg ho,hs]
 exact ⟨rfl,rfl⟩
theorem InvC.stepO (h : InvC rows R x out st) (hx : x < rows.length) (ho : ¬ (parseS (ix rows x).Text).2 ≠ .nil) {st' : List Frm} {out' : List Comp} (hs : stepC st out (ix rows x).At (parseS (ix rows x).Text).1 = .ok (st',out'))
  (h1 : (out'.length : Int) <= x + 1) (h2 : ∀ f ∈ st',(f.1.Props.length : Int) <= x + 1 /\ (f.1.Comps.length : Int) <= x + 1) : InvC rows R (x + 1) out' st':=by
 have h0:=h.1.1
 refine ⟨⟨by omega,by omega,h1,h2⟩,?_⟩
 rw [h.next hx,goC,if_neg ho,hs]
theorem named_nil {p : Prp} : (namedS p).2 ≠ .nil ↔ nameP p = []:=by
 unfold namedS
 split
 . rename_i h; exact ⟨fun _=>h,fun _ h=>by cases h⟩
 . rename_i h; exact ⟨fun hh=>absurd rfl hh,fun hh=>absurd hh h⟩
theorem named_err {p : Prp} (h : (namedS p).2 ≠ .nil) : (namedS p).2 = .no 11:=by
 have:=named_nil.1 h
 unfold namedS; rw [if_pos this]
theorem named_fst {p : Prp} : (namedS p).1 = nameP p:=by
 unfold namedS
 split
 . rename_i h; exact h.symm
 . rfl
theorem InvC.fr (h : InvC rows R x out st) : ∀ f ∈ st,(f.1.Props.length : Int) <= x + 1 /\ (f.1.Comps.length : Int) <= x + 1:=fun f hf=>by
 have:=h.1.2.2.2 f hf; omega
theorem InvC.begE (h : InvC rows R x out st) (hx : x < rows.length) (ho : ¬ (parseS (ix rows x).Text).2 ≠ .nil) (hB : (parseS (ix rows x).Text).1.Name = sBEGIN) (hn : (namedS (parseS (ix rows x).Text).1).2 ≠ .nil) : [] = (cR R).1 /\ atE (ix rows x).At (namedS (parseS (ix rows x).Text).1).2 = cE R:=by
 rw [named_err hn]
 exact h.stepE hx ho (by unfold stepC; rw [if_pos hB,if_pos (named_nil.1 hn)])
theorem InvC.begD (h : InvC rows R x out st) (hx : x < rows.length) (ho : ¬ (parseS (ix rows x).Text).2 ≠ .nil) (hB : (parseS (ix rows x).Text).1.Name = sBEGIN) (hn : ¬ (namedS (parseS (ix rows x).Text).1).2 ≠ .nil) (hl : 6 <= st.length) : [] = (cR R).1 /\ atE (ix rows x).At (.no 12) = cE R :=
 h.stepE hx ho (by unfold stepC; rw [if_pos hB,if_neg (fun e=>hn (named_nil.2 e)),if_pos (by omega)])
theorem InvC.beg (h : InvC rows R x out st) (hx : x < rows.length) (ho : ¬ (parseS (ix rows x).Text).2 ≠ .nil) (hB : (parseS (ix rows x).Text).1.Name = sBEGIN) (hn : ¬ (namedS (parseS (ix rows x).Text).1).2 ≠ .nil) (hl : st.length < 6) :
  InvC rows R (x + 1) out ((.mk (namedS (parseS (ix rows x).Text).1).1 [] [],(ix rows x).At) :: st):=by
 have h0:=h.1.1; have h1:=h.1.2.2.1
 refine h.stepO hx ho (by unfold stepC; rw [if_pos hB,if_neg (fun e=>hn (named_nil.2 e)),if_neg (by omega),named_fst]) (by omega) fun f hf=>?_
 rcases List.mem_cons.1 hf with rfl | hf
 . show ((([] : List Prp).length : Int) <= x + 1) /\ ((([] : List Comp).length : Int) <= x + 1)
   simp only [List.length_nil]; omega
 . exact h.fr f hf
theorem InvC.none (h : InvC rows R x out []) (hx : x < rows.length) (ho : ¬ (parseS (ix rows x).Text).2 ≠ .nil) (hB : ¬ (parseS (ix rows x).Text).1.Name = sBEGIN) : [] = (cR R).1 /\ atE (ix rows x).At (.no 11) = cE R :=
 h.stepE hx ho (by unfold stepC; rw [if_neg hB])
theorem InvC.endE (h : InvC rows R x out st) (hx : x < rows.length) (ho : ¬ (parseS (ix rows x).Text).2 ≠ .nil) (hB : ¬ (parseS (ix rows x).Text).1.Name = sBEGIN) (hE : (parseS (ix rows x).Text).1.Name = sEND) (hn : (namedS (parseS (ix rows x).Text).1).2 ≠ .nil) : [] = (cR R).1 /\ atE (ix rows x).At (namedS (parseS (ix rows x).Text).1).2 = cE R:=by
 rw [named_err hn]
 refine h.stepE hx ho ?_
 unfold stepC
 rw [if_neg hB]
 cases st with
 | nil=>rfl
 | cons f st=>obtain ⟨c,b⟩:=f; simp only; rw [if_pos hE,if_pos (.inl (named_nil.1 hn))]
theorem InvC.endN (h : InvC rows R x out ((c,b) :: st)) (hx : x < rows.length) (ho : ¬ (parseS (ix rows x).Text).2 ≠ .nil) (hB : ¬ (parseS (ix rows x).Text).1.Name = sBEGIN) (hE : (parseS (ix rows x).Text).1.Name = sEND /\ c.Name ≠ (namedS (parseS (ix rows x).Text).1).1) : [] = (cR R).1 /\ atE (ix rows x).At (.no 11) = cE R:=by
 refine h.stepE hx ho ?_
 unfold stepC
 rw [if_neg hB]
 simp only
 rw [if_pos hE.1,if_pos (.inr fun e=>hE.2 (by rw [named_fst,e]))]
theorem InvC.prop (h : InvC rows R x out ((c,b) :: st)) (hx : x < rows.length) (ho : ¬ (parseS (ix rows x).Text).2 ≠ .nil) (hB : ¬ (parseS (ix rows x).Text).1.Name = sBEGIN) (hE : (parseS (ix rows x).Text).1.Name ≠ sEND) :
  InvC rows R (x + 1) out ((.mk c.Name (c.Props ++ [(parseS (ix rows x).Text).1]) c.Comps,b) :: st):=by
 have h0:=h.1.1; have h1:=h.1.2.2.1; have h2:=h.1.2.2.2 _ (List.mem_cons_self ..)
 refine h.stepO hx ho (by unfold stepC; rw [if_neg hB]; simp only; rw [if_neg hE]; rfl) (by omega) fun f hf=>?_
 rcases List.mem_cons.1 hf with rfl | hf
 . show (((c.Props ++ [_]).length : Int) <= x + 1) /\ ((c.Comps.length : Int) <= x + 1)
   simp only [List.length_append,List.length_cons,List.length_nil] at h2 ⊢; omega
 . exact h.fr f (List.mem_cons_of_mem _ hf)
theorem InvC.pop1 (h : InvC rows R x out [(c,b)]) (hx : x < rows.length) (ho : ¬ (parseS (ix rows x).Text).2 ≠ .nil) (hB : ¬ (parseS (ix rows x).Text).1.Name = sBEGIN) (hE : (parseS (ix rows x).Text).1.Name = sEND) (hn : ¬ (namedS (parseS (ix rows x).Text).1).2 ≠ .nil) (he : ¬ ((parseS (ix rows x).Text).1.Name = sEND /\ c.Name ≠ (namedS (parseS (ix rows x).Text).1).1)) :
  InvC rows R (x + 1) (out ++ [c]) []:=by
 have h0:=h.1.1; have h1:=h.1.2.2.1
 have hc : c.Name = nameP (parseS (ix rows x).Text).1:=Classical.byContradiction fun e=>he ⟨hE,by rw [named_fst]; exact e⟩
 refine h.stepO hx ho (by unfold stepC; rw [if_neg hB]; simp only; rw [if_pos hE,if_neg (fun hh=>by rcases hh with hh | hh; exact hn (named_nil.2 hh); exact hh hc.symm)]) (by simp only [List.length_append,List.length_cons,List.length_nil]; omega) fun f hf=>(by cases hf)
theorem InvC.pop (h : InvC rows R x out ((c,b) :: (d,b') :: st)) (hx : x < rows.length) (ho : ¬ (parseS (ix rows x).Text).2 ≠ .nil) (hB : ¬ (parseS (ix rows x).Text).1.Name = sBEGIN) (hE : (parseS (ix rows x).Text).1.Name = sEND) (hn : ¬ (namedS (parseS (ix rows x).Text).1).2 ≠ .nil) (he : ¬ ((parseS (ix rows x).Text).1.Name = sEND /\ c.Name ≠ (namedS (parseS (ix rows x).Text).1).1)) :
  InvC rows R (x + 1) out ((.mk d.Name d.Props (d.Comps ++ [c]),b') :: st):=by
 have h0:=h.1.1; have h1:=h.1.2.2.1; have h2:=h.1.2.2.2 _ (List.mem_cons_of_mem _ (List.mem_cons_self ..))
 have hc : c.Name = nameP (parseS (ix rows x).Text).1:=Classical.byContradiction fun e=>he ⟨hE,by rw [named_fst]; exact e⟩
 refine h.stepO hx ho (by unfold stepC; rw [if_neg hB]; simp only; rw [if_pos hE,if_neg (fun hh=>by rcases hh with hh | hh; exact hn (named_nil.2 hh); exact hh hc.symm)]; rfl) (by omega) fun f hf=>?_
 rcases List.mem_cons.1 hf with rfl | hf
 . show ((d.Props.length : Int) <= x + 1) /\ (((d.Comps ++ [c]).length : Int) <= x + 1)
   simp only [List.length_append,List.length_cons,List.length_nil] at h2 ⊢; omega
 . exact h.fr f (List.mem_cons_of_mem _ (List.mem_cons_of_mem _ hf))
theorem set_last {α : Type} {l : List α} {z c : α} : (l ++ [z]).set (l.length : Int).toNat c = l ++ [c]:=by
 rw [Int.toNat_natCast,List.set_append_right _ _ (Nat.le_refl _),Nat.sub_self]; rfl
theorem InvC.pop0 (h : InvC rows R x out ((c,b) :: (d,b') :: st)) (hx : x < rows.length) (ho : ¬ (parseS (ix rows x).Text).2 ≠ .nil) (hB : ¬ (parseS (ix rows x).Text).1.Name = sBEGIN) (hE : (parseS (ix rows x).Text).1.Name = sEND) (hn : ¬ (namedS (parseS (ix rows x).Text).1).2 ≠ .nil) (he : ¬ ((parseS (ix rows x).Text).1.Name = sEND /\ c.Name ≠ (namedS (parseS (ix rows x).Text).1).1)) :
  InvC rows R (x + 1) out ((.mk d.Name d.Props ((d.Comps ++ [Comp.mk [] [] []]).set (d.Comps.length : Int).toNat c),b') :: st):=by
 rw [set_last]; exact h.pop hx ho hB hE hn he
theorem InvC.fin0 (h : InvC rows R x out []) (hx : ¬ x < rows.length) : out = (cR R).1 /\ Err.nil = cE R:=by
 have h0:=h.1
 have e:=h.2
 rw [List.drop_eq_nil_of_le (by omega),goC] at e
 rw [e]; exact ⟨rfl,rfl⟩
theorem InvC.fin (h : InvC rows R x out ((c,b) :: st)) (hx : ¬ x < rows.length) : [] = (cR R).1 /\ atE b (.no 11) = cE R:=by
 have h0:=h.1
 have e:=h.2
 rw [List.drop_eq_nil_of_le (by omega),goC] at e
 rw [e]; exact ⟨rfl,rfl⟩
theorem InvC.less (h : InvC rows R x out st) (hx : x < rows.length) : ((rows.length : Int) - (x + 1)).toNat < ((rows.length : Int) - x).toNat:=by
 have:=h.1.1; omega
end
end Go.Co
end
section
namespace Go.Proofs.YtadgfmmmdhlljaaGreatDoor
open Go Go.Wk Go.Wl Go.Rx Go.Fo Go.Li Go.Co 
noncomputable def EW : Env:=(((((((N22.addC 25 c28).addL 49 c30).addL 34 c31).addL 50 c77).addC 35 c32).addL 51 c33).addL 74 cUp)
theorem EW_ok : EnvOK EW:=(((((((N22_ok.addC Tryz.call25 (fun a nx c h hp ho=>⟨fun ρ Z w vs h1 h2 _ h3=>(c28_ok a nx c h hp ho).run ρ Z w vs h1 h2 trivial h3⟩)).addL Tryz.call49 (fun a q h ho D w vs hD _ ha=>c30_ok a q h ho D w vs hD trivial ha)).addL Tryz.call34 (fun a q h ho D w vs hD _ ha=>c31_ok a q h ho D w vs hD trivial ha)).addL Tryz.call50 (fun a q h ho D w vs hD _ ha=>c77_ok a q h ho D w vs hD trivial ha)).addC Tryz.call35 (fun a nx c h hp ho=>⟨fun ρ Z w vs h1 h2 _ h3=>(c32_ok a nx c h hp ho).run ρ Z w vs h1 h2 trivial h3⟩)).addL Tryz.call51 (fun a q h ho D w vs hD _ ha=>c33_ok a q h ho D w vs hD trivial ha)).addL Tryz.call74 (fun a q h _ D w vs hD _ ha=>cUp_of up_ok a q h D w vs ha))
def an84 : Nat -> Ann:=fun | 26=>⟨15,fun _=>none,fun  | _=>none⟩ | _=>⟨0,fun _=>none,fun _=>none⟩
def V84 (a : Int) (e : Err) (Q : Err -> Prop) : Prop :=
(e.num.isSome = true -> Q (Err.fault a (e.num.getD (0 : Int)))) /\ (¬e.num.isSome = true -> Q e)
theorem V84_ok {a : Int} {e : Err} {Q : Err -> Prop} (h : V84 a e Q) : vcFun (E:=EW) (inlN an84 2) (an84 26) Tryz.f26 [.int .i64 a,.err e] [] [] 0 (resP EW [.err] Q):=Eq.mp (show V84 a e Q = vcFun (E:=EW) (inlN an84 2) (an84 26) Tryz.f26 [.int .i64 a,.err e] [] [] 0 (resP EW [.err] Q) by kernel_rfl) h
theorem p84 (a : Int) (e : Err)  : V84 a e (fun y0=>y0 = atE a e):=by
 unfold V84 atE
 refine ⟨fun h=>?_,fun h=>?_⟩
 . cases hn : e.num with
   | none=>rw [hn] at h; cases h
   | some n=>rfl
 . cases hn : e.num with
   | none=>rfl
   | some n=>rw [hn] at h; exact absurd rfl h
def c84 (a : List (SV U)) (nx : Nat) : Option (CR U):=match a with | [.int .i64 a,.err e]=>some ⟨[],[],.err (atE a e),[]⟩ | _=>none
theorem c84_ok (args : List (SV U)) (nx : Nat) (c : CR U) (h : c84 args nx = some c) (hp : args.all pureS = true) (ho : allP c.ob) : ConOK EW.P EW.N EW.T EW.G 26 args nx c:=by
 unfold c84 at h
 split at h
 . rename_i a e
   cases h
   exact con1 EW_ok (inlN_ok EW_ok an84 2) Tryz.func26 (k:=.err) (x:=atE a e) hp (V84_ok (p84 a e ))
 . cases h
noncomputable def N84 : Env:=EW.addC 26 c84
theorem N84_ok : EnvOK N84:=EW_ok.addC Tryz.call26 c84_ok
def an85 : Nat -> Ann:=fun | 27=>⟨45,fun _=>none,fun  | _=>none⟩ | _=>⟨0,fun _=>none,fun _=>none⟩
def V85 (p : Prp) (Q : Str -> Err -> Prop) : Prop :=
List.length p.Value + ([58] : List UInt8).length <= 9223372036854775807 /\ List.length (p.Value ++ ([58] : List UInt8)) <= 100000000 /\ ((((((parseS (p.Value ++ ([58] : List UInt8))).snd ≠ Err.nil ∨ p.Group ≠ []) ∨ (0 : Int) < (↑p.Params.length : Int)) ∨ (parseS (p.Value ++ ([58] : List UInt8))).fst.Group ≠ []) ∨ (0 : Int) < (↑(parseS (p.Value ++ ([58] : List UInt8))).fst.Params.length : Int)) ∨ (parseS (p.Value ++ ([58] : List UInt8))).fst.Value ≠ [] -> Q [] (Err.no (11 : Int))) /\ (¬((((((parseS (p.Value ++ ([58] : List UInt8))).snd ≠ Err.nil ∨ p.Group ≠ []) ∨ (0 : Int) < (↑p.Params.length : Int)) ∨ (parseS (p.Value ++ ([58] : List UInt8))).fst.Group ≠ []) ∨ (0 : Int) < (↑(parseS (p.Value ++ ([58] : List UInt8))).fst.Params.length : Int)) ∨ (parseS (p.Value ++ ([58] : List UInt8))).fst.Value ≠ []) -> Q (parseS (p.Value ++ ([58] : List UInt8))).fst.Name Err.nil)
theorem V85_ok {p : Prp} {Q : Str -> Err -> Prop} (h : V85 p Q) : vcFun (E:=N84) (inlN an85 2) (an85 27) Tryz.f27 [.agg [.str p.Group,.str p.Name,.sl (N:=U) 110 p.Params,.str p.Value]] [] [] 0 (resP N84 [.str,.err] Q):=Eq.mp (show V85 p Q = vcFun (E:=N84) (inlN an85 2) (an85 27) Tryz.f27 [.agg [.str p.Group,.str p.Name,.sl (N:=U) 110 p.Params,.str p.Value]] [] [] 0 (resP N84 [.str,.err] Q) by kernel_rfl) h
theorem p85 (p : Prp) (hs : p.Value.length <= 10000000) : V85 p (fun y0 y1=>y0 = (namedS p).1 /\ y1 = (namedS p).2):=by
 unfold V85
 refine ⟨by simp; omega,by rw [List.length_append]; simp; omega,?_⟩
 have hl : ∀ l : List Param,(0 : Int) < (l.length : Int) ↔ l ≠ []:=fun l=>by cases l <;> simp
 rcases named_ok p with ⟨h,e⟩ | ⟨h,e⟩
 . refine ⟨fun _=>by rw [e]; exact ⟨rfl,rfl⟩,fun hn=>absurd ?_ hn⟩
   simp only [hl]
   simp only [or_assoc]; exact h
 . refine ⟨fun hh=>?_,fun _=>by rw [e]; exact ⟨rfl,rfl⟩⟩
   simp only [hl] at hh
   obtain ⟨h1,h2,h3,h4,h5,h6⟩:=h
   rcases hh with ((((hh | hh) | hh) | hh) | hh) | hh
   . exact absurd h1 hh
   . exact absurd h2 hh
   . exact absurd h3 hh
   . exact absurd h4 hh
   . exact absurd h5 hh
   . exact absurd h6 hh
def c85s (p : Prp) (nx : Nat) : CR U:=⟨[List.length (α:=UInt8) p.Value <= 10000000],[],.tup [.str ((namedS p).1),.err ((namedS p).2)],[]⟩
def c85 (a : List (SV U)) (nx : Nat) : Option (CR U):=match a with | [.agg [.str p0,.str p1,.sl 110 p2,.str p3]]=>some (c85s (⟨p0,p1,p2,p3⟩) nx) | _=>none
theorem c85_ok (args : List (SV U)) (nx : Nat) (c : CR U) (h : c85 args nx = some c) (hp : args.all pureS = true) (ho : allP c.ob) : ConOK N84.P N84.N N84.T N84.G 27 args nx c:=by
 unfold c85 at h
 split at h
 . rename_i p0 p1 p2 p3
   cases h
   exact con2 N84_ok (inlN_ok N84_ok an85 2) Tryz.func27 (k1:=.str) (k2:=.err) rfl hp (V85_ok (p85 (⟨p0,p1,p2,p3⟩) ho.1))
 . cases h
noncomputable def N85 : Env:=N84.addC 27 c85
theorem N85_ok : EnvOK N85:=N84_ok.addC Tryz.call27 c85_ok
noncomputable def NI28 : Env:=N85.addI 28 Tryz.f28
theorem NI28_ok : EnvOK NI28:=N85_ok.addI Tryz.call28 Tryz.func28
def an39 : Nat -> Ann:=fun | 11=>⟨177,fun | 7=>some ⟨[21,22],[.slot 23 (.int .i64),.slot 6 (.acc 40),.chain 7 0 64 [.str,.acc 58,.acc 40,.int .i64],.alt,.slot 23 (.int .i64),.slot 6 (.acc 40),.chain 7 1 64 [.str,.acc 58,.acc 40,.int .i64],.alt,.slot 23 (.int .i64),.slot 6 (.acc 40),.chain 7 2 64 [.str,.acc 58,.acc 40,.int .i64],.alt,.slot 23 (.int .i64),.slot 6 (.acc 40),.chain 7 3 64 [.str,.acc 58,.acc 40,.int .i64],.alt,.slot 23 (.int .i64),.slot 6 (.acc 40),.chain 7 4 64 [.str,.acc 58,.acc 40,.int .i64],.alt,.slot 23 (.int .i64),.slot 6 (.acc 40),.chain 7 5 64 [.str,.acc 58,.acc 40,.int .i64],.alt,.slot 23 (.int .i64),.slot 6 (.acc 40),.chain 7 6 64 [.str,.acc 58,.acc 40,.int .i64]]⟩ | _=>none,fun _=>none⟩ | 28=>⟨13,fun | 2=>some ⟨[],[.unr 8]⟩ | _=>none,fun _=>none⟩ | _=>⟨0,fun _=>none,fun _=>none⟩
def q390 (s : Str) (x : Int):=parseS (ix (uR (unfoldS s)).fst x).Text
def q391 (s : Str) (x : Int):=namedS (Prp.mk (q390 s x).fst.Group (q390 s x).fst.Name (q390 s x).fst.Params (q390 s x).fst.Value)
def q392 (x_3 : List Prp) (s : Str) (x : Int):=x_3 ++ [Prp.mk (q390 s x).fst.Group (q390 s x).fst.Name (q390 s x).fst.Params (q390 s x).fst.Value]
def q393 (x_3 : List Prp) (s : Str) (x : Int):=x_3.length + [Prp.mk (q390 s x).fst.Group (q390 s x).fst.Name (q390 s x).fst.Params (q390 s x).fst.Value].length
def q394 (s : Str) (x : Int):=ix (uR (unfoldS s)).fst x
def q395 (x_8 : List Comp):=x_8 ++ [Comp.mk [] [] []]
def q396 (s : Str) (x : Int):=atE (q394 s x).At (Err.no (11 : Int))
def q397 (x_8 : List Comp):=x_8.length + [Comp.mk [] [] []].length
def V39 (s : Str) (Q : List Comp -> Err -> Prop) : Prop :=
List.length s <= 30000000 /\ (uE (unfoldS s) ≠ Err.nil -> Q [] (uE (unfoldS s))) /\ (¬uE (unfoldS s) ≠ Err.nil -> ∃ (I : Int -> List Comp -> Prop),∃ (m : Int -> List Comp -> Nat),∃ (I_1 : Int -> List Comp -> List UInt8 -> List Prp -> List Comp -> Int -> Prop),∃ (m_1 : Int -> List Comp -> List UInt8 -> List Prp -> List Comp -> Int -> Nat),∃ (I_2 : Int -> List Comp -> List UInt8 -> List Prp -> List Comp -> Int -> List UInt8 -> List Prp -> List Comp -> Int -> Prop),∃ (m_2 : Int -> List Comp -> List UInt8 -> List Prp -> List Comp -> Int -> List UInt8 -> List Prp -> List Comp -> Int -> Nat),∃ (I_3 : Int -> List Comp -> List UInt8 -> List Prp -> List Comp -> Int -> List UInt8 -> List Prp -> List Comp -> Int -> List UInt8 -> List Prp -> List Comp -> Int -> Prop),∃ (m_3 : Int -> List Comp -> List UInt8 -> List Prp -> List Comp -> Int -> List UInt8 -> List Prp -> List Comp -> Int -> List UInt8 -> List Prp -> List Comp -> Int -> Nat),∃ (I_4 : Int -> List Comp -> List UInt8 -> List Prp -> List Comp -> Int -> List UInt8 -> List Prp -> List Comp -> Int -> List UInt8 -> List Prp -> List Comp -> Int -> List UInt8 -> List Prp -> List Comp -> Int -> Prop),∃ (m_4 : Int -> List Comp -> List UInt8 -> List Prp -> List Comp -> Int -> List UInt8 -> List Prp -> List Comp -> Int -> List UInt8 -> List Prp -> List Comp -> Int -> List UInt8 -> List Prp -> List Comp -> Int -> Nat),∃ (I_5 : Int -> List Comp -> List UInt8 -> List Prp -> List Comp -> Int -> List UInt8 -> List Prp -> List Comp -> Int -> List UInt8 -> List Prp -> List Comp -> Int -> List UInt8 -> List Prp -> List Comp -> Int -> List UInt8 -> List Prp -> List Comp -> Int -> Prop),∃ (m_5 : Int -> List Comp -> List UInt8 -> List Prp -> List Comp -> Int -> List UInt8 -> List Prp -> List Comp -> Int -> List UInt8 -> List Prp -> List Comp -> Int -> List UInt8 -> List Prp -> List Comp -> Int -> List UInt8 -> List Prp -> List Comp -> Int -> Nat),∃ (I_6 : Int -> List Comp -> List UInt8 -> List Prp -> List Comp -> Int -> List UInt8 -> List Prp -> List Comp -> Int -> List UInt8 -> List Prp -> List Comp -> Int -> List UInt8 -> List Prp -> List Comp -> Int -> List UInt8 -> List Prp -> List Comp -> Int -> List UInt8 -> List Prp -> List Comp -> Int -> Prop),∃ (m_6 : Int -> List Comp -> List UInt8 -> List Prp -> List Comp -> Int -> List UInt8 -> List Prp -> List Comp -> Int -> List UInt8 -> List Prp -> List Comp -> Int -> List UInt8 -> List Prp -> List Comp -> Int -> List UInt8 -> List Prp -> List Comp -> Int -> List UInt8 -> List Prp -> List Comp -> Int -> Nat),I (0 : Int) [] /\ (∀ (x : Int) (x_1 : List Comp),I x x_1 -> (x < (↑(uR (unfoldS s)).fst.length : Int) -> (0 : Int) <= x /\ x < (↑(uR (unfoldS s)).fst.length : Int) /\ (in64 (q394 s x).At -> List.length (q394 s x).Text <= 100000000 /\ ((q390 s x).snd ≠ Err.nil -> Q [] (atE (q394 s x).At (q390 s x).snd)) /\ (¬(q390 s x).snd ≠ Err.nil -> ((q390 s x).fst.Name = sBEGIN -> ((q390 s x).fst.Name = sBEGIN -> List.length (q390 s x).fst.Value <= 10000000 /\ ((q391 s x).snd ≠ Err.nil -> Q [] (atE (q394 s x).At (q391 s x).snd)) /\ (¬(q391 s x).snd ≠ Err.nil -> ((q390 s x).fst.Name = sBEGIN -> in64 ((0 : Int) + 1) /\ ((6 : Int) < (0 : Int) + 1 -> Q [] (atE (q394 s x).At (Err.no (12 : Int)))) /\ (¬(6 : Int) < (0 : Int) + 1 -> in64 (x + 1) /\ I_1 (x + 1) x_1 (q391 s x).fst [] [] (q394 s x).At /\ m_1 (x + 1) x_1 (q391 s x).fst [] [] (q394 s x).At < m x x_1)) /\ (¬(q390 s x).fst.Name = sBEGIN -> Q [] (q396 s x)))) /\ (¬(q390 s x).fst.Name = sBEGIN -> Q [] (q396 s x))) /\ (¬(q390 s x).fst.Name = sBEGIN -> ((q390 s x).fst.Name = sEND -> List.length (q390 s x).fst.Value <= 10000000 /\ ((q391 s x).snd ≠ Err.nil -> Q [] (atE (q394 s x).At (q391 s x).snd)) /\ (¬(q391 s x).snd ≠ Err.nil -> ((q390 s x).fst.Name = sBEGIN -> in64 ((0 : Int) + 1) /\ ((6 : Int) < (0 : Int) + 1 -> Q [] (atE (q394 s x).At (Err.no (12 : Int)))) /\ (¬(6 : Int) < (0 : Int) + 1 -> in64 (x + 1) /\ I_1 (x + 1) x_1 (q391 s x).fst [] [] (q394 s x).At /\ m_1 (x + 1) x_1 (q391 s x).fst [] [] (q394 s x).At < m x x_1)) /\ (¬(q390 s x).fst.Name = sBEGIN -> Q [] (q396 s x)))) /\ (¬(q390 s x).fst.Name = sEND -> Q [] (q396 s x)))))) /\ (¬x < (↑(uR (unfoldS s)).fst.length : Int) -> Q x_1 Err.nil)) /\ (∀ (x : Int) (x_1 : List Comp) (x_2 : List UInt8) (x_3 : List Prp) (x_4 : List Comp) (x_5 : Int),I_1 x x_1 x_2 x_3 x_4 x_5 -> (x < (↑(uR (unfoldS s)).fst.length : Int) -> (0 : Int) <= x /\ x < (↑(uR (unfoldS s)).fst.length : Int) /\ (in64 (q394 s x).At -> List.length (q394 s x).Text <= 100000000 /\ ((q390 s x).snd ≠ Err.nil -> Q [] (atE (q394 s x).At (q390 s x).snd)) /\ (¬(q390 s x).snd ≠ Err.nil -> ((q390 s x).fst.Name = sBEGIN -> ((q390 s x).fst.Name = sBEGIN -> List.length (q390 s x).fst.Value <= 10000000 /\ ((q391 s x).snd ≠ Err.nil -> Q [] (atE (q394 s x).At (q391 s x).snd)) /\ (¬(q391 s x).snd ≠ Err.nil -> ((q390 s x).fst.Name = sBEGIN -> in64 ((0 : Int) + 1) /\ in64 ((0 : Int) + 1 + 1) /\ ((6 : Int) < (0 : Int) + 1 + 1 -> Q [] (atE (q394 s x).At (Err.no (12 : Int)))) /\ (¬(6 : Int) < (0 : Int) + 1 + 1 -> in64 (x + 1) /\ I_2 (x + 1) x_1 (q391 s x).fst [] [] (q394 s x).At x_2 x_3 x_4 x_5 /\ m_2 (x + 1) x_1 (q391 s x).fst [] [] (q394 s x).At x_2 x_3 x_4 x_5 < m_1 x x_1 x_2 x_3 x_4 x_5)) /\ (¬(q390 s x).fst.Name = sBEGIN -> ((q390 s x).fst.Name = sEND /\ x_2 ≠ (q391 s x).fst -> Q [] (q396 s x)) /\ (¬((q390 s x).fst.Name = sEND /\ x_2 ≠ (q391 s x).fst) -> ((q390 s x).fst.Name ≠ sEND -> (q393 x_3 s x) * (some (72 : Nat)).getD (0 : Nat) <= 140737488355328 /\ in64 (x + 1) /\ I_1 (x + 1) x_1 x_2 (q392 x_3 s x) x_4 x_5 /\ m_1 (x + 1) x_1 x_2 (q392 x_3 s x) x_4 x_5 < m_1 x x_1 x_2 x_3 x_4 x_5) /\ (¬(q390 s x).fst.Name ≠ sEND -> (x_1.length + [Comp.mk x_2 x_3 x_4].length) * (some (64 : Nat)).getD (0 : Nat) <= 140737488355328 /\ in64 (x + 1) /\ I (x + 1) (x_1 ++ [Comp.mk x_2 x_3 x_4]) /\ m (x + 1) (x_1 ++ [Comp.mk x_2 x_3 x_4]) < m_1 x x_1 x_2 x_3 x_4 x_5))))) /\ (¬(q390 s x).fst.Name = sBEGIN -> ((q390 s x).fst.Name = sEND /\ x_2 ≠ [] -> Q [] (q396 s x)) /\ (¬((q390 s x).fst.Name = sEND /\ x_2 ≠ []) -> ((q390 s x).fst.Name ≠ sEND -> (q393 x_3 s x) * (some (72 : Nat)).getD (0 : Nat) <= 140737488355328 /\ in64 (x + 1) /\ I_1 (x + 1) x_1 x_2 (q392 x_3 s x) x_4 x_5 /\ m_1 (x + 1) x_1 x_2 (q392 x_3 s x) x_4 x_5 < m_1 x x_1 x_2 x_3 x_4 x_5) /\ (¬(q390 s x).fst.Name ≠ sEND -> (x_1.length + [Comp.mk x_2 x_3 x_4].length) * (some (64 : Nat)).getD (0 : Nat) <= 140737488355328 /\ in64 (x + 1) /\ I (x + 1) (x_1 ++ [Comp.mk x_2 x_3 x_4]) /\ m (x + 1) (x_1 ++ [Comp.mk x_2 x_3 x_4]) < m_1 x x_1 x_2 x_3 x_4 x_5)))) /\ (¬(q390 s x).fst.Name = sBEGIN -> ((q390 s x).fst.Name = sEND -> List.length (q390 s x).fst.Value <= 10000000 /\ ((q391 s x).snd ≠ Err.nil -> Q [] (atE (q394 s x).At (q391 s x).snd)) /\ (¬(q391 s x).snd ≠ Err.nil -> ((q390 s x).fst.Name = sBEGIN -> in64 ((0 : Int) + 1) /\ in64 ((0 : Int) + 1 + 1) /\ ((6 : Int) < (0 : Int) + 1 + 1 -> Q [] (atE (q394 s x).At (Err.no (12 : Int)))) /\ (¬(6 : Int) < (0 : Int) + 1 + 1 -> in64 (x + 1) /\ I_2 (x + 1) x_1 (q391 s x).fst [] [] (q394 s x).At x_2 x_3 x_4 x_5 /\ m_2 (x + 1) x_1 (q391 s x).fst [] [] (q394 s x).At x_2 x_3 x_4 x_5 < m_1 x x_1 x_2 x_3 x_4 x_5)) /\ (¬(q390 s x).fst.Name = sBEGIN -> ((q390 s x).fst.Name = sEND /\ x_2 ≠ (q391 s x).fst -> Q [] (q396 s x)) /\ (¬((q390 s x).fst.Name = sEND /\ x_2 ≠ (q391 s x).fst) -> ((q390 s x).fst.Name ≠ sEND -> (q393 x_3 s x) * (some (72 : Nat)).getD (0 : Nat) <= 140737488355328 /\ in64 (x + 1) /\ I_1 (x + 1) x_1 x_2 (q392 x_3 s x) x_4 x_5 /\ m_1 (x + 1) x_1 x_2 (q392 x_3 s x) x_4 x_5 < m_1 x x_1 x_2 x_3 x_4 x_5) /\ (¬(q390 s x).fst.Name ≠ sEND -> (x_1.length + [Comp.mk x_2 x_3 x_4].length) * (some (64 : Nat)).getD (0 : Nat) <= 140737488355328 /\ in64 (x + 1) /\ I (x + 1) (x_1 ++ [Comp.mk x_2 x_3 x_4]) /\ m (x + 1) (x_1 ++ [Comp.mk x_2 x_3 x_4]) < m_1 x x_1 x_2 x_3 x_4 x_5))))) /\ (¬(q390 s x).fst.Name = sEND -> ((q390 s x).fst.Name = sEND /\ x_2 ≠ [] -> Q [] (q396 s x)) /\ (¬((q390 s x).fst.Name = sEND /\ x_2 ≠ []) -> ((q390 s x).fst.Name ≠ sEND -> (q393 x_3 s x) * (some (72 : Nat)).getD (0 : Nat) <= 140737488355328 /\ in64 (x + 1) /\ I_1 (x + 1) x_1 x_2 (q392 x_3 s x) x_4 x_5 /\ m_1 (x + 1) x_1 x_2 (q392 x_3 s x) x_4 x_5 < m_1 x x_1 x_2 x_3 x_4 x_5) /\ (¬(q390 s x).fst.Name ≠ sEND -> (x_1.length + [Comp.mk x_2 x_3 x_4].length) * (some (64 : Nat)).getD (0 : Nat) <= 140737488355328 /\ in64 (x + 1) /\ I (x + 1) (x_1 ++ [Comp.mk x_2 x_3 x_4]) /\ m (x + 1) (x_1 ++ [Comp.mk x_2 x_3 x_4]) < m_1 x x_1 x_2 x_3 x_4 x_5))))))) /\ (¬x < (↑(uR (unfoldS s)).fst.length : Int) -> Q [] (atE x_5 (Err.no (11 : Int))))) /\ (∀ (x : Int) (x_1 : List Comp) (x_2 : List UInt8) (x_3 : List Prp) (x_4 : List Comp) (x_5 : Int) (x_6 : List UInt8) (x_7 : List Prp) (x_8 : List Comp) (x_9 : Int),I_2 x x_1 x_2 x_3 x_4 x_5 x_6 x_7 x_8 x_9 -> (x < (↑(uR (unfoldS s)).fst.length : Int) -> (0 : Int) <= x /\ x < (↑(uR (unfoldS s)).fst.length : Int) /\ (in64 (q394 s x).At -> List.length (q394 s x).Text <= 100000000 /\ ((q390 s x).snd ≠ Err.nil -> Q [] (atE (q394 s x).At (q390 s x).snd)) /\ (¬(q390 s x).snd ≠ Err.nil -> ((q390 s x).fst.Name = sBEGIN -> ((q390 s x).fst.Name = sBEGIN -> List.length (q390 s x).fst.Value <= 10000000 /\ ((q391 s x).snd ≠ Err.nil -> Q [] (atE (q394 s x).At (q391 s x).snd)) /\ (¬(q391 s x).snd ≠ Err.nil -> ((q390 s x).fst.Name = sBEGIN -> in64 ((0 : Int) + 1) /\ in64 ((0 : Int) + 1 + 1) /\ in64 ((0 : Int) + 1 + 1 + 1) /\ ((6 : Int) < (0 : Int) + 1 + 1 + 1 -> Q [] (atE (q394 s x).At (Err.no (12 : Int)))) /\ (¬(6 : Int) < (0 : Int) + 1 + 1 + 1 -> in64 (x + 1) /\ I_3 (x + 1) x_1 (q391 s x).fst [] [] (q394 s x).At x_2 x_3 x_4 x_5 x_6 x_7 x_8 x_9 /\ m_3 (x + 1) x_1 (q391 s x).fst [] [] (q394 s x).At x_2 x_3 x_4 x_5 x_6 x_7 x_8 x_9 < m_2 x x_1 x_2 x_3 x_4 x_5 x_6 x_7 x_8 x_9)) /\ (¬(q390 s x).fst.Name = sBEGIN -> ((q390 s x).fst.Name = sEND /\ x_2 ≠ (q391 s x).fst -> Q [] (q396 s x)) /\ (¬((q390 s x).fst.Name = sEND /\ x_2 ≠ (q391 s x).fst) -> ((q390 s x).fst.Name ≠ sEND -> (q393 x_3 s x) * (some (72 : Nat)).getD (0 : Nat) <= 140737488355328 /\ in64 (x + 1) /\ I_2 (x + 1) x_1 x_2 (q392 x_3 s x) x_4 x_5 x_6 x_7 x_8 x_9 /\ m_2 (x + 1) x_1 x_2 (q392 x_3 s x) x_4 x_5 x_6 x_7 x_8 x_9 < m_2 x x_1 x_2 x_3 x_4 x_5 x_6 x_7 x_8 x_9) /\ (¬(q390 s x).fst.Name ≠ sEND -> ((q397 x_8) * (some (64 : Nat)).getD (0 : Nat) <= 140737488355328 /\ (0 : Int) <= (↑x_8.length : Int) /\ (↑x_8.length : Int) < (↑(q395 x_8).length : Int) /\ in64 (x + 1) /\ I_1 (x + 1) x_1 x_6 x_7 ((q395 x_8).set (↑x_8.length : Int).toNat (Comp.mk x_2 x_3 x_4)) x_9 /\ m_1 (x + 1) x_1 x_6 x_7 ((q395 x_8).set (↑x_8.length : Int).toNat (Comp.mk x_2 x_3 x_4)) x_9 < m_2 x x_1 x_2 x_3 x_4 x_5 x_6 x_7 x_8 x_9) /\ (x_8.length + [Comp.mk x_2 x_3 x_4].length) * (some (64 : Nat)).getD (0 : Nat) <= 140737488355328 /\ in64 (x + 1) /\ I_1 (x + 1) x_1 x_6 x_7 (x_8 ++ [Comp.mk x_2 x_3 x_4]) x_9 /\ m_1 (x + 1) x_1 x_6 x_7 (x_8 ++ [Comp.mk x_2 x_3 x_4]) x_9 < m_2 x x_1 x_2 x_3 x_4 x_5 x_6 x_7 x_8 x_9))))) /\ (¬(q390 s x).fst.Name = sBEGIN -> ((q390 s x).fst.Name = sEND /\ x_2 ≠ [] -> Q [] (q396 s x)) /\ (¬((q390 s x).fst.Name = sEND /\ x_2 ≠ []) -> ((q390 s x).fst.Name ≠ sEND -> (q393 x_3 s x) * (some (72 : Nat)).getD (0 : Nat) <= 140737488355328 /\ in64 (x + 1) /\ I_2 (x + 1) x_1 x_2 (q392 x_3 s x) x_4 x_5 x_6 x_7 x_8 x_9 /\ m_2 (x + 1) x_1 x_2 (q392 x_3 s x) x_4 x_5 x_6 x_7 x_8 x_9 < m_2 x x_1 x_2 x_3 x_4 x_5 x_6 x_7 x_8 x_9) /\ (¬(q390 s x).fst.Name ≠ sEND -> ((q397 x_8) * (some (64 : Nat)).getD (0 : Nat) <= 140737488355328 /\ (0 : Int) <= (↑x_8.length : Int) /\ (↑x_8.length : Int) < (↑(q395 x_8).length : Int) /\ in64 (x + 1) /\ I_1 (x + 1) x_1 x_6 x_7 ((q395 x_8).set (↑x_8.length : Int).toNat (Comp.mk x_2 x_3 x_4)) x_9 /\ m_1 (x + 1) x_1 x_6 x_7 ((q395 x_8).set (↑x_8.length : Int).toNat (Comp.mk x_2 x_3 x_4)) x_9 < m_2 x x_1 x_2 x_3 x_4 x_5 x_6 x_7 x_8 x_9) /\ (x_8.length + [Comp.mk x_2 x_3 x_4].length) * (some (64 : Nat)).getD (0 : Nat) <= 140737488355328 /\ in64 (x + 1) /\ I_1 (x + 1) x_1 x_6 x_7 (x_8 ++ [Comp.mk x_2 x_3 x_4]) x_9 /\ m_1 (x + 1) x_1 x_6 x_7 (x_8 ++ [Comp.mk x_2 x_3 x_4]) x_9 < m_2 x x_1 x_2 x_3 x_4 x_5 x_6 x_7 x_8 x_9)))) /\ (¬(q390 s x).fst.Name = sBEGIN -> ((q390 s x).fst.Name = sEND -> List.length (q390 s x).fst.Value <= 10000000 /\ ((q391 s x).snd ≠ Err.nil -> Q [] (atE (q394 s x).At (q391 s x).snd)) /\ (¬(q391 s x).snd ≠ Err.nil -> ((q390 s x).fst.Name = sBEGIN -> in64 ((0 : Int) + 1) /\ in64 ((0 : Int) + 1 + 1) /\ in64 ((0 : Int) + 1 + 1 + 1) /\ ((6 : Int) < (0 : Int) + 1 + 1 + 1 -> Q [] (atE (q394 s x).At (Err.no (12 : Int)))) /\ (¬(6 : Int) < (0 : Int) + 1 + 1 + 1 -> in64 (x + 1) /\ I_3 (x + 1) x_1 (q391 s x).fst [] [] (q394 s x).At x_2 x_3 x_4 x_5 x_6 x_7 x_8 x_9 /\ m_3 (x + 1) x_1 (q391 s x).fst [] [] (q394 s x).At x_2 x_3 x_4 x_5 x_6 x_7 x_8 x_9 < m_2 x x_1 x_2 x_3 x_4 x_5 x_6 x_7 x_8 x_9)) /\ (¬(q390 s x).fst.Name = sBEGIN -> ((q390 s x).fst.Name = sEND /\ x_2 ≠ (q391 s x).fst -> Q [] (q396 s x)) /\ (¬((q390 s x).fst.Name = sEND /\ x_2 ≠ (q391 s x).fst) -> ((q390 s x).fst.Name ≠ sEND -> (q393 x_3 s x) * (some (72 : Nat)).getD (0 : Nat) <= 140737488355328 /\ in64 (x + 1) /\ I_2 (x + 1) x_1 x_2 (q392 x_3 s x) x_4 x_5 x_6 x_7 x_8 x_9 /\ m_2 (x + 1) x_1 x_2 (q392 x_3 s x) x_4 x_5 x_6 x_7 x_8 x_9 < m_2 x x_1 x_2 x_3 x_4 x_5 x_6 x_7 x_8 x_9) /\ (¬(q390 s x).fst.Name ≠ sEND -> ((q397 x_8) * (some (64 : Nat)).getD (0 : Nat) <= 140737488355328 /\ (0 : Int) <= (↑x_8.length : Int) /\ (↑x_8.length : Int) < (↑(q395 x_8).length : Int) /\ in64 (x + 1) /\ I_1 (x + 1) x_1 x_6 x_7 ((q395 x_8).set (↑x_8.length : Int).toNat (Comp.mk x_2 x_3 x_4)) x_9 /\ m_1 (x + 1) x_1 x_6 x_7 ((q395 x_8).set (↑x_8.length : Int).toNat (Comp.mk x_2 x_3 x_4)) x_9 < m_2 x x_1 x_2 x_3 x_4 x_5 x_6 x_7 x_8 x_9) /\ (x_8.length + [Comp.mk x_2 x_3 x_4].length) * (some (64 : Nat)).getD (0 : Nat) <= 140737488355328 /\ in64 (x + 1) /\ I_1 (x + 1) x_1 x_6 x_7 (x_8 ++ [Comp.mk x_2 x_3 x_4]) x_9 /\ m_1 (x + 1) x_1 x_6 x_7 (x_8 ++ [Comp.mk x_2 x_3 x_4]) x_9 < m_2 x x_1 x_2 x_3 x_4 x_5 x_6 x_7 x_8 x_9))))) /\ (¬(q390 s x).fst.Name = sEND -> ((q390 s x).fst.Name = sEND /\ x_2 ≠ [] -> Q [] (q396 s x)) /\ (¬((q390 s x).fst.Name = sEND /\ x_2 ≠ []) -> ((q390 s x).fst.Name ≠ sEND -> (q393 x_3 s x) * (some (72 : Nat)).getD (0 : Nat) <= 140737488355328 /\ in64 (x + 1) /\ I_2 (x + 1) x_1 x_2 (q392 x_3 s x) x_4 x_5 x_6 x_7 x_8 x_9 /\ m_2 (x + 1) x_1 x_2 (q392 x_3 s x) x_4 x_5 x_6 x_7 x_8 x_9 < m_2 x x_1 x_2 x_3 x_4 x_5 x_6 x_7 x_8 x_9) /\ (¬(q390 s x).fst.Name ≠ sEND -> ((q397 x_8) * (some (64 : Nat)).getD (0 : Nat) <= 140737488355328 /\ (0 : Int) <= (↑x_8.length : Int) /\ (↑x_8.length : Int) < (↑(q395 x_8).length : Int) /\ in64 (x + 1) /\ I_1 (x + 1) x_1 x_6 x_7 ((q395 x_8).set (↑x_8.length : Int).toNat (Comp.mk x_2 x_3 x_4)) x_9 /\ m_1 (x + 1) x_1 x_6 x_7 ((q395 x_8).set (↑x_8.length : Int).toNat (Comp.mk x_2 x_3 x_4)) x_9 < m_2 x x_1 x_2 x_3 x_4 x_5 x_6 x_7 x_8 x_9) /\ (x_8.length + [Comp.mk x_2 x_3 x_4].length) * (some (64 : Nat)).getD (0 : Nat) <= 140737488355328 /\ in64 (x + 1) /\ I_1 (x + 1) x_1 x_6 x_7 (x_8 ++ [Comp.mk x_2 x_3 x_4]) x_9 /\ m_1 (x + 1) x_1 x_6 x_7 (x_8 ++ [Comp.mk x_2 x_3 x_4]) x_9 < m_2 x x_1 x_2 x_3 x_4 x_5 x_6 x_7 x_8 x_9))))))) /\ (¬x < (↑(uR (unfoldS s)).fst.length : Int) -> Q [] (atE x_5 (Err.no (11 : Int))))) /\ (∀ (x : Int) (x_1 : List Comp) (x_2 : List UInt8) (x_3 : List Prp) (x_4 : List Comp) (x_5 : Int) (x_6 : List UInt8) (x_7 : List Prp) (x_8 : List Comp) (x_9 : Int) (x_10 : List UInt8) (x_11 : List Prp) (x_12 : List Comp) (x_13 : Int),I_3 x x_1 x_2 x_3 x_4 x_5 x_6 x_7 x_8 x_9 x_10 x_11 x_12 x_13 -> (x < (↑(uR (unfoldS s)).fst.length : Int) -> (0 : Int) <= x /\ x < (↑(uR (unfoldS s)).fst.length : Int) /\ (in64 (q394 s x).At -> List.length (q394 s x).Text <= 100000000 /\ ((q390 s x).snd ≠ Err.nil -> Q [] (atE (q394 s x).At (q390 s x).snd)) /\ (¬(q390 s x).snd ≠ Err.nil -> ((q390 s x).fst.Name = sBEGIN -> ((q390 s x).fst.Name = sBEGIN -> List.length (q390 s x).fst.Value <= 10000000 /\ ((q391 s x).snd ≠ Err.nil -> Q [] (atE (q394 s x).At (q391 s x).snd)) /\ (¬(q391 s x).snd ≠ Err.nil -> ((q390 s x).fst.Name = sBEGIN -> in64 ((0 : Int) + 1) /\ in64 ((0 : Int) + 1 + 1) /\ in64 ((0 : Int) + 1 + 1 + 1) /\ in64 ((0 : Int) + 1 + 1 + 1 + 1) /\ ((6 : Int) < (0 : Int) + 1 + 1 + 1 + 1 -> Q [] (atE (q394 s x).At (Err.no (12 : Int)))) /\ (¬(6 : Int) < (0 : Int) + 1 + 1 + 1 + 1 -> in64 (x + 1) /\ I_4 (x + 1) x_1 (q391 s x).fst [] [] (q394 s x).At x_2 x_3 x_4 x_5 x_6 x_7 x_8 x_9 x_10 x_11 x_12 x_13 /\ m_4 (x + 1) x_1 (q391 s x).fst [] [] (q394 s x).At x_2 x_3 x_4 x_5 x_6 x_7 x_8 x_9 x_10 x_11 x_12 x_13 < m_3 x x_1 x_2 x_3 x_4 x_5 x_6 x_7 x_8 x_9 x_10 x_11 x_12 x_13)) /\ (¬(q390 s x).fst.Name = sBEGIN -> ((q390 s x).fst.Name = sEND /\ x_2 ≠ (q391 s x).fst -> Q [] (q396 s x)) /\ (¬((q390 s x).fst.Name = sEND /\ x_2 ≠ (q391 s x).fst) -> ((q390 s x).fst.Name ≠ sEND -> (q393 x_3 s x) * (some (72 : Nat)).getD (0 : Nat) <= 140737488355328 /\ in64 (x + 1) /\ I_3 (x + 1) x_1 x_2 (q392 x_3 s x) x_4 x_5 x_6 x_7 x_8 x_9 x_10 x_11 x_12 x_13 /\ m_3 (x + 1) x_1 x_2 (q392 x_3 s x) x_4 x_5 x_6 x_7 x_8 x_9 x_10 x_11 x_12 x_13 < m_3 x x_1 x_2 x_3 x_4 x_5 x_6 x_7 x_8 x_9 x_10 x_11 x_12 x_13) /\ (¬(q390 s x).fst.Name ≠ sEND -> ((q397 x_8) * (some (64 : Nat)).getD (0 : Nat) <= 140737488355328 /\ (0 : Int) <= (↑x_8.length : Int) /\ (↑x_8.length : Int) < (↑(q395 x_8).length : Int) /\ in64 (x + 1) /\ I_2 (x + 1) x_1 x_6 x_7 ((q395 x_8).set (↑x_8.length : Int).toNat (Comp.mk x_2 x_3 x_4)) x_9 x_10 x_11 x_12 x_13 /\ m_2 (x + 1) x_1 x_6 x_7 ((q395 x_8).set (↑x_8.length : Int).toNat (Comp.mk x_2 x_3 x_4)) x_9 x_10 x_11 x_12 x_13 < m_3 x x_1 x_2 x_3 x_4 x_5 x_6 x_7 x_8 x_9 x_10 x_11 x_12 x_13) /\ (x_8.length + [Comp.mk x_2 x_3 x_4].length) * (some (64 : Nat)).getD (0 : Nat) <= 140737488355328 /\ in64 (x + 1) /\ I_2 (x + 1) x_1 x_6 x_7 (x_8 ++ [Comp.mk x_2 x_3 x_4]) x_9 x_10 x_11 x_12 x_13 /\ m_2 (x + 1) x_1 x_6 x_7 (x_8 ++ [Comp.mk x_2 x_3 x_4]) x_9 x_10 x_11 x_12 x_13 < m_3 x x_1 x_2 x_3 x_4 x_5 x_6 x_7 x_8 x_9 x_10 x_11 x_12 x_13))))) /\ (¬(q390 s x).fst.Name = sBEGIN -> ((q390 s x).fst.Name = sEND /\ x_2 ≠ [] -> Q [] (q396 s x)) /\ (¬((q390 s x).fst.Name = sEND /\ x_2 ≠ []) -> ((q390 s x).fst.Name ≠ sEND -> (q393 x_3 s x) * (some (72 : Nat)).getD (0 : Nat) <= 140737488355328 /\ in64 (x + 1) /\ I_3 (x + 1) x_1 x_2 (q392 x_3 s x) x_4 x_5 x_6 x_7 x_8 x_9 x_10 x_11 x_12 x_13 /\ m_3 (x + 1) x_1 x_2 (q392 x_3 s x) x_4 x_5 x_6 x_7 x_8 x_9 x_10 x_11 x_12 x_13 < m_3 x x_1 x_2 x_3 x_4 x_5 x_6 x_7 x_8 x_9 x_10 x_11 x_12 x_13) /\ (¬(q390 s x).fst.Name ≠ sEND -> ((q397 x_8) * (some (64 : Nat)).getD (0 : Nat) <= 140737488355328 /\ (0 : Int) <= (↑x_8.length : Int) /\ (↑x_8.length : Int) < (↑(q395 x_8).length : Int) /\ in64 (x + 1) /\ I_2 (x + 1) x_1 x_6 x_7 ((q395 x_8).set (↑x_8.length : Int).toNat (Comp.mk x_2 x_3 x_4)) x_9 x_10 x_11 x_12 x_13 /\ m_2 (x + 1) x_1 x_6 x_7 ((q395 x_8).set (↑x_8.length : Int).toNat (Comp.mk x_2 x_3 x_4)) x_9 x_10 x_11 x_12 x_13 < m_3 x x_1 x_2 x_3 x_4 x_5 x_6 x_7 x_8 x_9 x_10 x_11 x_12 x_13) /\ (x_8.length + [Comp.mk x_2 x_3 x_4].length) * (some (64 : Nat)).getD (0 : Nat) <= 140737488355328 /\ in64 (x + 1) /\ I_2 (x + 1) x_1 x_6 x_7 (x_8 ++ [Comp.mk x_2 x_3 x_4]) x_9 x_10 x_11 x_12 x_13 /\ m_2 (x + 1) x_1 x_6 x_7 (x_8 ++ [Comp.mk x_2 x_3 x_4]) x_9 x_10 x_11 x_12 x_13 < m_3 x x_1 x_2 x_3 x_4 x_5 x_6 x_7 x_8 x_9 x_10 x_11 x_12 x_13)))) /\ (¬(q390 s x).fst.Name = sBEGIN -> ((q390 s x).fst.Name = sEND -> List.length (q390 s x).fst.Value <= 10000000 /\ ((q391 s x).snd ≠ Err.nil -> Q [] (atE (q394 s x).At (q391 s x).snd)) /\ (¬(q391 s x).snd ≠ Err.nil -> ((q390 s x).fst.Name = sBEGIN -> in64 ((0 : Int) + 1) /\ in64 ((0 : Int) + 1 + 1) /\ in64 ((0 : Int) + 1 + 1 + 1) /\ in64 ((0 : Int) + 1 + 1 + 1 + 1) /\ ((6 : Int) < (0 : Int) + 1 + 1 + 1 + 1 -> Q [] (atE (q394 s x).At (Err.no (12 : Int)))) /\ (¬(6 : Int) < (0 : Int) + 1 + 1 + 1 + 1 -> in64 (x + 1) /\ I_4 (x + 1) x_1 (q391 s x).fst [] [] (q394 s x).At x_2 x_3 x_4 x_5 x_6 x_7 x_8 x_9 x_10 x_11 x_12 x_13 /\ m_4 (x + 1) x_1 (q391 s x).fst [] [] (q394 s x).At x_2 x_3 x_4 x_5 x_6 x_7 x_8 x_9 x_10 x_11 x_12 x_13 < m_3 x x_1 x_2 x_3 x_4 x_5 x_6 x_7 x_8 x_9 x_10 x_11 x_12 x_13)) /\ (¬(q390 s x).fst.Name = sBEGIN -> ((q390 s x).fst.Name = sEND /\ x_2 ≠ (q391 s x).fst -> Q [] (q396 s x)) /\ (¬((q390 s x).fst.Name = sEND /\ x_2 ≠ (q391 s x).fst) -> ((q390 s x).fst.Name ≠ sEND -> (q393 x_3 s x) * (some (72 : Nat)).getD (0 : Nat) <= 140737488355328 /\ in64 (x + 1) /\ I_3 (x + 1) x_1 x_2 (q392 x_3 s x) x_4 x_5 x_6 x_7 x_8 x_9 x_10 x_11 x_12 x_13 /\ m_3 (x + 1) x_1 x_2 (q392 x_3 s x) x_4 x_5 x_6 x_7 x_8 x_9 x_10 x_11 x_12 x_13 < m_3 x x_1 x_2 x_3 x_4 x_5 x_6 x_7 x_8 x_9 x_10 x_11 x_12 x_13) /\ (¬(q390 s x).fst.Name ≠ sEND -> ((q397 x_8) * (some (64 : Nat)).getD (0 : Nat) <= 140737488355328 /\ (0 : Int) <= (↑x_8.length : Int) /\ (↑x_8.length : Int) < (↑(q395 x_8).length : Int) /\ in64 (x + 1) /\ I_2 (x + 1) x_1 x_6 x_7 ((q395 x_8).set (↑x_8.length : Int).toNat (Comp.mk x_2 x_3 x_4)) x_9 x_10 x_11 x_12 x_13 /\ m_2 (x + 1) x_1 x_6 x_7 ((q395 x_8).set (↑x_8.length : Int).toNat (Comp.mk x_2 x_3 x_4)) x_9 x_10 x_11 x_12 x_13 < m_3 x x_1 x_2 x_3 x_4 x_5 x_6 x_7 x_8 x_9 x_10 x_11 x_12 x_13) /\ (x_8.length + [Comp.mk x_2 x_3 x_4].length) * (some (64 : Nat)).getD (0 : Nat) <= 140737488355328 /\ in64 (x + 1) /\ I_2 (x + 1) x_1 x_6 x_7 (x_8 ++ [Comp.mk x_2 x_3 x_4]) x_9 x_10 x_11 x_12 x_13 /\ m_2 (x + 1) x_1 x_6 x_7 (x_8 ++ [Comp.mk x_2 x_3 x_4]) x_9 x_10 x_11 x_12 x_13 < m_3 x x_1 x_2 x_3 x_4 x_5 x_6 x_7 x_8 x_9 x_10 x_11 x_12 x_13))))) /\ (¬(q390 s x).fst.Name = sEND -> ((q390 s x).fst.Name = sEND /\ x_2 ≠ [] -> Q [] (q396 s x)) /\ (¬((q390 s x).fst.Name = sEND /\ x_2 ≠ []) -> ((q390 s x).fst.Name ≠ sEND -> (q393 x_3 s x) * (some (72 : Nat)).getD (0 : Nat) <= 140737488355328 /\ in64 (x + 1) /\ I_3 (x + 1) x_1 x_2 (q392 x_3 s x) x_4 x_5 x_6 x_7 x_8 x_9 x_10 x_11 x_12 x_13 /\ m_3 (x + 1) x_1 x_2 (q392 x_3 s x) x_4 x_5 x_6 x_7 x_8 x_9 x_10 x_11 x_12 x_13 < m_3 x x_1 x_2 x_3 x_4 x_5 x_6 x_7 x_8 x_9 x_10 x_11 x_12 x_13) /\ (¬(q390 s x).fst.Name ≠ sEND -> ((q397 x_8) * (some (64 : Nat)).getD (0 : Nat) <= 140737488355328 /\ (0 : Int) <= (↑x_8.length : Int) /\ (↑x_8.length : Int) < (↑(q395 x_8).length : Int) /\ in64 (x + 1) /\ I_2 (x + 1) x_1 x_6 x_7 ((q395 x_8).set (↑x_8.length : Int).toNat (Comp.mk x_2 x_3 x_4)) x_9 x_10 x_11 x_12 x_13 /\ m_2 (x + 1) x_1 x_6 x_7 ((q395 x_8).set (↑x_8.length : Int).toNat (Comp.mk x_2 x_3 x_4)) x_9 x_10 x_11 x_12 x_13 < m_3 x x_1 x_2 x_3 x_4 x_5 x_6 x_7 x_8 x_9 x_10 x_11 x_12 x_13) /\ (x_8.length + [Comp.mk x_2 x_3 x_4].length) * (some (64 : Nat)).getD (0 : Nat) <= 140737488355328 /\ in64 (x + 1) /\ I_2 (x + 1) x_1 x_6 x_7 (x_8 ++ [Comp.mk x_2 x_3 x_4]) x_9 x_10 x_11 x_12 x_13 /\ m_2 (x + 1) x_1 x_6 x_7 (x_8 ++ [Comp.mk x_2 x_3 x_4]) x_9 x_10 x_11 x_12 x_13 < m_3 x x_1 x_2 x_3 x_4 x_5 x_6 x_7 x_8 x_9 x_10 x_11 x_12 x_13))))))) /\ (¬x < (↑(uR (unfoldS s)).fst.length : Int) -> Q [] (atE x_5 (Err.no (11 : Int))))) /\ (∀ (x : Int) (x_1 : List Comp) (x_2 : List UInt8) (x_3 : List Prp) (x_4 : List Comp) (x_5 : Int) (x_6 : List UInt8) (x_7 : List Prp) (x_8 : List Comp) (x_9 : Int) (x_10 : List UInt8) (x_11 : List Prp) (x_12 : List Comp) (x_13 : Int) (x_14 : List UInt8) (x_15 : List Prp) (x_16 : List Comp) (x_17 : Int),I_4 x x_1 x_2 x_3 x_4 x_5 x_6 x_7 x_8 x_9 x_10 x_11 x_12 x_13 x_14 x_15 x_16 x_17 -> (x < (↑(uR (unfoldS s)).fst.length : Int) -> (0 : Int) <= x /\ x < (↑(uR (unfoldS s)).fst.length : Int) /\ (in64 (q394 s x).At -> List.length (q394 s x).Text <= 100000000 /\ ((q390 s x).snd ≠ Err.nil -> Q [] (atE (q394 s x).At (q390 s x).snd)) /\ (¬(q390 s x).snd ≠ Err.nil -> ((q390 s x).fst.Name = sBEGIN -> ((q390 s x).fst.Name = sBEGIN -> List.length (q390 s x).fst.Value <= 10000000 /\ ((q391 s x).snd ≠ Err.nil -> Q [] (atE (q394 s x).At (q391 s x).snd)) /\ (¬(q391 s x).snd ≠ Err.nil -> ((q390 s x).fst.Name = sBEGIN -> in64 ((0 : Int) + 1) /\ in64 ((0 : Int) + 1 + 1) /\ in64 ((0 : Int) + 1 + 1 + 1) /\ in64 ((0 : Int) + 1 + 1 + 1 + 1) /\ in64 ((0 : Int) + 1 + 1 + 1 + 1 + 1) /\ ((6 : Int) < (0 : Int) + 1 + 1 + 1 + 1 + 1 -> Q [] (atE (q394 s x).At (Err.no (12 : Int)))) /\ (¬(6 : Int) < (0 : Int) + 1 + 1 + 1 + 1 + 1 -> in64 (x + 1) /\ I_5 (x + 1) x_1 (q391 s x).fst [] [] (q394 s x).At x_2 x_3 x_4 x_5 x_6 x_7 x_8 x_9 x_10 x_11 x_12 x_13 x_14 x_15 x_16 x_17 /\ m_5 (x + 1) x_1 (q391 s x).fst [] [] (q394 s x).At x_2 x_3 x_4 x_5 x_6 x_7 x_8 x_9 x_10 x_11 x_12 x_13 x_14 x_15 x_16 x_17 < m_4 x x_1 x_2 x_3 x_4 x_5 x_6 x_7 x_8 x_9 x_10 x_11 x_12 x_13 x_14 x_15 x_16 x_17)) /\ (¬(q390 s x).fst.Name = sBEGIN -> ((q390 s x).fst.Name = sEND /\ x_2 ≠ (q391 s x).fst -> Q [] (q396 s x)) /\ (¬((q390 s x).fst.Name = sEND /\ x_2 ≠ (q391 s x).fst) -> ((q390 s x).fst.Name ≠ sEND -> (q393 x_3 s x) * (some (72 : Nat)).getD (0 : Nat) <= 140737488355328 /\ in64 (x + 1) /\ I_4 (x + 1) x_1 x_2 (q392 x_3 s x) x_4 x_5 x_6 x_7 x_8 x_9 x_10 x_11 x_12 x_13 x_14 x_15 x_16 x_17 /\ m_4 (x + 1) x_1 x_2 (q392 x_3 s x) x_4 x_5 x_6 x_7 x_8 x_9 x_10 x_11 x_12 x_13 x_14 x_15 x_16 x_17 < m_4 x x_1 x_2 x_3 x_4 x_5 x_6 x_7 x_8 x_9 x_10 x_11 x_12 x_13 x_14 x_15 x_16 x_17) /\ (¬(q390 s x).fst.Name ≠ sEND -> ((q397 x_8) * (some (64 : Nat)).getD (0 : Nat) <= 140737488355328 /\ (0 : Int) <= (↑x_8.length : Int) /\ (↑x_8.length : Int) < (↑(q395 x_8).length : Int) /\ in64 (x + 1) /\ I_3 (x + 1) x_1 x_6 x_7 ((q395 x_8).set (↑x_8.length : Int).toNat (Comp.mk x_2 x_3 x_4)) x_9 x_10 x_11 x_12 x_13 x_14 x_15 x_16 x_17 /\ m_3 (x + 1) x_1 x_6 x_7 ((q395 x_8).set (↑x_8.length : Int).toNat (Comp.mk x_2 x_3 x_4)) x_9 x_10 x_11 x_12 x_13 x_14 x_15 x_16 x_17 < m_4 x x_1 x_2 x_3 x_4 x_5 x_6 x_7 x_8 x_9 x_10 x_11 x_12 x_13 x_14 x_15 x_16 x_17) /\ (x_8.length + [Comp.mk x_2 x_3 x_4].length) * (some (64 : Nat)).getD (0 : Nat) <= 140737488355328 /\ in64 (x + 1) /\ I_3 (x + 1) x_1 x_6 x_7 (x_8 ++ [Comp.mk x_2 x_3 x_4]) x_9 x_10 x_11 x_12 x_13 x_14 x_15 x_16 x_17 /\ m_3 (x + 1) x_1 x_6 x_7 (x_8 ++ [Comp.mk x_2 x_3 x_4]) x_9 x_10 x_11 x_12 x_13 x_14 x_15 x_16 x_17 < m_4 x x_1 x_2 x_3 x_4 x_5 x_6 x_7 x_8 x_9 x_10 x_11 x_12 x_13 x_14 x_15 x_16 x_17))))) /\ (¬(q390 s x).fst.Name = sBEGIN -> ((q390 s x).fst.Name = sEND /\ x_2 ≠ [] -> Q [] (q396 s x)) /\ (¬((q390 s x).fst.Name = sEND /\ x_2 ≠ []) -> ((q390 s x).fst.Name ≠ sEND -> (q393 x_3 s x) * (some (72 : Nat)).getD (0 : Nat) <= 140737488355328 /\ in64 (x + 1) /\ I_4 (x + 1) x_1 x_2 (q392 x_3 s x) x_4 x_5 x_6 x_7 x_8 x_9 x_10 x_11 x_12 x_13 x_14 x_15 x_16 x_17 /\ m_4 (x + 1) x_1 x_2 (q392 x_3 s x) x_4 x_5 x_6 x_7 x_8 x_9 x_10 x_11 x_12 x_13 x_14 x_15 x_16 x_17 < m_4 x x_1 x_2 x_3 x_4 x_5 x_6 x_7 x_8 x_9 x_10 x_11 x_12 x_13 x_14 x_15 x_16 x_17) /\ (¬(q390 s x).fst.Name ≠ sEND -> ((q397 x_8) * (some (64 : Nat)).getD (0 : Nat) <= 140737488355328 /\ (0 : Int) <= (↑x_8.length : Int) /\ (↑x_8.length : Int) < (↑(q395 x_8).length : Int) /\ in64 (x + 1) /\ I_3 (x + 1) x_1 x_6 x_7 ((q395 x_8).set (↑x_8.length : Int).toNat (Comp.mk x_2 x_3 x_4)) x_9 x_10 x_11 x_12 x_13 x_14 x_15 x_16 x_17 /\ m_3 (x + 1) x_1 x_6 x_7 ((q395 x_8).set (↑x_8.length : Int).toNat (Comp.mk x_2 x_3 x_4)) x_9 x_10 x_11 x_12 x_13 x_14 x_15 x_16 x_17 < m_4 x x_1 x_2 x_3 x_4 x_5 x_6 x_7 x_8 x_9 x_10 x_11 x_12 x_13 x_14 x_15 x_16 x_17) /\ (x_8.length + [Comp.mk x_2 x_3 x_4].length) * (some (64 : Nat)).getD (0 : Nat) <= 140737488355328 /\ in64 (x + 1) /\ I_3 (x + 1) x_1 x_6 x_7 (x_8 ++ [Comp.mk x_2 x_3 x_4]) x_9 x_10 x_11 x_12 x_13 x_14 x_15 x_16 x_17 /\ m_3 (x + 1) x_1 x_6 x_7 (x_8 ++ [Comp.mk x_2 x_3 x_4]) x_9 x_10 x_11 x_12 x_13 x_14 x_15 x_16 x_17 < m_4 x x_1 x_2 x_3 x_4 x_5 x_6 x_7 x_8 x_9 x_10 x_11 x_12 x_13 x_14 x_15 x_16 x_17)))) /\ (¬(q390 s x).fst.Name = sBEGIN -> ((q390 s x).fst.Name = sEND -> List.length (q390 s x).fst.Value <= 10000000 /\ ((q391 s x).snd ≠ Err.nil -> Q [] (atE (q394 s x).At (q391 s x).snd)) /\ (¬(q391 s x).snd ≠ Err.nil -> ((q390 s x).fst.Name = sBEGIN -> in64 ((0 : Int) + 1) /\ in64 ((0 : Int) + 1 + 1) /\ in64 ((0 : Int) + 1 + 1 + 1) /\ in64 ((0 : Int) + 1 + 1 + 1 + 1) /\ in64 ((0 : Int) + 1 + 1 + 1 + 1 + 1) /\ ((6 : Int) < (0 : Int) + 1 + 1 + 1 + 1 + 1 -> Q [] (atE (q394 s x).At (Err.no (12 : Int)))) /\ (¬(6 : Int) < (0 : Int) + 1 + 1 + 1 + 1 + 1 -> in64 (x + 1) /\ I_5 (x + 1) x_1 (q391 s x).fst [] [] (q394 s x).At x_2 x_3 x_4 x_5 x_6 x_7 x_8 x_9 x_10 x_11 x_12 x_13 x_14 x_15 x_16 x_17 /\ m_5 (x + 1) x_1 (q391 s x).fst [] [] (q394 s x).At x_2 x_3 x_4 x_5 x_6 x_7 x_8 x_9 x_10 x_11 x_12 x_13 x_14 x_15 x_16 x_17 < m_4 x x_1 x_2 x_3 x_4 x_5 x_6 x_7 x_8 x_9 x_10 x_11 x_12 x_13 x_14 x_15 x_16 x_17)) /\ (¬(q390 s x).fst.Name = sBEGIN -> ((q390 s x).fst.Name = sEND /\ x_2 ≠ (q391 s x).fst -> Q [] (q396 s x)) /\ (¬((q390 s x).fst.Name = sEND /\ x_2 ≠ (q391 s x).fst) -> ((q390 s x).fst.Name ≠ sEND -> (q393 x_3 s x) * (some (72 : Nat)).getD (0 : Nat) <= 140737488355328 /\ in64 (x + 1) /\ I_4 (x + 1) x_1 x_2 (q392 x_3 s x) x_4 x_5 x_6 x_7 x_8 x_9 x_10 x_11 x_12 x_13 x_14 x_15 x_16 x_17 /\ m_4 (x + 1) x_1 x_2 (q392 x_3 s x) x_4 x_5 x_6 x_7 x_8 x_9 x_10 x_11 x_12 x_13 x_14 x_15 x_16 x_17 < m_4 x x_1 x_2 x_3 x_4 x_5 x_6 x_7 x_8 x_9 x_10 x_11 x_12 x_13 x_14 x_15 x_16 x_17) /\ (¬(q390 s x).fst.Name ≠ sEND -> ((q397 x_8) * (some (64 : Nat)).getD (0 : Nat) <= 140737488355328 /\ (0 : Int) <= (↑x_8.length : Int) /\ (↑x_8.length : Int) < (↑(q395 x_8).length : Int) /\ in64 (x + 1) /\ I_3 (x + 1) x_1 x_6 x_7 ((q395 x_8).set (↑x_8.length : Int).toNat (Comp.mk x_2 x_3 x_4)) x_9 x_10 x_11 x_12 x_13 x_14 x_15 x_16 x_17 /\ m_3 (x + 1) x_1 x_6 x_7 ((q395 x_8).set (↑x_8.length : Int).toNat (Comp.mk x_2 x_3 x_4)) x_9 x_10 x_11 x_12 x_13 x_14 x_15 x_16 x_17 < m_4 x x_1 x_2 x_3 x_4 x_5 x_6 x_7 x_8 x_9 x_10 x_11 x_12 x_13 x_14 x_15 x_16 x_17) /\ (x_8.length + [Comp.mk x_2 x_3 x_4].length) * (some (64 : Nat)).getD (0 : Nat) <= 140737488355328 /\ in64 (x + 1) /\ I_3 (x + 1) x_1 x_6 x_7 (x_8 ++ [Comp.mk x_2 x_3 x_4]) x_9 x_10 x_11 x_12 x_13 x_14 x_15 x_16 x_17 /\ m_3 (x + 1) x_1 x_6 x_7 (x_8 ++ [Comp.mk x_2 x_3 x_4]) x_9 x_10 x_11 x_12 x_13 x_14 x_15 x_16 x_17 < m_4 x x_1 x_2 x_3 x_4 x_5 x_6 x_7 x_8 x_9 x_10 x_11 x_12 x_13 x_14 x_15 x_16 x_17))))) /\ (¬(q390 s x).fst.Name = sEND -> ((q390 s x).fst.Name = sEND /\ x_2 ≠ [] -> Q [] (q396 s x)) /\ (¬((q390 s x).fst.Name = sEND /\ x_2 ≠ []) -> ((q390 s x).fst.Name ≠ sEND -> (q393 x_3 s x) * (some (72 : Nat)).getD (0 : Nat) <= 140737488355328 /\ in64 (x + 1) /\ I_4 (x + 1) x_1 x_2 (q392 x_3 s x) x_4 x_5 x_6 x_7 x_8 x_9 x_10 x_11 x_12 x_13 x_14 x_15 x_16 x_17 /\ m_4 (x + 1) x_1 x_2 (q392 x_3 s x) x_4 x_5 x_6 x_7 x_8 x_9 x_10 x_11 x_12 x_13 x_14 x_15 x_16 x_17 < m_4 x x_1 x_2 x_3 x_4 x_5 x_6 x_7 x_8 x_9 x_10 x_11 x_12 x_13 x_14 x_15 x_16 x_17) /\ (¬(q390 s x).fst.Name ≠ sEND -> ((q397 x_8) * (some (64 : Nat)).getD (0 : Nat) <= 140737488355328 /\ (0 : Int) <= (↑x_8.length : Int) /\ (↑x_8.length : Int) < (↑(q395 x_8).length : Int) /\ in64 (x + 1) /\ I_3 (x + 1) x_1 x_6 x_7 ((q395 x_8).set (↑x_8.length : Int).toNat (Comp.mk x_2 x_3 x_4)) x_9 x_10 x_11 x_12 x_13 x_14 x_15 x_16 x_17 /\ m_3 (x + 1) x_1 x_6 x_7 ((q395 x_8).set (↑x_8.length : Int).toNat (Comp.mk x_2 x_3 x_4)) x_9 x_10 x_11 x_12 x_13 x_14 x_15 x_16 x_17 < m_4 x x_1 x_2 x_3 x_4 x_5 x_6 x_7 x_8 x_9 x_10 x_11 x_12 x_13 x_14 x_15 x_16 x_17) /\ (x_8.length + [Comp.mk x_2 x_3 x_4].length) * (some (64 : Nat)).getD (0 : Nat) <= 140737488355328 /\ in64 (x + 1) /\ I_3 (x + 1) x_1 x_6 x_7 (x_8 ++ [Comp.mk x_2 x_3 x_4]) x_9 x_10 x_11 x_12 x_13 x_14 x_15 x_16 x_17 /\ m_3 (x + 1) x_1 x_6 x_7 (x_8 ++ [Comp.mk x_2 x_3 x_4]) x_9 x_10 x_11 x_12 x_13 x_14 x_15 x_16 x_17 < m_4 x x_1 x_2 x_3 x_4 x_5 x_6 x_7 x_8 x_9 x_10 x_11 x_12 x_13 x_14 x_15 x_16 x_17))))))) /\ (¬x < (↑(uR (unfoldS s)).fst.length : Int) -> Q [] (atE x_5 (Err.no (11 : Int))))) /\ (∀ (x : Int) (x_1 : List Comp) (x_2 : List UInt8) (x_3 : List Prp) (x_4 : List Comp) (x_5 : Int) (x_6 : List UInt8) (x_7 : List Prp) (x_8 : List Comp) (x_9 : Int) (x_10 : List UInt8) (x_11 : List Prp) (x_12 : List Comp) (x_13 : Int) (x_14 : List UInt8) (x_15 : List Prp) (x_16 : List Comp) (x_17 : Int) (x_18 : List UInt8) (x_19 : List Prp) (x_20 : List Comp) (x_21 : Int),I_5 x x_1 x_2 x_3 x_4 x_5 x_6 x_7 x_8 x_9 x_10 x_11 x_12 x_13 x_14 x_15 x_16 x_17 x_18 x_19 x_20 x_21 -> (x < (↑(uR (unfoldS s)).fst.length : Int) -> (0 : Int) <= x /\ x < (↑(uR (unfoldS s)).fst.length : Int) /\ (in64 (q394 s x).At -> List.length (q394 s x).Text <= 100000000 /\ ((q390 s x).snd ≠ Err.nil -> Q [] (atE (q394 s x).At (q390 s x).snd)) /\ (¬(q390 s x).snd ≠ Err.nil -> ((q390 s x).fst.Name = sBEGIN -> ((q390 s x).fst.Name = sBEGIN -> List.length (q390 s x).fst.Value <= 10000000 /\ ((q391 s x).snd ≠ Err.nil -> Q [] (atE (q394 s x).At (q391 s x).snd)) /\ (¬(q391 s x).snd ≠ Err.nil -> ((q390 s x).fst.Name = sBEGIN -> in64 ((0 : Int) + 1) /\ in64 ((0 : Int) + 1 + 1) /\ in64 ((0 : Int) + 1 + 1 + 1) /\ in64 ((0 : Int) + 1 + 1 + 1 + 1) /\ in64 ((0 : Int) + 1 + 1 + 1 + 1 + 1) /\ in64 ((0 : Int) + 1 + 1 + 1 + 1 + 1 + 1) /\ ((6 : Int) < (0 : Int) + 1 + 1 + 1 + 1 + 1 + 1 -> Q [] (atE (q394 s x).At (Err.no (12 : Int)))) /\ (¬(6 : Int) < (0 : Int) + 1 + 1 + 1 + 1 + 1 + 1 -> in64 (x + 1) /\ I_6 (x + 1) x_1 (q391 s x).fst [] [] (q394 s x).At x_2 x_3 x_4 x_5 x_6 x_7 x_8 x_9 x_10 x_11 x_12 x_13 x_14 x_15 x_16 x_17 x_18 x_19 x_20 x_21 /\ m_6 (x + 1) x_1 (q391 s x).fst [] [] (q394 s x).At x_2 x_3 x_4 x_5 x_6 x_7 x_8 x_9 x_10 x_11 x_12 x_13 x_14 x_15 x_16 x_17 x_18 x_19 x_20 x_21 < m_5 x x_1 x_2 x_3 x_4 x_5 x_6 x_7 x_8 x_9 x_10 x_11 x_12 x_13 x_14 x_15 x_16 x_17 x_18 x_19 x_20 x_21)) /\ (¬(q390 s x).fst.Name = sBEGIN -> ((q390 s x).fst.Name = sEND /\ x_2 ≠ (q391 s x).fst -> Q [] (q396 s x)) /\ (¬((q390 s x).fst.Name = sEND /\ x_2 ≠ (q391 s x).fst) -> ((q390 s x).fst.Name ≠ sEND -> (q393 x_3 s x) * (some (72 : Nat)).getD (0 : Nat) <= 140737488355328 /\ in64 (x + 1) /\ I_5 (x + 1) x_1 x_2 (q392 x_3 s x) x_4 x_5 x_6 x_7 x_8 x_9 x_10 x_11 x_12 x_13 x_14 x_15 x_16 x_17 x_18 x_19 x_20 x_21 /\ m_5 (x + 1) x_1 x_2 (q392 x_3 s x) x_4 x_5 x_6 x_7 x_8 x_9 x_10 x_11 x_12 x_13 x_14 x_15 x_16 x_17 x_18 x_19 x_20 x_21 < m_5 x x_1 x_2 x_3 x_4 x_5 x_6 x_7 x_8 x_9 x_10 x_11 x_12 x_13 x_14 x_15 x_16 x_17 x_18 x_19 x_20 x_21) /\ (¬(q390 s x).fst.Name ≠ sEND -> ((q397 x_8) * (some (64 : Nat)).getD (0 : Nat) <= 140737488355328 /\ (0 : Int) <= (↑x_8.length : Int) /\ (↑x_8.length : Int) < (↑(q395 x_8).length : Int) /\ in64 (x + 1) /\ I_4 (x + 1) x_1 x_6 x_7 ((q395 x_8).set (↑x_8.length : Int).toNat (Comp.mk x_2 x_3 x_4)) x_9 x_10 x_11 x_12 x_13 x_14 x_15 x_16 x_17 x_18 x_19 x_20 x_21 /\ m_4 (x + 1) x_1 x_6 x_7 ((q395 x_8).set (↑x_8.length : Int).toNat (Comp.mk x_2 x_3 x_4)) x_9 x_10 x_11 x_12 x_13 x_14 x_15 x_16 x_17 x_18 x_19 x_20 x_21 < m_5 x x_1 x_2 x_3 x_4 x_5 x_6 x_7 x_8 x_9 x_10 x_11 x_12 x_13 x_14 x_15 x_16 x_17 x_18 x_19 x_20 x_21) /\ (x_8.length + [Comp.mk x_2 x_3 x_4].length) * (some (64 : Nat)).getD (0 : Nat) <= 140737488355328 /\ in64 (x + 1) /\ I_4 (x + 1) x_1 x_6 x_7 (x_8 ++ [Comp.mk x_2 x_3 x_4]) x_9 x_10 x_11 x_12 x_13 x_14 x_15 x_16 x_17 x_18 x_19 x_20 x_21 /\ m_4 (x + 1) x_1 x_6 x_7 (x_8 ++ [Comp.mk x_2 x_3 x_4]) x_9 x_10 x_11 x_12 x_13 x_14 x_15 x_16 x_17 x_18 x_19 x_20 x_21 < m_5 x x_1 x_2 x_3 x_4 x_5 x_6 x_7 x_8 x_9 x_10 x_11 x_12 x_13 x_14 x_15 x_16 x_17 x_18 x_19 x_20 x_21))))) /\ (¬(q390 s x).fst.Name = sBEGIN -> ((q390 s x).fst.Name = sEND /\ x_2 ≠ [] -> Q [] (q396 s x)) /\ (¬((q390 s x).fst.Name = sEND /\ x_2 ≠ []) -> ((q390 s x).fst.Name ≠ sEND -> (q393 x_3 s x) * (some (72 : Nat)).getD (0 : Nat) <= 140737488355328 /\ in64 (x + 1) /\ I_5 (x + 1) x_1 x_2 (q392 x_3 s x) x_4 x_5 x_6 x_7 x_8 x_9 x_10 x_11 x_12 x_13 x_14 x_15 x_16 x_17 x_18 x_19 x_20 x_21 /\ m_5 (x + 1) x_1 x_2 (q392 x_3 s x) x_4 x_5 x_6 x_7 x_8 x_9 x_10 x_11 x_12 x_13 x_14 x_15 x_16 x_17 x_18 x_19 x_20 x_21 < m_5 x x_1 x_2 x_3 x_4 x_5 x_6 x_7 x_8 x_9 x_10 x_11 x_12 x_13 x_14 x_15 x_16 x_17 x_18 x_19 x_20 x_21) /\ (¬(q390 s x).fst.Name ≠ sEND -> ((q397 x_8) * (some (64 : Nat)).getD (0 : Nat) <= 140737488355328 /\ (0 : Int) <= (↑x_8.length : Int) /\ (↑x_8.length : Int) < (↑(q395 x_8).length : Int) /\ in64 (x + 1) /\ I_4 (x + 1) x_1 x_6 x_7 ((q395 x_8).set (↑x_8.length : Int).toNat (Comp.mk x_2 x_3 x_4)) x_9 x_10 x_11 x_12 x_13 x_14 x_15 x_16 x_17 x_18 x_19 x_20 x_21 /\ m_4 (x + 1) x_1 x_6 x_7 ((q395 x_8).set (↑x_8.length : Int).toNat (Comp.mk x_2 x_3 x_4)) x_9 x_10 x_11 x_12 x_13 x_14 x_15 x_16 x_17 x_18 x_19 x_20 x_21 < m_5 x x_1 x_2 x_3 x_4 x_5 x_6 x_7 x_8 x_9 x_10 x_11 x_12 x_13 x_14 x_15 x_16 x_17 x_18 x_19 x_20 x_21) /\ (x_8.length + [Comp.mk x_2 x_3 x_4].length) * (some (64 : Nat)).getD (0 : Nat) <= 140737488355328 /\ in64 (x + 1) /\ I_4 (x + 1) x_1 x_6 x_7 (x_8 ++ [Comp.mk x_2 x_3 x_4]) x_9 x_10 x_11 x_12 x_13 x_14 x_15 x_16 x_17 x_18 x_19 x_20 x_21 /\ m_4 (x + 1) x_1 x_6 x_7 (x_8 ++ [Comp.mk x_2 x_3 x_4]) x_9 x_10 x_11 x_12 x_13 x_14 x_15 x_16 x_17 x_18 x_19 x_20 x_21 < m_5 x x_1 x_2 x_3 x_4 x_5 x_6 x_7 x_8 x_9 x_10 x_11 x_12 x_13 x_14 x_15 x_16 x_17 x_18 x_19 x_20 x_21)))) /\ (¬(q390 s x).fst.Name = sBEGIN -> ((q390 s x).fst.Name = sEND -> List.length (q390 s x).fst.Value <= 10000000 /\ ((q391 s x).snd ≠ Err.nil -> Q [] (atE (q394 s x).At (q391 s x).snd)) /\ (¬(q391 s x).snd ≠ Err.nil -> ((q390 s x).fst.Name = sBEGIN -> in64 ((0 : Int) + 1) /\ in64 ((0 : Int) + 1 + 1) /\ in64 ((0 : Int) + 1 + 1 + 1) /\ in64 ((0 : Int) + 1 + 1 + 1 + 1) /\ in64 ((0 : Int) + 1 + 1 + 1 + 1 + 1) /\ in64 ((0 : Int) + 1 + 1 + 1 + 1 + 1 + 1) /\ ((6 : Int) < (0 : Int) + 1 + 1 + 1 + 1 + 1 + 1 -> Q [] (atE (q394 s x).At (Err.no (12 : Int)))) /\ (¬(6 : Int) < (0 : Int) + 1 + 1 + 1 + 1 + 1 + 1 -> in64 (x + 1) /\ I_6 (x + 1) x_1 (q391 s x).fst [] [] (q394 s x).At x_2 x_3 x_4 x_5 x_6 x_7 x_8 x_9 x_10 x_11 x_12 x_13 x_14 x_15 x_16 x_17 x_18 x_19 x_20 x_21 /\ m_6 (x + 1) x_1 (q391 s x).fst [] [] (q394 s x).At x_2 x_3 x_4 x_5 x_6 x_7 x_8 x_9 x_10 x_11 x_12 x_13 x_14 x_15 x_16 x_17 x_18 x_19 x_20 x_21 < m_5 x x_1 x_2 x_3 x_4 x_5 x_6 x_7 x_8 x_9 x_10 x_11 x_12 x_13 x_14 x_15 x_16 x_17 x_18 x_19 x_20 x_21)) /\ (¬(q390 s x).fst.Name = sBEGIN -> ((q390 s x).fst.Name = sEND /\ x_2 ≠ (q391 s x).fst -> Q [] (q396 s x)) /\ (¬((q390 s x).fst.Name = sEND /\ x_2 ≠ (q391 s x).fst) -> ((q390 s x).fst.Name ≠ sEND -> (q393 x_3 s x) * (some (72 : Nat)).getD (0 : Nat) <= 140737488355328 /\ in64 (x + 1) /\ I_5 (x + 1) x_1 x_2 (q392 x_3 s x) x_4 x_5 x_6 x_7 x_8 x_9 x_10 x_11 x_12 x_13 x_14 x_15 x_16 x_17 x_18 x_19 x_20 x_21 /\ m_5 (x + 1) x_1 x_2 (q392 x_3 s x) x_4 x_5 x_6 x_7 x_8 x_9 x_10 x_11 x_12 x_13 x_14 x_15 x_16 x_17 x_18 x_19 x_20 x_21 < m_5 x x_1 x_2 x_3 x_4 x_5 x_6 x_7 x_8 x_9 x_10 x_11 x_12 x_13 x_14 x_15 x_16 x_17 x_18 x_19 x_20 x_21) /\ (¬(q390 s x).fst.Name ≠ sEND -> ((q397 x_8) * (some (64 : Nat)).getD (0 : Nat) <= 140737488355328 /\ (0 : Int) <= (↑x_8.length : Int) /\ (↑x_8.length : Int) < (↑(q395 x_8).length : Int) /\ in64 (x + 1) /\ I_4 (x + 1) x_1 x_6 x_7 ((q395 x_8).set (↑x_8.length : Int).toNat (Comp.mk x_2 x_3 x_4)) x_9 x_10 x_11 x_12 x_13 x_14 x_15 x_16 x_17 x_18 x_19 x_20 x_21 /\ m_4 (x + 1) x_1 x_6 x_7 ((q395 x_8).set (↑x_8.length : Int).toNat (Comp.mk x_2 x_3 x_4)) x_9 x_10 x_11 x_12 x_13 x_14 x_15 x_16 x_17 x_18 x_19 x_20 x_21 < m_5 x x_1 x_2 x_3 x_4 x_5 x_6 x_7 x_8 x_9 x_10 x_11 x_12 x_13 x_14 x_15 x_16 x_17 x_18 x_19 x_20 x_21) /\ (x_8.length + [Comp.mk x_2 x_3 x_4].length) * (some (64 : Nat)).getD (0 : Nat) <= 140737488355328 /\ in64 (x + 1) /\ I_4 (x + 1) x_1 x_6 x_7 (x_8 ++ [Comp.mk x_2 x_3 x_4]) x_9 x_10 x_11 x_12 x_13 x_14 x_15 x_16 x_17 x_18 x_19 x_20 x_21 /\ m_4 (x + 1) x_1 x_6 x_7 (x_8 ++ [Comp.mk x_2 x_3 x_4]) x_9 x_10 x_11 x_12 x_13 x_14 x_15 x_16 x_17 x_18 x_19 x_20 x_21 < m_5 x x_1 x_2 x_3 x_4 x_5 x_6 x_7 x_8 x_9 x_10 x_11 x_12 x_13 x_14 x_15 x_16 x_17 x_18 x_19 x_20 x_21))))) /\ (¬(q390 s x).fst.Name = sEND -> ((q390 s x).fst.Name = sEND /\ x_2 ≠ [] -> Q [] (q396 s x)) /\ (¬((q390 s x).fst.Name = sEND /\ x_2 ≠ []) -> ((q390 s x).fst.Name ≠ sEND -> (q393 x_3 s x) * (some (72 : Nat)).getD (0 : Nat) <= 140737488355328 /\ in64 (x + 1) /\ I_5 (x + 1) x_1 x_2 (q392 x_3 s x) x_4 x_5 x_6 x_7 x_8 x_9 x_10 x_11 x_12 x_13 x_14 x_15 x_16 x_17 x_18 x_19 x_20 x_21 /\ m_5 (x + 1) x_1 x_2 (q392 x_3 s x) x_4 x_5 x_6 x_7 x_8 x_9 x_10 x_11 x_12 x_13 x_14 x_15 x_16 x_17 x_18 x_19 x_20 x_21 < m_5 x x_1 x_2 x_3 x_4 x_5 x_6 x_7 x_8 x_9 x_10 x_11 x_12 x_13 x_14 x_15 x_16 x_17 x_18 x_19 x_20 x_21) /\ (¬(q390 s x).fst.Name ≠ sEND -> ((q397 x_8) * (some (64 : Nat)).getD (0 : Nat) <= 140737488355328 /\ (0 : Int) <= (↑x_8.length : Int) /\ (↑x_8.length : Int) < (↑(q395 x_8).length : Int) /\ in64 (x + 1) /\ I_4 (x + 1) x_1 x_6 x_7 ((q395 x_8).set (↑x_8.length : Int).toNat (Comp.mk x_2 x_3 x_4)) x_9 x_10 x_11 x_12 x_13 x_14 x_15 x_16 x_17 x_18 x_19 x_20 x_21 /\ m_4 (x + 1) x_1 x_6 x_7 ((q395 x_8).set (↑x_8.length : Int).toNat (Comp.mk x_2 x_3 x_4)) x_9 x_10 x_11 x_12 x_13 x_14 x_15 x_16 x_17 x_18 x_19 x_20 x_21 < m_5 x x_1 x_2 x_3 x_4 x_5 x_6 x_7 x_8 x_9 x_10 x_11 x_12 x_13 x_14 x_15 x_16 x_17 x_18 x_19 x_20 x_21) /\ (x_8.length + [Comp.mk x_2 x_3 x_4].length) * (some (64 : Nat)).getD (0 : Nat) <= 140737488355328 /\ in64 (x + 1) /\ I_4 (x + 1) x_1 x_6 x_7 (x_8 ++ [Comp.mk x_2 x_3 x_4]) x_9 x_10 x_11 x_12 x_13 x_14 x_15 x_16 x_17 x_18 x_19 x_20 x_21 /\ m_4 (x + 1) x_1 x_6 x_7 (x_8 ++ [Comp.mk x_2 x_3 x_4]) x_9 x_10 x_11 x_12 x_13 x_14 x_15 x_16 x_17 x_18 x_19 x_20 x_21 < m_5 x x_1 x_2 x_3 x_4 x_5 x_6 x_7 x_8 x_9 x_10 x_11 x_12 x_13 x_14 x_15 x_16 x_17 x_18 x_19 x_20 x_21))))))) /\ (¬x < (↑(uR (unfoldS s)).fst.length : Int) -> Q [] (atE x_5 (Err.no (11 : Int))))) /\ (∀ (x : Int) (x_1 : List Comp) (x_2 : List UInt8) (x_3 : List Prp) (x_4 : List Comp) (x_5 : Int) (x_6 : List UInt8) (x_7 : List Prp) (x_8 : List Comp) (x_9 : Int) (x_10 : List UInt8) (x_11 : List Prp) (x_12 : List Comp) (x_13 : Int) (x_14 : List UInt8) (x_15 : List Prp) (x_16 : List Comp) (x_17 : Int) (x_18 : List UInt8) (x_19 : List Prp) (x_20 : List Comp) (x_21 : Int) (x_22 : List UInt8) (x_23 : List Prp) (x_24 : List Comp) (x_25 : Int),I_6 x x_1 x_2 x_3 x_4 x_5 x_6 x_7 x_8 x_9 x_10 x_11 x_12 x_13 x_14 x_15 x_16 x_17 x_18 x_19 x_20 x_21 x_22 x_23 x_24 x_25 -> (x < (↑(uR (unfoldS s)).fst.length : Int) -> (0 : Int) <= x /\ x < (↑(uR (unfoldS s)).fst.length : Int) /\ (in64 (q394 s x).At -> List.length (q394 s x).Text <= 100000000 /\ ((q390 s x).snd ≠ Err.nil -> Q [] (atE (q394 s x).At (q390 s x).snd)) /\ (¬(q390 s x).snd ≠ Err.nil -> ((q390 s x).fst.Name = sBEGIN -> ((q390 s x).fst.Name = sBEGIN -> List.length (q390 s x).fst.Value <= 10000000 /\ ((q391 s x).snd ≠ Err.nil -> Q [] (atE (q394 s x).At (q391 s x).snd)) /\ (¬(q391 s x).snd ≠ Err.nil -> ((q390 s x).fst.Name = sBEGIN -> in64 ((0 : Int) + 1) /\ in64 ((0 : Int) + 1 + 1) /\ in64 ((0 : Int) + 1 + 1 + 1) /\ in64 ((0 : Int) + 1 + 1 + 1 + 1) /\ in64 ((0 : Int) + 1 + 1 + 1 + 1 + 1) /\ in64 ((0 : Int) + 1 + 1 + 1 + 1 + 1 + 1) /\ in64 ((0 : Int) + 1 + 1 + 1 + 1 + 1 + 1 + 1) /\ ((6 : Int) < (0 : Int) + 1 + 1 + 1 + 1 + 1 + 1 + 1 -> Q [] (atE (q394 s x).At (Err.no (12 : Int)))) /\ (¬(6 : Int) < (0 : Int) + 1 + 1 + 1 + 1 + 1 + 1 + 1 -> in64 (x + 1) /\ False)) /\ (¬(q390 s x).fst.Name = sBEGIN -> ((q390 s x).fst.Name = sEND /\ x_2 ≠ (q391 s x).fst -> Q [] (q396 s x)) /\ (¬((q390 s x).fst.Name = sEND /\ x_2 ≠ (q391 s x).fst) -> ((q390 s x).fst.Name ≠ sEND -> (q393 x_3 s x) * (some (72 : Nat)).getD (0 : Nat) <= 140737488355328 /\ in64 (x + 1) /\ I_6 (x + 1) x_1 x_2 (q392 x_3 s x) x_4 x_5 x_6 x_7 x_8 x_9 x_10 x_11 x_12 x_13 x_14 x_15 x_16 x_17 x_18 x_19 x_20 x_21 x_22 x_23 x_24 x_25 /\ m_6 (x + 1) x_1 x_2 (q392 x_3 s x) x_4 x_5 x_6 x_7 x_8 x_9 x_10 x_11 x_12 x_13 x_14 x_15 x_16 x_17 x_18 x_19 x_20 x_21 x_22 x_23 x_24 x_25 < m_6 x x_1 x_2 x_3 x_4 x_5 x_6 x_7 x_8 x_9 x_10 x_11 x_12 x_13 x_14 x_15 x_16 x_17 x_18 x_19 x_20 x_21 x_22 x_23 x_24 x_25) /\ (¬(q390 s x).fst.Name ≠ sEND -> ((q397 x_8) * (some (64 : Nat)).getD (0 : Nat) <= 140737488355328 /\ (0 : Int) <= (↑x_8.length : Int) /\ (↑x_8.length : Int) < (↑(q395 x_8).length : Int) /\ in64 (x + 1) /\ I_5 (x + 1) x_1 x_6 x_7 ((q395 x_8).set (↑x_8.length : Int).toNat (Comp.mk x_2 x_3 x_4)) x_9 x_10 x_11 x_12 x_13 x_14 x_15 x_16 x_17 x_18 x_19 x_20 x_21 x_22 x_23 x_24 x_25 /\ m_5 (x + 1) x_1 x_6 x_7 ((q395 x_8).set (↑x_8.length : Int).toNat (Comp.mk x_2 x_3 x_4)) x_9 x_10 x_11 x_12 x_13 x_14 x_15 x_16 x_17 x_18 x_19 x_20 x_21 x_22 x_23 x_24 x_25 < m_6 x x_1 x_2 x_3 x_4 x_5 x_6 x_7 x_8 x_9 x_10 x_11 x_12 x_13 x_14 x_15 x_16 x_17 x_18 x_19 x_20 x_21 x_22 x_23 x_24 x_25) /\ (x_8.length + [Comp.mk x_2 x_3 x_4].length) * (some (64 : Nat)).getD (0 : Nat) <= 140737488355328 /\ in64 (x + 1) /\ I_5 (x + 1) x_1 x_6 x_7 (x_8 ++ [Comp.mk x_2 x_3 x_4]) x_9 x_10 x_11 x_12 x_13 x_14 x_15 x_16 x_17 x_18 x_19 x_20 x_21 x_22 x_23 x_24 x_25 /\ m_5 (x + 1) x_1 x_6 x_7 (x_8 ++ [Comp.mk x_2 x_3 x_4]) x_9 x_10 x_11 x_12 x_13 x_14 x_15 x_16 x_17 x_18 x_19 x_20 x_21 x_22 x_23 x_24 x_25 < m_6 x x_1 x_2 x_3 x_4 x_5 x_6 x_7 x_8 x_9 x_10 x_11 x_12 x_13 x_14 x_15 x_16 x_17 x_18 x_19 x_20 x_21 x_22 x_23 x_24 x_25))))) /\ (¬(q390 s x).fst.Name = sBEGIN -> ((q390 s x).fst.Name = sEND /\ x_2 ≠ [] -> Q [] (q396 s x)) /\ (¬((q390 s x).fst.Name = sEND /\ x_2 ≠ []) -> ((q390 s x).fst.Name ≠ sEND -> (q393 x_3 s x) * (some (72 : Nat)).getD (0 : Nat) <= 140737488355328 /\ in64 (x + 1) /\ I_6 (x + 1) x_1 x_2 (q392 x_3 s x) x_4 x_5 x_6 x_7 x_8 x_9 x_10 x_11 x_12 x_13 x_14 x_15 x_16 x_17 x_18 x_19 x_20 x_21 x_22 x_23 x_24 x_25 /\ m_6 (x + 1) x_1 x_2 (q392 x_3 s x) x_4 x_5 x_6 x_7 x_8 x_9 x_10 x_11 x_12 x_13 x_14 x_15 x_16 x_17 x_18 x_19 x_20 x_21 x_22 x_23 x_24 x_25 < m_6 x x_1 x_2 x_3 x_4 x_5 x_6 x_7 x_8 x_9 x_10 x_11 x_12 x_13 x_14 x_15 x_16 x_17 x_18 x_19 x_20 x_21 x_22 x_23 x_24 x_25) /\ (¬(q390 s x).fst.Name ≠ sEND -> ((q397 x_8) * (some (64 : Nat)).getD (0 : Nat) <= 140737488355328 /\ (0 : Int) <= (↑x_8.length : Int) /\ (↑x_8.length : Int) < (↑(q395 x_8).length : Int) /\ in64 (x + 1) /\ I_5 (x + 1) x_1 x_6 x_7 ((q395 x_8).set (↑x_8.length : Int).toNat (Comp.mk x_2 x_3 x_4)) x_9 x_10 x_11 x_12 x_13 x_14 x_15 x_16 x_17 x_18 x_19 x_20 x_21 x_22 x_23 x_24 x_25 /\ m_5 (x + 1) x_1 x_6 x_7 ((q395 x_8).set (↑x_8.length : Int).toNat (Comp.mk x_2 x_3 x_4)) x_9 x_10 x_11 x_12 x_13 x_14 x_15 x_16 x_17 x_18 x_19 x_20 x_21 x_22 x_23 x_24 x_25 < m_6 x x_1 x_2 x_3 x_4 x_5 x_6 x_7 x_8 x_9 x_10 x_11 x_12 x_13 x_14 x_15 x_16 x_17 x_18 x_19 x_20 x_21 x_22 x_23 x_24 x_25) /\ (x_8.length + [Comp.mk x_2 x_3 x_4].length) * (some (64 : Nat)).getD (0 : Nat) <= 140737488355328 /\ in64 (x + 1) /\ I_5 (x + 1) x_1 x_6 x_7 (x_8 ++ [Comp.mk x_2 x_3 x_4]) x_9 x_10 x_11 x_12 x_13 x_14 x_15 x_16 x_17 x_18 x_19 x_20 x_21 x_22 x_23 x_24 x_25 /\ m_5 (x + 1) x_1 x_6 x_7 (x_8 ++ [Comp.mk x_2 x_3 x_4]) x_9 x_10 x_11 x_12 x_13 x_14 x_15 x_16 x_17 x_18 x_19 x_20 x_21 x_22 x_23 x_24 x_25 < m_6 x x_1 x_2 x_3 x_4 x_5 x_6 x_7 x_8 x_9 x_10 x_11 x_12 x_13 x_14 x_15 x_16 x_17 x_18 x_19 x_20 x_21 x_22 x_23 x_24 x_25)))) /\ (¬(q390 s x).fst.Name = sBEGIN -> ((q390 s x).fst.Name = sEND -> List.length (q390 s x).fst.Value <= 10000000 /\ ((q391 s x).snd ≠ Err.nil -> Q [] (atE (q394 s x).At (q391 s x).snd)) /\ (¬(q391 s x).snd ≠ Err.nil -> ((q390 s x).fst.Name = sBEGIN -> in64 ((0 : Int) + 1) /\ in64 ((0 : Int) + 1 + 1) /\ in64 ((0 : Int) + 1 + 1 + 1) /\ in64 ((0 : Int) + 1 + 1 + 1 + 1) /\ in64 ((0 : Int) + 1 + 1 + 1 + 1 + 1) /\ in64 ((0 : Int) + 1 + 1 + 1 + 1 + 1 + 1) /\ in64 ((0 : Int) + 1 + 1 + 1 + 1 + 1 + 1 + 1) /\ ((6 : Int) < (0 : Int) + 1 + 1 + 1 + 1 + 1 + 1 + 1 -> Q [] (atE (q394 s x).At (Err.no (12 : Int)))) /\ (¬(6 : Int) < (0 : Int) + 1 + 1 + 1 + 1 + 1 + 1 + 1 -> in64 (x + 1) /\ False)) /\ (¬(q390 s x).fst.Name = sBEGIN -> ((q390 s x).fst.Name = sEND /\ x_2 ≠ (q391 s x).fst -> Q [] (q396 s x)) /\ (¬((q390 s x).fst.Name = sEND /\ x_2 ≠ (q391 s x).fst) -> ((q390 s x).fst.Name ≠ sEND -> (q393 x_3 s x) * (some (72 : Nat)).getD (0 : Nat) <= 140737488355328 /\ in64 (x + 1) /\ I_6 (x + 1) x_1 x_2 (q392 x_3 s x) x_4 x_5 x_6 x_7 x_8 x_9 x_10 x_11 x_12 x_13 x_14 x_15 x_16 x_17 x_18 x_19 x_20 x_21 x_22 x_23 x_24 x_25 /\ m_6 (x + 1) x_1 x_2 (q392 x_3 s x) x_4 x_5 x_6 x_7 x_8 x_9 x_10 x_11 x_12 x_13 x_14 x_15 x_16 x_17 x_18 x_19 x_20 x_21 x_22 x_23 x_24 x_25 < m_6 x x_1 x_2 x_3 x_4 x_5 x_6 x_7 x_8 x_9 x_10 x_11 x_12 x_13 x_14 x_15 x_16 x_17 x_18 x_19 x_20 x_21 x_22 x_23 x_24 x_25) /\ (¬(q390 s x).fst.Name ≠ sEND -> ((q397 x_8) * (some (64 : Nat)).getD (0 : Nat) <= 140737488355328 /\ (0 : Int) <= (↑x_8.length : Int) /\ (↑x_8.length : Int) < (↑(q395 x_8).length : Int) /\ in64 (x + 1) /\ I_5 (x + 1) x_1 x_6 x_7 ((q395 x_8).set (↑x_8.length : Int).toNat (Comp.mk x_2 x_3 x_4)) x_9 x_10 x_11 x_12 x_13 x_14 x_15 x_16 x_17 x_18 x_19 x_20 x_21 x_22 x_23 x_24 x_25 /\ m_5 (x + 1) x_1 x_6 x_7 ((q395 x_8).set (↑x_8.length : Int).toNat (Comp.mk x_2 x_3 x_4)) x_9 x_10 x_11 x_12 x_13 x_14 x_15 x_16 x_17 x_18 x_19 x_20 x_21 x_22 x_23 x_24 x_25 < m_6 x x_1 x_2 x_3 x_4 x_5 x_6 x_7 x_8 x_9 x_10 x_11 x_12 x_13 x_14 x_15 x_16 x_17 x_18 x_19 x_20 x_21 x_22 x_23 x_24 x_25) /\ (x_8.length + [Comp.mk x_2 x_3 x_4].length) * (some (64 : Nat)).getD (0 : Nat) <= 140737488355328 /\ in64 (x + 1) /\ I_5 (x + 1) x_1 x_6 x_7 (x_8 ++ [Comp.mk x_2 x_3 x_4]) x_9 x_10 x_11 x_12 x_13 x_14 x_15 x_16 x_17 x_18 x_19 x_20 x_21 x_22 x_23 x_24 x_25 /\ m_5 (x + 1) x_1 x_6 x_7 (x_8 ++ [Comp.mk x_2 x_3 x_4]) x_9 x_10 x_11 x_12 x_13 x_14 x_15 x_16 x_17 x_18 x_19 x_20 x_21 x_22 x_23 x_24 x_25 < m_6 x x_1 x_2 x_3 x_4 x_5 x_6 x_7 x_8 x_9 x_10 x_11 x_12 x_13 x_14 x_15 x_16 x_17 x_18 x_19 x_20 x_21 x_22 x_23 x_24 x_25))))) /\ (¬(q390 s x).fst.Name = sEND -> ((q390 s x).fst.Name = sEND /\ x_2 ≠ [] -> Q [] (q396 s x)) /\ (¬((q390 s x).fst.Name = sEND /\ x_2 ≠ []) -> ((q390 s x).fst.Name ≠ sEND -> (q393 x_3 s x) * (some (72 : Nat)).getD (0 : Nat) <= 140737488355328 /\ in64 (x + 1) /\ I_6 (x + 1) x_1 x_2 (q392 x_3 s x) x_4 x_5 x_6 x_7 x_8 x_9 x_10 x_11 x_12 x_13 x_14 x_15 x_16 x_17 x_18 x_19 x_20 x_21 x_22 x_23 x_24 x_25 /\ m_6 (x + 1) x_1 x_2 (q392 x_3 s x) x_4 x_5 x_6 x_7 x_8 x_9 x_10 x_11 x_12 x_13 x_14 x_15 x_16 x_17 x_18 x_19 x_20 x_21 x_22 x_23 x_24 x_25 < m_6 x x_1 x_2 x_3 x_4 x_5 x_6 x_7 x_8 x_9 x_10 x_11 x_12 x_13 x_14 x_15 x_16 x_17 x_18 x_19 x_20 x_21 x_22 x_23 x_24 x_25) /\ (¬(q390 s x).fst.Name ≠ sEND -> ((q397 x_8) * (some (64 : Nat)).getD (0 : Nat) <= 140737488355328 /\ (0 : Int) <= (↑x_8.length : Int) /\ (↑x_8.length : Int) < (↑(q395 x_8).length : Int) /\ in64 (x + 1) /\ I_5 (x + 1) x_1 x_6 x_7 ((q395 x_8).set (↑x_8.length : Int).toNat (Comp.mk x_2 x_3 x_4)) x_9 x_10 x_11 x_12 x_13 x_14 x_15 x_16 x_17 x_18 x_19 x_20 x_21 x_22 x_23 x_24 x_25 /\ m_5 (x + 1) x_1 x_6 x_7 ((q395 x_8).set (↑x_8.length : Int).toNat (Comp.mk x_2 x_3 x_4)) x_9 x_10 x_11 x_12 x_13 x_14 x_15 x_16 x_17 x_18 x_19 x_20 x_21 x_22 x_23 x_24 x_25 < m_6 x x_1 x_2 x_3 x_4 x_5 x_6 x_7 x_8 x_9 x_10 x_11 x_12 x_13 x_14 x_15 x_16 x_17 x_18 x_19 x_20 x_21 x_22 x_23 x_24 x_25) /\ (x_8.length + [Comp.mk x_2 x_3 x_4].length) * (some (64 : Nat)).getD (0 : Nat) <= 140737488355328 /\ in64 (x + 1) /\ I_5 (x + 1) x_1 x_6 x_7 (x_8 ++ [Comp.mk x_2 x_3 x_4]) x_9 x_10 x_11 x_12 x_13 x_14 x_15 x_16 x_17 x_18 x_19 x_20 x_21 x_22 x_23 x_24 x_25 /\ m_5 (x + 1) x_1 x_6 x_7 (x_8 ++ [Comp.mk x_2 x_3 x_4]) x_9 x_10 x_11 x_12 x_13 x_14 x_15 x_16 x_17 x_18 x_19 x_20 x_21 x_22 x_23 x_24 x_25 < m_6 x x_1 x_2 x_3 x_4 x_5 x_6 x_7 x_8 x_9 x_10 x_11 x_12 x_13 x_14 x_15 x_16 x_17 x_18 x_19 x_20 x_21 x_22 x_23 x_24 x_25))))))) /\ (¬x < (↑(uR (unfoldS s)).fst.length : Int) -> Q [] (atE x_5 (Err.no (11 : Int))))) /\ True)
theorem V39_ok {s : Str} {Q : List Comp -> Err -> Prop} (h : V39 s Q) : vcFun (E:=NI28) (inlN an39 3) (an39 11) Tryz.f11 [.str s] [] [] 0 (resP NI28 [.acc 40,.err] Q):=Eq.mp (show V39 s Q = vcFun (E:=NI28) (inlN an39 3) (an39 11) Tryz.f11 [.str s] [] [] 0 (resP NI28 [.acc 40,.err] Q) by kernel_rfl) h
theorem p39 (s : Str) (hs : s.length <= 30000000) : V39 s (fun y0 y1=>y0 = (cR (compS s)).1 /\ y1 = cE (compS s)):=by
 unfold V39 q397 q396 q395 q394 q393 q392 q391 q390
 refine ⟨hs,fun he=>?_,fun he=>?_⟩
 . unfold compS
   cases hu : unfoldS s with
   | ok rows=>rw [hu] at he; exact absurd rfl he
   | error e=>exact ⟨rfl,rfl⟩
 cases hu : unfoldS s with
 | error e=>rw [hu] at he; exact absurd (fun h=>by cases h) he
 | ok rows =>
 have hR : compS s = goC rows [] []:=by unfold compS; rw [hu]
 have hrows : (uR (.ok rows)).1 = rows:=rfl
 generalize compS s = R at hR ⊢
 rw [hrows]
 obtain ⟨hr1,hr2⟩:=unfold_short hu
 clear he hu
 have h0 : InvC rows R 0 [] []:=⟨⟨by omega,by omega,by simp,fun f hf=>by cases hf⟩,hR⟩
 have in1 : ∀ {x : Int} {out : List Comp} {st : List Co.Frm},InvC rows R x out st -> x < rows.length -> in64 (x + 1):=fun h hx=>by have:=h.1; exact ⟨by omega,by omega⟩
 have bd : ∀ {x : Int} {α : Type} (l : List α) (z : α) (m : Nat),(l.length : Int) <= x -> x < rows.length -> m <= 1000 -> (l.length + [z].length) * m <= 140737488355328:=fun l z m h1 h2 h3=>by
  have e1 : l.length + [z].length <= 1001:=by simp only [List.length_cons,List.length_nil]; omega
  have:=Nat.mul_le_mul e1 h3; omega
 refine ⟨fun x out  => InvC rows R x out [],fun x _  => ((rows.length : Int) - x).toNat,fun x out n1 p1 c1 a1=>InvC rows R x out [(.mk n1 p1 c1,a1)],fun x _ _ _ _ _=>((rows.length : Int) - x).toNat,fun x out n1 p1 c1 a1 n2 p2 c2 a2=>InvC rows R x out [(.mk n1 p1 c1,a1),(.mk n2 p2 c2,a2)],fun x _ _ _ _ _ _ _ _ _=>((rows.length : Int) - x).toNat,fun x out n1 p1 c1 a1 n2 p2 c2 a2 n3 p3 c3 a3=>InvC rows R x out [(.mk n1 p1 c1,a1),(.mk n2 p2 c2,a2),(.mk n3 p3 c3,a3)],fun x _ _ _ _ _ _ _ _ _ _ _ _ _=>((rows.length : Int) - x).toNat,fun x out n1 p1 c1 a1 n2 p2 c2 a2 n3 p3 c3 a3 n4 p4 c4 a4=>InvC rows R x out [(.mk n1 p1 c1,a1),(.mk n2 p2 c2,a2),(.mk n3 p3 c3,a3),(.mk n4 p4 c4,a4)],fun x _ _ _ _ _ _ _ _ _ _ _ _ _ _ _ _ _=>((rows.length : Int) - x).toNat,fun x out n1 p1 c1 a1 n2 p2 c2 a2 n3 p3 c3 a3 n4 p4 c4 a4 n5 p5 c5 a5=>InvC rows R x out [(.mk n1 p1 c1,a1),(.mk n2 p2 c2,a2),(.mk n3 p3 c3,a3),(.mk n4 p4 c4,a4),(.mk n5 p5 c5,a5)],fun x _ _ _ _ _ _ _ _ _ _ _ _ _ _ _ _ _ _ _ _ _=>((rows.length : Int) - x).toNat,fun x out n1 p1 c1 a1 n2 p2 c2 a2 n3 p3 c3 a3 n4 p4 c4 a4 n5 p5 c5 a5 n6 p6 c6 a6=>InvC rows R x out [(.mk n1 p1 c1,a1),(.mk n2 p2 c2,a2),(.mk n3 p3 c3,a3),(.mk n4 p4 c4,a4),(.mk n5 p5 c5,a5),(.mk n6 p6 c6,a6)],fun x _ _ _ _ _ _ _ _ _ _ _ _ _ _ _ _ _ _ _ _ _ _ _ _ _=>((rows.length : Int) - x).toNat,h0,?_,?_,?_,?_,?_,?_,?_,trivial⟩
 . intro x out  h
   have h : InvC rows R x out []:=h
   refine ⟨fun hx=>?_,fun hx=>h.fin0 hx⟩
   obtain ⟨tl,vl⟩:=h.pp hx hr2
   have hl:=h.less hx
   exact ⟨h.1.1,hx,fun _=>⟨by omega,fun he=>h.bad hx he,fun ho=>⟨fun hB=>⟨fun _=>⟨by omega,fun hn=>h.begE hx ho hB hn,fun hn=>⟨fun _=>⟨⟨by omega,by omega⟩,fun hh=>absurd hh (by decide),fun _=>⟨in1 h hx,h.beg hx ho hB hn (show (0 : Nat) < 6 by decide),hl⟩⟩,fun hh=>absurd hB hh⟩⟩,fun hh=>absurd hB hh⟩,fun hB=>⟨fun hE=>⟨by omega,fun hn=>h.endE hx ho hB hE hn,fun hn=>⟨fun hh=>absurd hh hB,fun _=>h.none hx ho hB⟩⟩,fun hE=>h.none hx ho hB⟩⟩⟩⟩
 . intro x out n1 p1 c1 a1 h
   have h : InvC rows R x out [(.mk n1 p1 c1,a1)]:=h
   refine ⟨fun hx=>?_,fun hx=>h.fin hx⟩
   obtain ⟨tl,vl⟩:=h.pp hx hr2
   have hl:=h.less hx
   have h1:=h.1.2.2.2 _ (List.mem_cons_self ..)
   exact ⟨h.1.1,hx,fun _=>⟨by omega,fun he=>h.bad hx he,fun ho=>⟨fun hB=>⟨fun _=>⟨by omega,fun hn=>h.begE hx ho hB hn,fun hn=>⟨fun _=>⟨⟨by omega,by omega⟩,⟨by omega,by omega⟩,fun hh=>absurd hh (by decide),fun _=>⟨in1 h hx,h.beg hx ho hB hn (show (1 : Nat) < 6 by decide),hl⟩⟩,fun hh=>absurd hB hh⟩⟩,fun hh=>absurd hB hh⟩,fun hB=>⟨fun hE=>⟨by omega,fun hn=>h.endE hx ho hB hE hn,fun hn=>⟨fun hh=>absurd hh hB,fun _=>⟨fun hh=>h.endN hx ho hB hh,fun hh=>⟨fun hp=>absurd hE hp,fun _=>⟨bd out _ 64 h.1.2.2.1 hx (by decide),in1 h hx,h.pop1 hx ho hB hE hn hh,hl⟩⟩⟩⟩⟩,fun hE=>⟨fun hh=>absurd hh.1 hE,fun _=>⟨fun hp=>⟨bd p1 _ 72 h1.1 hx (by decide),in1 h hx,h.prop hx ho hB hp,hl⟩,fun hp=>(hp hE).elim⟩⟩⟩⟩⟩⟩
 . intro x out n1 p1 c1 a1 n2 p2 c2 a2 h
   have h : InvC rows R x out [(.mk n1 p1 c1,a1),(.mk n2 p2 c2,a2)]:=h
   refine ⟨fun hx=>?_,fun hx=>h.fin hx⟩
   obtain ⟨tl,vl⟩:=h.pp hx hr2
   have hl:=h.less hx
   have h1:=h.1.2.2.2 _ (List.mem_cons_self ..)
   have h2:=h.1.2.2.2 _ (List.mem_cons_of_mem _ (List.mem_cons_self ..))
   exact ⟨h.1.1,hx,fun _=>⟨by omega,fun he=>h.bad hx he,fun ho=>⟨fun hB=>⟨fun _=>⟨by omega,fun hn=>h.begE hx ho hB hn,fun hn=>⟨fun _=>⟨⟨by omega,by omega⟩,⟨by omega,by omega⟩,⟨by omega,by omega⟩,fun hh=>absurd hh (by decide),fun _=>⟨in1 h hx,h.beg hx ho hB hn (show (2 : Nat) < 6 by decide),hl⟩⟩,fun hh=>absurd hB hh⟩⟩,fun hh=>absurd hB hh⟩,fun hB=>⟨fun hE=>⟨by omega,fun hn=>h.endE hx ho hB hE hn,fun hn=>⟨fun hh=>absurd hh hB,fun _=>⟨fun hh=>h.endN hx ho hB hh,fun hh=>⟨fun hp=>absurd hE hp,fun _=>⟨⟨bd c2 _ 64 h2.2 hx (by decide),by omega,by simp only [List.length_append,List.length_cons,List.length_nil]; omega,in1 h hx,h.pop0 hx ho hB hE hn hh,hl⟩,bd c2 _ 64 h2.2 hx (by decide),in1 h hx,h.pop hx ho hB hE hn hh,hl⟩⟩⟩⟩⟩,fun hE=>⟨fun hh=>absurd hh.1 hE,fun _=>⟨fun hp=>⟨bd p1 _ 72 h1.1 hx (by decide),in1 h hx,h.prop hx ho hB hp,hl⟩,fun hp=>(hp hE).elim⟩⟩⟩⟩⟩⟩
 . intro x out n1 p1 c1 a1 n2 p2 c2 a2 n3 p3 c3 a3 h
   have h : InvC rows R x out [(.mk n1 p1 c1,a1),(.mk n2 p2 c2,a2),(.mk n3 p3 c3,a3)]:=h
   refine ⟨fun hx=>?_,fun hx=>h.fin hx⟩
   obtain ⟨tl,vl⟩:=h.pp hx hr2
   have hl:=h.less hx
   have h1:=h.1.2.2.2 _ (List.mem_cons_self ..)
   have h2:=h.1.2.2.2 _ (List.mem_cons_of_mem _ (List.mem_cons_self ..))
   exact ⟨h.1.1,hx,fun _=>⟨by omega,fun he=>h.bad hx he,fun ho=>⟨fun hB=>⟨fun _=>⟨by omega,fun hn=>h.begE hx ho hB hn,fun hn=>⟨fun _=>⟨⟨by omega,by omega⟩,⟨by omega,by omega⟩,⟨by omega,by omega⟩,⟨by omega,by omega⟩,fun hh=>absurd hh (by decide),fun _=>⟨in1 h hx,h.beg hx ho hB hn (show (3 : Nat) < 6 by decide),hl⟩⟩,fun hh=>absurd hB hh⟩⟩,fun hh=>absurd hB hh⟩,fun hB=>⟨fun hE=>⟨by omega,fun hn=>h.endE hx ho hB hE hn,fun hn=>⟨fun hh=>absurd hh hB,fun _=>⟨fun hh=>h.endN hx ho hB hh,fun hh=>⟨fun hp=>absurd hE hp,fun _=>⟨⟨bd c2 _ 64 h2.2 hx (by decide),by omega,by simp only [List.length_append,List.length_cons,List.length_nil]; omega,in1 h hx,h.pop0 hx ho hB hE hn hh,hl⟩,bd c2 _ 64 h2.2 hx (by decide),in1 h hx,h.pop hx ho hB hE hn hh,hl⟩⟩⟩⟩⟩,fun hE=>⟨fun hh=>absurd hh.1 hE,fun _=>⟨fun hp=>⟨bd p1 _ 72 h1.1 hx (by decide),in1 h hx,h.prop hx ho hB hp,hl⟩,fun hp=>(hp hE).elim⟩⟩⟩⟩⟩⟩
 . intro x out n1 p1 c1 a1 n2 p2 c2 a2 n3 p3 c3 a3 n4 p4 c4 a4 h
   have h : InvC rows R x out [(.mk n1 p1 c1,a1),(.mk n2 p2 c2,a2),(.mk n3 p3 c3,a3),(.mk n4 p4 c4,a4)]:=h
   refine ⟨fun hx=>?_,fun hx=>h.fin hx⟩
   obtain ⟨tl,vl⟩:=h.pp hx hr2
   have hl:=h.less hx
   have h1:=h.1.2.2.2 _ (List.mem_cons_self ..)
   have h2:=h.1.2.2.2 _ (List.mem_cons_of_mem _ (List.mem_cons_self ..))
   exact ⟨h.1.1,hx,fun _=>⟨by omega,fun he=>h.bad hx he,fun ho=>⟨fun hB=>⟨fun _=>⟨by omega,fun hn=>h.begE hx ho hB hn,fun hn=>⟨fun _=>⟨⟨by omega,by omega⟩,⟨by omega,by omega⟩,⟨by omega,by omega⟩,⟨by omega,by omega⟩,⟨by omega,by omega⟩,fun hh=>absurd hh (by decide),fun _=>⟨in1 h hx,h.beg hx ho hB hn (show (4 : Nat) < 6 by decide),hl⟩⟩,fun hh=>absurd hB hh⟩⟩,fun hh=>absurd hB hh⟩,fun hB=>⟨fun hE=>⟨by omega,fun hn=>h.endE hx ho hB hE hn,fun hn=>⟨fun hh=>absurd hh hB,fun _=>⟨fun hh=>h.endN hx ho hB hh,fun hh=>⟨fun hp=>absurd hE hp,fun _=>⟨⟨bd c2 _ 64 h2.2 hx (by decide),by omega,by simp only [List.length_append,List.length_cons,List.length_nil]; omega,in1 h hx,h.pop0 hx ho hB hE hn hh,hl⟩,bd c2 _ 64 h2.2 hx (by decide),in1 h hx,h.pop hx ho hB hE hn hh,hl⟩⟩⟩⟩⟩,fun hE=>⟨fun hh=>absurd hh.1 hE,fun _=>⟨fun hp=>⟨bd p1 _ 72 h1.1 hx (by decide),in1 h hx,h.prop hx ho hB hp,hl⟩,fun hp=>(hp hE).elim⟩⟩⟩⟩⟩⟩
 . intro x out n1 p1 c1 a1 n2 p2 c2 a2 n3 p3 c3 a3 n4 p4 c4 a4 n5 p5 c5 a5 h
   have h : InvC rows R x out [(.mk n1 p1 c1,a1),(.mk n2 p2 c2,a2),(.mk n3 p3 c3,a3),(.mk n4 p4 c4,a4),(.mk n5 p5 c5,a5)]:=h
   refine ⟨fun hx=>?_,fun hx=>h.fin hx⟩
   obtain ⟨tl,vl⟩:=h.pp hx hr2
   have hl:=h.less hx
   have h1:=h.1.2.2.2 _ (List.mem_cons_self ..)
   have h2:=h.1.2.2.2 _ (List.mem_cons_of_mem _ (List.mem_cons_self ..))
   exact ⟨h.1.1,hx,fun _=>⟨by omega,fun he=>h.bad hx he,fun ho=>⟨fun hB=>⟨fun _=>⟨by omega,fun hn=>h.begE hx ho hB hn,fun hn=>⟨fun _=>⟨⟨by omega,by omega⟩,⟨by omega,by omega⟩,⟨by omega,by omega⟩,⟨by omega,by omega⟩,⟨by omega,by omega⟩,⟨by omega,by omega⟩,fun hh=>absurd hh (by decide),fun _=>⟨in1 h hx,h.beg hx ho hB hn (show (5 : Nat) < 6 by decide),hl⟩⟩,fun hh=>absurd hB hh⟩⟩,fun hh=>absurd hB hh⟩,fun hB=>⟨fun hE=>⟨by omega,fun hn=>h.endE hx ho hB hE hn,fun hn=>⟨fun hh=>absurd hh hB,fun _=>⟨fun hh=>h.endN hx ho hB hh,fun hh=>⟨fun hp=>absurd hE hp,fun _=>⟨⟨bd c2 _ 64 h2.2 hx (by decide),by omega,by simp only [List.length_append,List.length_cons,List.length_nil]; omega,in1 h hx,h.pop0 hx ho hB hE hn hh,hl⟩,bd c2 _ 64 h2.2 hx (by decide),in1 h hx,h.pop hx ho hB hE hn hh,hl⟩⟩⟩⟩⟩,fun hE=>⟨fun hh=>absurd hh.1 hE,fun _=>⟨fun hp=>⟨bd p1 _ 72 h1.1 hx (by decide),in1 h hx,h.prop hx ho hB hp,hl⟩,fun hp=>(hp hE).elim⟩⟩⟩⟩⟩⟩
 . intro x out n1 p1 c1 a1 n2 p2 c2 a2 n3 p3 c3 a3 n4 p4 c4 a4 n5 p5 c5 a5 n6 p6 c6 a6 h
   have h : InvC rows R x out [(.mk n1 p1 c1,a1),(.mk n2 p2 c2,a2),(.mk n3 p3 c3,a3),(.mk n4 p4 c4,a4),(.mk n5 p5 c5,a5),(.mk n6 p6 c6,a6)]:=h
   refine ⟨fun hx=>?_,fun hx=>h.fin hx⟩
   obtain ⟨tl,vl⟩:=h.pp hx hr2
   have hl:=h.less hx
   have h1:=h.1.2.2.2 _ (List.mem_cons_self ..)
   have h2:=h.1.2.2.2 _ (List.mem_cons_of_mem _ (List.mem_cons_self ..))
   exact ⟨h.1.1,hx,fun _=>⟨by omega,fun he=>h.bad hx he,fun ho=>⟨fun hB=>⟨fun _=>⟨by omega,fun hn=>h.begE hx ho hB hn,fun hn=>⟨fun _=>⟨⟨by omega,by omega⟩,⟨by omega,by omega⟩,⟨by omega,by omega⟩,⟨by omega,by omega⟩,⟨by omega,by omega⟩,⟨by omega,by omega⟩,⟨by omega,by omega⟩,fun _=>h.begD hx ho hB hn (show 6 <= 6 by decide),fun hh=>absurd (by decide) hh⟩,fun hh=>absurd hB hh⟩⟩,fun hh=>absurd hB hh⟩,fun hB=>⟨fun hE=>⟨by omega,fun hn=>h.endE hx ho hB hE hn,fun hn=>⟨fun hh=>absurd hh hB,fun _=>⟨fun hh=>h.endN hx ho hB hh,fun hh=>⟨fun hp=>absurd hE hp,fun _=>⟨⟨bd c2 _ 64 h2.2 hx (by decide),by omega,by simp only [List.length_append,List.length_cons,List.length_nil]; omega,in1 h hx,h.pop0 hx ho hB hE hn hh,hl⟩,bd c2 _ 64 h2.2 hx (by decide),in1 h hx,h.pop hx ho hB hE hn hh,hl⟩⟩⟩⟩⟩,fun hE=>⟨fun hh=>absurd hh.1 hE,fun _=>⟨fun hp=>⟨bd p1 _ 72 h1.1 hx (by decide),in1 h hx,h.prop hx ho hB hp,hl⟩,fun hp=>(hp hE).elim⟩⟩⟩⟩⟩⟩
def c39 (a : List (SV U)) (nx : Nat) : Option (CR U):=match a with | [.str s]=>some ⟨[List.length (α:=UInt8) s <= 30000000],[],.tup [.acc nx,.err (cE (compS s))],[.ac 40 ((cR (compS s)).1)]⟩ | _=>none
theorem c39_ok (args : List (SV U)) (nx : Nat) (c : CR U) (h : c39 args nx = some c) (hp : args.all pureS = true) (ho : allP c.ob) : ConOK NI28.P NI28.N NI28.T NI28.G 11 args nx c:=by
 unfold c39 at h
 split at h
 . rename_i s
   cases h
   exact con2 NI28_ok (inlN_ok NI28_ok an39 3) Tryz.func11 (k1:=.acc 40) (k2:=.err) (x1:=(cR (compS s)).1) (x2:=cE (compS s)) rfl hp (V39_ok (p39 s ho.1))
 . cases h
noncomputable def N39 : Env:=NI28.addC 11 c39
theorem N39_ok : EnvOK N39:=NI28_ok.addC Tryz.call11 c39_ok
end Go.Proofs.YtadgfmmmdhlljaaGreatDoor
end
section
namespace Go.Co
open Go Go.Wk Go.Wl Go.Rx Go.Fo Go.Li
def finR (e a : Int) (r : Except (Int × Int) (List Comp)) : Except (Int × Int) (List Comp):=if e ≠ 0 then .error (e,a) else r
def goR (e a : Int) : List CRow -> List Frm -> List Comp -> Except (Int × Int) (List Comp)
 | [],[],out=>finR e a (.ok out)
 | [],(_,b) :: _,_=>finR e a (.error (11,b))
 | r :: rs,st,out=>match stepC st out r.At r.P with
  | .error e=>.error e
  | .ok q=>goR e a rs q.1 q.2
def sameP (a b : List Prp) : Bool:=decide (a = b)
noncomputable def sameC (a b : List Comp) : Bool:=@decide (a = b) (Classical.propDecidable _)
theorem sameC_iff {a b : List Comp} : sameC a b = true ↔ a = b:=by
 unfold sameC
 exact @decide_eq_true_iff _ (Classical.propDecidable _)
noncomputable def csz (l : List Comp) : Nat:=SizeOf.sizeOf l
theorem csz_in {l : List Comp} {i : Int} (h0 : 0 <= i) (h1 : i < l.length) : csz (ix l i).Comps < csz l:=by
 have h2:=List.sizeOf_lt_of_mem (ix_mem h0 h1)
 unfold csz
 generalize ix l i = c at h2 ⊢
 obtain ⟨n,p,cs⟩:=c
 rw [Comp.mk.sizeOf_spec] at h2
 show SizeOf.sizeOf cs < SizeOf.sizeOf l
 omega
theorem Comp.ext' {a b : Comp} (h1 : a.Name = b.Name) (h2 : a.Props = b.Props) (h3 : a.Comps = b.Comps) : a = b:=by
 obtain ⟨n,p,c⟩:=a
 obtain ⟨n',p',c'⟩:=b
 have h1 : n = n':=h1
 have h2 : p = p':=h2
 have h3 : c = c':=h3
 rw [h1,h2,h3]
def okP (p : Prp) : Prop:=p.Params.length <= 9223372036854775807 /\ ∀ x ∈ p.Params,x.Values.length <= 9223372036854775807
inductive OkC : Comp -> Prop
 | mk {n : Str} {p : List Prp} {c : List Comp} : p.length <= 100000000 -> (∀ x ∈ p,okP x) -> c.length <= 100000000 -> (∀ x ∈ c,OkC x) -> OkC (.mk n p c)
theorem OkC.out {c : Comp} (h : OkC c) : c.Props.length <= 100000000 /\ (∀ x ∈ c.Props,okP x) /\ c.Comps.length <= 100000000 /\ ∀ x ∈ c.Comps,OkC x:=by
 cases h with | mk h1 h2 h3 h4=>exact ⟨h1,h2,h3,h4⟩
end Go.Co
end
section
namespace Go.Proofs.YtadgfmmmdhlljaaGreatDoor
open Go Go.Wk Go.Wl Go.Rx Go.Fo Go.Li Go.Co 
def an45 : Nat -> Ann:=fun | 29=>⟨27,fun | 4=>some ⟨[0,1],[.slot 5 (.int .i64)]⟩ | _=>none,fun  | _=>none⟩ | _=>⟨0,fun _=>none,fun _=>none⟩
def V45 (a : List Prp) (b : List Prp) (Q : Bool -> Prop) : Prop :=
((↑a.length : Int) ≠ (↑b.length : Int) -> Q false) /\ (¬(↑a.length : Int) ≠ (↑b.length : Int) -> ∃ (I : Int -> Prop),∃ (m : Int -> Nat),I (0 : Int) /\ ∀ (x : Int),I x -> (x < (↑a.length : Int) -> ((0 : Int) <= x /\ x < (↑a.length : Int)) /\ ((0 : Int) <= x /\ x < (↑b.length : Int)) /\ ((ix a x).Params.length <= 9223372036854775807 /\ ∀ (x_1 : Param),x_1 ∈ (ix a x).Params -> x_1.Values.length <= 9223372036854775807) /\ (¬decide (Prp.mk (ix a x).Group (ix a x).Name (ix a x).Params (ix a x).Value = Prp.mk (ix b x).Group (ix b x).Name (ix b x).Params (ix b x).Value) = true -> Q false) /\ (¬¬decide (Prp.mk (ix a x).Group (ix a x).Name (ix a x).Params (ix a x).Value = Prp.mk (ix b x).Group (ix b x).Name (ix b x).Params (ix b x).Value) = true -> in64 (x + 1) /\ I (x + 1) /\ m (x + 1) < m x)) /\ (¬x < (↑a.length : Int) -> Q true))
theorem V45_ok {a : List Prp} {b : List Prp} {Q : Bool -> Prop} (h : V45 a b Q) : vcFun (E:=N39) (inlN an45 2) (an45 29) Tryz.f29 [.sl (N:=U) 58 a,.sl (N:=U) 58 b] [] [] 0 (resP N39 [.bool] Q):=Eq.mp (show V45 a b Q = vcFun (E:=N39) (inlN an45 2) (an45 29) Tryz.f29 [.sl (N:=U) 58 a,.sl (N:=U) 58 b] [] [] 0 (resP N39 [.bool] Q) by kernel_rfl) h
theorem p45 (a : List Prp) (b : List Prp) (hs : a.length <= 100000000) (hk : ∀ x ∈ a,okP x) : V45 a b (fun y0=>y0 = sameP a b):=by
 unfold V45 sameP
 refine ⟨fun h=>(decide_eq_false fun e=>by subst e; exact h rfl).symm,fun h=>?_⟩
 have hl : (a.length : Int) = b.length:=Classical.not_not.1 h
 refine ⟨fun x=>0 <= x /\ x <= a.length /\ ∀ j : Int,0 <= j -> j < x -> ix a j = ix b j,fun x=>((a.length : Int) - x).toNat,⟨by omega,by omega,fun j _ _=>by omega⟩,?_⟩
 rintro x ⟨x0,x1,hx⟩
 refine ⟨fun hi=>⟨⟨x0,hi⟩,⟨x0,by omega⟩,hk _ (ix_mem x0 hi),fun hb=>?_,fun hb=>⟨⟨by omega,by omega⟩,⟨by omega,by omega,fun j j0 j1=>?_⟩,by dsimp only; omega⟩⟩,fun hi=>?_⟩
 . refine (decide_eq_false fun e=>hb ?_).symm
   subst e; exact decide_eq_true rfl
 . by_cases e : j = x
   . subst e; exact of_decide_eq_true (Classical.not_not.1 hb)
   . exact hx j j0 (by omega)
 . exact (decide_eq_true (list_ix (by omega) fun j j0 j1=>hx j j0 (by omega))).symm
def c45 (a : List (SV U)) : Option (Q1 U):=match a with | [.sl 58 a,.sl 58 b]=>some ⟨[List.length (α:=Prp) a <= 100000000,∀ x ∈ (a : List Prp),okP x],[],blB (sameP a b)⟩ | _=>none
theorem c45_ok (args : List (SV U)) (q : Q1 U) (h : c45 args = some q) (ho : allP q.ob) : LendOK N39 29 args ⟨q.ob,q.hy,q.v,[]⟩:=by
 unfold c45 at h
 split at h
 . rename_i a b
   cases h
   exact lend1 N39_ok (inlN_ok N39_ok an45 2) Tryz.func29 (k:=.bool) (x:=sameP a b) trivial (V45_ok (p45 a b ho.1 ho.2.1)) 0
 . cases h
noncomputable def N45 : Env:=N39.addL 29 c45
theorem N45_ok : EnvOK N45:=N39_ok.addL Tryz.call29 c45_ok
noncomputable def c41b (o : List Prop) (a : List Comp) (b : List Comp) : Q1 U:=⟨o,[],blB (sameC a b)⟩
noncomputable def c41n (n : Nat) (a : List (SV U)) : Option (Q1 U):=match a with | [.sl 40 a,.sl 40 b]=>some (c41b [List.length (α:=Comp) a <= 100000000,∀ x ∈ (a : List Comp),OkC x,csz a < n] a b) | _=>none
noncomputable def E41 (n : Nat) : Env:=N45.addL 12 (c41n n)
theorem E41_ok {n : Nat} (h : ∀ args q,c41n n args = some q -> allP q.ob -> LendOK N45 12 args ⟨q.ob,q.hy,q.v,[]⟩) : EnvOK (E41 n):=N45_ok.addL Tryz.call12 h
def an41 : Nat -> Ann:=fun | 12=>⟨56,fun | 4=>some ⟨[0,1],[.slot 5 (.int .i64)]⟩ | _=>none,fun  | _=>none⟩ | _=>⟨0,fun _=>none,fun _=>none⟩
def V41 (n : Nat) (a : List Comp) (b : List Comp) (Q : Bool -> Prop) : Prop :=
((↑a.length : Int) ≠ (↑b.length : Int) -> Q false) /\ (¬(↑a.length : Int) ≠ (↑b.length : Int) -> ∃ (I : Int -> Prop),∃ (m : Int -> Nat),I (0 : Int) /\ ∀ (x : Int),I x -> (x < (↑a.length : Int) -> ((0 : Int) <= x /\ x < (↑a.length : Int)) /\ ((0 : Int) <= x /\ x < (↑b.length : Int)) /\ ((¬(ix a x).Name ≠ (ix b x).Name -> (0 : Int) <= x) /\ (¬(ix a x).Name ≠ (ix b x).Name -> x < (↑a.length : Int))) /\ ((¬(ix a x).Name ≠ (ix b x).Name -> (0 : Int) <= x) /\ (¬(ix a x).Name ≠ (ix b x).Name -> x < (↑b.length : Int))) /\ ((¬(ix a x).Name ≠ (ix b x).Name -> (ix a x).Props.length <= 100000000) /\ (¬(ix a x).Name ≠ (ix b x).Name -> ∀ (x_1 : Prp),x_1 ∈ (ix a x).Props -> okP x_1)) /\ ((¬((ix a x).Name ≠ (ix b x).Name ∨ ¬sameP (ix a x).Props (ix b x).Props = true) -> (0 : Int) <= x) /\ (¬((ix a x).Name ≠ (ix b x).Name ∨ ¬sameP (ix a x).Props (ix b x).Props = true) -> x < (↑a.length : Int))) /\ ((¬((ix a x).Name ≠ (ix b x).Name ∨ ¬sameP (ix a x).Props (ix b x).Props = true) -> (0 : Int) <= x) /\ (¬((ix a x).Name ≠ (ix b x).Name ∨ ¬sameP (ix a x).Props (ix b x).Props = true) -> x < (↑b.length : Int))) /\ ((¬((ix a x).Name ≠ (ix b x).Name ∨ ¬sameP (ix a x).Props (ix b x).Props = true) -> (ix a x).Comps.length <= 100000000) /\ (¬((ix a x).Name ≠ (ix b x).Name ∨ ¬sameP (ix a x).Props (ix b x).Props = true) -> ∀ (x_1 : Comp),x_1 ∈ (ix a x).Comps -> OkC x_1) /\ (¬((ix a x).Name ≠ (ix b x).Name ∨ ¬sameP (ix a x).Props (ix b x).Props = true) -> csz (ix a x).Comps < n)) /\ (((ix a x).Name ≠ (ix b x).Name ∨ ¬sameP (ix a x).Props (ix b x).Props = true) ∨ ¬sameC (ix a x).Comps (ix b x).Comps = true -> Q false) /\ (¬(((ix a x).Name ≠ (ix b x).Name ∨ ¬sameP (ix a x).Props (ix b x).Props = true) ∨ ¬sameC (ix a x).Comps (ix b x).Comps = true) -> in64 (x + 1) /\ I (x + 1) /\ m (x + 1) < m x)) /\ (¬x < (↑a.length : Int) -> Q true))
theorem V41_ok {n : Nat} {a : List Comp} {b : List Comp} {Q : Bool -> Prop} (h : V41 n a b Q) : vcFun (E:=E41 n) (inlN an41 2) (an41 12) Tryz.f12 [.sl (N:=U) 40 a,.sl (N:=U) 40 b] [] [] 0 (resP (E41 n) [.bool] Q):=Eq.mp (show V41 n a b Q = vcFun (E:=E41 n) (inlN an41 2) (an41 12) Tryz.f12 [.sl (N:=U) 40 a,.sl (N:=U) 40 b] [] [] 0 (resP (E41 n) [.bool] Q) by kernel_rfl) h
theorem p41 (n : Nat) (a : List Comp) (b : List Comp) (hs : a.length <= 100000000) (hk : ∀ x ∈ a,OkC x) (hr : csz a < n + 1) : V41 n a b (fun y=>y = sameC a b):=by
 unfold V41
 have ne : ¬ a = b -> false = sameC a b:=fun h=>by
  cases e : sameC a b with
  | false=>rfl
  | true=>exact absurd (sameC_iff.1 e) h
 refine ⟨fun h=>ne fun e=>by subst e; exact h rfl,fun h=>?_⟩
 have hl : (a.length : Int) = b.length:=Classical.not_not.1 h
 refine ⟨fun x=>0 <= x /\ x <= a.length /\ ∀ j : Int,0 <= j -> j < x -> ix a j = ix b j,fun x=>((a.length : Int) - x).toNat,⟨by omega,by omega,fun j _ _=>by omega⟩,?_⟩
 rintro x ⟨x0,x1,hx⟩
 refine ⟨fun hi=>?_,fun hi=>?_⟩
 . have hb : x < (b.length : Int):=by omega
   obtain ⟨k1,k2,k3,k4⟩:=(hk _ (ix_mem x0 hi)).out
   refine ⟨⟨x0,hi⟩,⟨x0,hb⟩,⟨fun _=>x0,fun _=>hi⟩,⟨fun _=>x0,fun _=>hb⟩,⟨fun _=>k1,fun _=>k2⟩,⟨fun _=>x0,fun _=>hi⟩,⟨fun _=>x0,fun _=>hb⟩,⟨fun _=>k3,fun _=>k4,fun _=>by have:=csz_in x0 hi; omega⟩,fun hd=>?_,fun hd=>⟨⟨by omega,by omega⟩,⟨by omega,by omega,fun j j0 j1=>?_⟩,by dsimp only; omega⟩⟩
   . refine ne fun e=>?_
     subst e
     rcases hd with (hd | hd) | hd
     . exact hd rfl
     . exact hd (by unfold sameP; exact decide_eq_true rfl)
     . exact hd (sameC_iff.2 rfl)
   . by_cases e : j = x
     . subst e
       have h2 : sameP (ix a j).Props (ix b j).Props = true:=Classical.byContradiction fun n=>hd (.inl (.inr n))
       unfold sameP at h2
       exact Comp.ext' (Classical.byContradiction fun n=>hd (.inl (.inl n))) (of_decide_eq_true h2) (sameC_iff.1 (Classical.byContradiction fun n=>hd (.inr n)))
     . exact hx j j0 (by omega)
 . exact (sameC_iff.2 (list_ix (by omega) fun j j0 j1=>hx j j0 (by omega))).symm
theorem c41n_ok : ∀ (n : Nat) (args : List (SV U)) (q : Q1 U),c41n n args = some q -> allP q.ob -> LendOK N45 12 args ⟨q.ob,q.hy,q.v,[]⟩
 | 0,args,q,h,ho=>by
  unfold c41n at h
  split at h
  . rename_i a b
    cases h
    exact absurd ho.2.2.1 (Nat.not_lt_zero _)
  . cases h
 | n + 1,args,q,h,ho=>by
  have hE:=E41_ok (c41n_ok n)
  unfold c41n at h
  split at h
  . rename_i a b
    cases h
    exact fun D w vs h1 h2 h3=>lend1 hE (inlN_ok hE an41 2) Tryz.func12 (k:=.bool) trivial (V41_ok (p41 n a b ho.1 ho.2.1 ho.2.2.1)) 0 D w vs h1 h2 h3
  . cases h
noncomputable def c41 (a : List (SV U)) : Option (Q1 U):=match a with | [.sl 40 a,.sl 40 b]=>some (c41b [List.length (α:=Comp) a <= 100000000,∀ x ∈ (a : List Comp),OkC x] a b) | _=>none
theorem c41_ok (args : List (SV U)) (q : Q1 U) (h : c41 args = some q) (ho : allP q.ob) : LendOK N45 12 args ⟨q.ob,q.hy,q.v,[]⟩:=by
 unfold c41 at h
 split at h
 . rename_i a b
   cases h
   exact fun D w vs h1 h2 h3=>c41n_ok (csz a + 1) [.sl 40 a,.sl 40 b] (c41b [List.length (α:=Comp) a <= 100000000,∀ x ∈ (a : List Comp),OkC x,csz a < csz a + 1] a b) rfl ⟨ho.1,ho.2.1,Nat.lt_succ_self _,trivial⟩ D w vs h1 h2 h3
 . cases h
noncomputable def N41 : Env:=N45.addL 12 c41
theorem N41_ok : EnvOK N41:=N45_ok.addL Tryz.call12 c41_ok
theorem filt_next {α : Type} [Inhabited α] {l : List α} {p : α -> Bool} {i : Int} (h0 : 0 <= i) (h1 : i < l.length) : (l.take (i + 1).toNat).filter p = (l.take i.toNat).filter p ++ if p (ix l i) = true then [ix l i] else []:=by
 rw [take_next h0 h1,List.filter_append]
 congr 1
 rw [List.filter_cons,List.filter_nil]
theorem filt_len {α : Type} {l : List α} {p : α -> Bool} {i : Int} (h0 : 0 <= i) : (((l.take i.toNat).filter p).length : Int) <= i:=by
 have h1:=List.length_filter_le p (l.take i.toNat)
 have h2 : (l.take i.toNat).length <= i.toNat:=by rw [List.length_take]; exact Nat.min_le_left _ _
 omega
def an47 : Nat -> Ann:=fun | 19=>⟨25,fun | 3=>some ⟨[1,9,10],[.slot 5 (.acc 40),.slot 11 (.int .i64)]⟩ | _=>none,fun  | _=>none⟩ | _=>⟨0,fun _=>none,fun _=>none⟩
def V47 (c : Comp) (n : Str) (Q : List Comp -> Prop) : Prop :=
∃ (I : List Comp -> Int -> Prop),∃ (m : List Comp -> Int -> Nat),I [] (0 : Int) /\ ∀ (x : List Comp) (x_1 : Int),I x x_1 -> (x_1 < (↑c.Comps.length : Int) -> (0 : Int) <= x_1 /\ x_1 < (↑c.Comps.length : Int) /\ ((ix c.Comps x_1).Name = n -> (x.length + [Comp.mk (ix c.Comps x_1).Name (ix c.Comps x_1).Props (ix c.Comps x_1).Comps].length) * (some (64 : Nat)).getD (0 : Nat) <= 140737488355328 /\ in64 (x_1 + 1) /\ I (x ++ [Comp.mk (ix c.Comps x_1).Name (ix c.Comps x_1).Props (ix c.Comps x_1).Comps]) (x_1 + 1) /\ m (x ++ [Comp.mk (ix c.Comps x_1).Name (ix c.Comps x_1).Props (ix c.Comps x_1).Comps]) (x_1 + 1) < m x x_1) /\ (¬(ix c.Comps x_1).Name = n -> in64 (x_1 + 1) /\ I x (x_1 + 1) /\ m x (x_1 + 1) < m x x_1)) /\ (¬x_1 < (↑c.Comps.length : Int) -> Q x)
theorem V47_ok {c : Comp} {n : Str} {Q : List Comp -> Prop} (h : V47 c n Q) : vcFun (E:=N41) (inlN an47 2) (an47 19) Tryz.f19 [.agg [.str c.Name,.sl (N:=U) 58 c.Props,.sl (N:=U) 40 c.Comps],.str n] [] [] 0 (resP N41 [.acc 40] Q):=Eq.mp (show V47 c n Q = vcFun (E:=N41) (inlN an47 2) (an47 19) Tryz.f19 [.agg [.str c.Name,.sl (N:=U) 58 c.Props,.sl (N:=U) 40 c.Comps],.str n] [] [] 0 (resP N41 [.acc 40] Q) by kernel_rfl) h
def allC_ (c : Comp) (n : Str) : List Comp:=c.Comps.filter fun p=>decide (p.Name = n)
theorem p47 (c : Comp) (n : Str) (hs : c.Comps.length <= 100000000) : V47 c n (fun y0=>y0 = allC_ c n):=by
 unfold V47 allC_
 refine ⟨fun x i=>0 <= i /\ i <= c.Comps.length /\ x = (c.Comps.take i.toNat).filter (fun p=>decide (p.Name = n)),fun _ i=>((c.Comps.length : Int) - i).toNat,⟨by omega,by omega,by simp⟩,?_⟩
 rintro x i ⟨i0,i1,rfl⟩
 have hl:=filt_len (l:=c.Comps) (p:=fun p=>decide (p.Name = n)) i0
 refine ⟨fun hi=>⟨i0,hi,fun hn=>⟨by simp only [List.length_cons,List.length_nil,Option.getD_some]; omega,⟨by omega,by omega⟩,⟨by omega,by omega,?_⟩,by dsimp only; omega⟩,fun hn=>⟨⟨by omega,by omega⟩,⟨by omega,by omega,?_⟩,by dsimp only; omega⟩⟩,fun hi=>?_⟩
 . rw [filt_next i0 hi,if_pos (by simpa using hn),Comp.eta]
 . rw [filt_next i0 hi,if_neg (by simpa using hn),List.append_nil]
 . rw [List.take_of_length_le (by omega)]
def c47s (c : Comp) (n : Str) (nx : Nat) : CR U:=⟨[List.length (α:=Comp) c.Comps <= 100000000],[],.acc nx,[.ac 40 (allC_ c n)]⟩
def c47 (a : List (SV U)) (nx : Nat) : Option (CR U):=match a with | [.agg [.str c0,.sl 58 c1,.sl 40 c2],.str n]=>some (c47s (⟨c0,c1,c2⟩) n nx) | _=>none
theorem c47_ok (args : List (SV U)) (nx : Nat) (c : CR U) (h : c47 args nx = some c) (hp : args.all pureS = true) (ho : allP c.ob) : ConOK N41.P N41.N N41.T N41.G 19 args nx c:=by
 unfold c47 at h
 split at h
 . rename_i c0 c1 c2 n
   cases h
   exact con1 N41_ok (inlN_ok N41_ok an47 2) Tryz.func19 (k:=.acc 40) hp (V47_ok (p47 (⟨c0,c1,c2⟩) n ho.1))
 . cases h
noncomputable def N47 : Env:=N41.addC 19 c47
theorem N47_ok : EnvOK N47:=N41_ok.addC Tryz.call19 c47_ok
end Go.Proofs.YtadgfmmmdhlljaaGreatDoor
end
section
namespace Go.Co
open Go Go.Wk Go.Wl Go.Rx Go.Fo Go.Li
section
variable (rows : List CRow) (e a : Int) (R : Except (Int × Int) (List Comp))
def InvR (x : Int) (out : List Comp) (st : List Frm) : Prop :=
 (0 <= x /\ x <= rows.length /\ (out.length : Int) <= x /\ ∀ f ∈ st,(f.1.Props.length : Int) <= x /\ (f.1.Comps.length : Int) <= x) /\ R = goR e a (rows.drop x.toNat) st out
end
section
variable {rows : List CRow} {e a : Int} {R : Except (Int × Int) (List Comp)} {x : Int} {out : List Comp} {st : List Frm} {c d : Comp} {b b' : Int}
theorem InvR.next (h : InvR rows e a R x out st) (hx : x < rows.length) : R = goR e a (ix rows x :: rows.drop (x + 1).toNat) st out:=by rw [<- drop_ix h.1.1 hx]; exact h.2
theorem InvR.err (h : InvR rows e a R x out st) (hx : x < rows.length) {n : Int} (hs : stepC st out (ix rows x).At (ix rows x).P = .error (n,(ix rows x).At)) : [] = (cR R).1 /\ n = (cR R).2.1 /\ (ix rows x).At = (cR R).2.2:=by
 rw [h.next hx,goR,hs]
 exact ⟨rfl,rfl,rfl⟩
theorem InvR.ok (h : InvR rows e a R x out st) (hx : x < rows.length) {st' : List Frm} {out' : List Comp} (hs : stepC st out (ix rows x).At (ix rows x).P = .ok (st',out')) (h1 : (out'.length : Int) <= x + 1) (h2 : ∀ f ∈ st',(f.1.Props.length : Int) <= x + 1 /\ (f.1.Comps.length : Int) <= x + 1) : InvR rows e a R (x + 1) out' st':=by
 have h0:=h.1.1
 refine ⟨⟨by omega,by omega,h1,h2⟩,?_⟩
 rw [h.next hx,goR,hs]
end
def capN (n : Nat) : Int:=min (n : Int) 100000
def wProps (few : Prp -> Bool) : List Prp -> Int -> Option Int
 | [],n=>some n
 | p :: l,n=>if few p = true then wProps few l (n + 1 + p.Value.length + p.Name.length + 10 * p.Params.length) else none
def wLoop (few : Prp -> Bool) (f : List Comp -> Int) : List Comp -> Int -> Int
 | [],n=>min n 100000
 | c :: l,n=>if 60 < (c.Props.length : Int) then 100000 else match wProps few c.Props (n + capN c.Name.length) with
  | none=>100000
  | some m=>wLoop few f l (if m < 100000 then m + f c.Comps else m)
def wgt (few : Prp -> Bool) : Nat -> List Comp -> Int
 | 0,_=>100000
 | r + 1,l=>if 60 < (l.length : Int) then 100000 else wLoop few (wgt few r) l l.length
theorem wProps_ge {few : Prp -> Bool} : ∀ (l : List Prp) (n m : Int),wProps few l n = some m -> n <= m /\ ∀ p ∈ l,few p = true
 | [],n,m,h=>by cases h; exact ⟨Int.le_refl _,fun p hp=>by cases hp⟩
 | p :: l,n,m,h=>by
  unfold wProps at h
  split at h
  . rename_i hf
    obtain ⟨h1,h2⟩:=wProps_ge l _ m h
    refine ⟨by omega,fun q hq=>?_⟩
    rcases List.mem_cons.1 hq with rfl | hq
    . exact hf
    . exact h2 q hq
  . cases h
theorem wLoop_ge {few : Prp -> Bool} {f : List Comp -> Int} (hf : ∀ l,0 <= f l /\ f l <= 100000) : ∀ (l : List Comp) (n : Int),0 <= n -> 0 <= wLoop few f l n /\ wLoop few f l n <= 100000 /\ (wLoop few f l n < 100000 -> n <= wLoop few f l n /\ ∀ c ∈ l,c.Props.length <= 60 /\ (∀ p ∈ c.Props,few p = true) /\ capN c.Name.length <= wLoop few f l n /\ f c.Comps <= wLoop few f l n)
 | [],n,h=>by
  unfold wLoop
  exact ⟨by omega,by omega,fun hl=>⟨by omega,fun c hc=>by cases hc⟩⟩
 | c :: l,n,h=>by
  unfold wLoop
  split
  . exact ⟨by omega,by omega,fun hl=>absurd hl (by omega)⟩
  . rename_i h60
    split
    . exact ⟨by omega,by omega,fun hl=>absurd hl (by omega)⟩
    . rename_i m hm
      obtain ⟨h1,h2⟩:=wProps_ge _ _ _ hm
      have hc0 : 0 <= capN c.Name.length:=by unfold capN; omega
      have hfc:=hf c.Comps
      have ih:=wLoop_ge (few:=few) hf l (if m < 100000 then m + f c.Comps else m) (by split <;> omega)
      refine ⟨ih.1,ih.2.1,fun hl=>?_⟩
      obtain ⟨h3,h4⟩:=ih.2.2 hl
      have hm1 : m < 100000:=by
       rcases Int.lt_or_le m 100000 with h | h
       . exact h
       . rw [if_neg (by omega)] at h3 hl; omega
      rw [if_pos hm1] at h3 h4 hl ⊢
      refine ⟨by omega,fun d hd=>?_⟩
      rcases List.mem_cons.1 hd with rfl | hd
      . exact ⟨by omega,h2,by omega,by omega⟩
      . exact h4 d hd
theorem wgt_ge (few : Prp -> Bool) : ∀ (r : Nat) (l : List Comp),0 <= wgt few r l /\ wgt few r l <= 100000
 | 0,l=>by unfold wgt; omega
 | r + 1,l=>by
  unfold wgt
  split
  . omega
  . have:=wLoop_ge (few:=few) (f:=wgt few r) (wgt_ge few r) l l.length (by omega)
    exact ⟨this.1,this.2.1⟩
inductive FewC (few : Prp -> Bool) : Comp -> Prop
 | mk {n : Str} {p : List Prp} {c : List Comp} : n.length <= 8000 -> p.length <= 60 -> (∀ x ∈ p,few x = true) -> c.length <= 60 -> (∀ x ∈ c,FewC few x) -> FewC few (.mk n p c)
theorem FewC.out {few : Prp -> Bool} {c : Comp} (h : FewC few c) : c.Name.length <= 8000 /\ c.Props.length <= 60 /\ (∀ x ∈ c.Props,few x = true) /\ c.Comps.length <= 60 /\ ∀ x ∈ c.Comps,FewC few x:=by
 cases h with | mk h1 h2 h3 h4 h5=>exact ⟨h1,h2,h3,h4,h5⟩
theorem wgt_few {few : Prp -> Bool} : ∀ (r : Nat) (l : List Comp),wgt few r l <= 8000 -> l.length <= 60 /\ ∀ c ∈ l,FewC few c
 | 0,l,h=>by unfold wgt at h; omega
 | r + 1,l,h=>by
  unfold wgt at h
  split at h
  . omega
  . have hl:=wLoop_ge (few:=few) (f:=wgt few r) (wgt_ge few r) l l.length (by omega)
    obtain ⟨h1,h2⟩:=hl.2.2 (by omega)
    refine ⟨by omega,fun c hc=>?_⟩
    obtain ⟨a1,a2,a3,a4⟩:=h2 c hc
    obtain ⟨b1,b2⟩:=wgt_few (few:=few) r c.Comps (by omega)
    obtain ⟨n,p,cs⟩:=c
    exact .mk (by unfold capN at a3; have a3 : min ((n.length : Int)) 100000 <= _:=a3; omega) a1 a2 b1 b2
theorem FewC.okC {few : Prp -> Bool} (hf : ∀ p,few p = true -> okP p) : ∀ {c : Comp},FewC few c -> OkC c:=fun {c} h=>by
 induction h with
 | mk h1 h2 h3 h4 _ ih=>exact .mk (by omega) (fun x hx=>hf x (h3 x hx)) (by omega) ih
end Go.Co
end
section
namespace Go.Proofs.YtadgfmmmdhlljaaGreatDoor
open Go Go.Wk Go.Wl Go.Rx Go.Fo Go.Li Go.Co Go.Proofs
theorem few_small {p : Prp} (h : fewP p = true) : smallP p:=by
 unfold fewP at h
 obtain ⟨h1,h2⟩:=of_decide_eq_true h
 unfold fewN at h2
 have a1:=capI_le p.Value.length
 have a2:=capI_le p.Name.length
 have a3:=capI_le p.Group.length
 have a4:=psum_le (p.Params.take 31)
 have e : p.Params.take 31 = p.Params:=List.take_of_length_le (by omega)
 rw [e] at h2 a4
 have b1:=capI_small (n:=p.Value.length) (k:=5000) (by omega) (by decide)
 have b2:=capI_small (n:=p.Name.length) (k:=5000) (by omega) (by decide)
 have b3:=capI_small (n:=p.Group.length) (k:=5000) (by omega) (by decide)
 refine ⟨by omega,by omega,by omega,by omega,fun x hx=>?_⟩
 have c:=psum_mem hx
 unfold xsum at c
 have c1:=capI_le x.Name.length
 have c2:=capI_le x.Values.length
 have c3:=vsum_le (x.Values.take 31)
 have d1:=capI_small (n:=x.Name.length) (k:=5000) (by omega) (by decide)
 have d2:=capI_small (n:=x.Values.length) (k:=5000) (by omega) (by decide)
 refine ⟨by omega,by omega,fun v hv=>?_⟩
 have c4:=vsum_mem hv
 have d3:=capI_small (n:=v.length) (k:=5000) (by omega) (by decide)
 omega
end Go.Proofs.YtadgfmmmdhlljaaGreatDoor
end
section
namespace Go.Proofs.YtadgfmmmdhlljaaGreatDoor
open Go Go.Wk Go.Wl Go.Rx Go.Fo Go.Li Go.Co 
noncomputable def c89b (o : List Prop) (l : List Comp) (d : Int) : Q1 U:=⟨o,[],.int .i64 (wgt fewP (11 - d).toNat l)⟩
noncomputable def c89n (n : Nat) (a : List (SV U)) : Option (Q1 U):=match a with | [.sl 40 l,.int .i64 d]=>some (c89b [0 <= d,d <= 11,(11 - d).toNat < n] l d) | _=>none
noncomputable def E89 (n : Nat) : Env:=N47.addL 18 (c89n n)
theorem E89_ok {n : Nat} (h : ∀ args q,c89n n args = some q -> allP q.ob -> LendOK N47 18 args ⟨q.ob,q.hy,q.v,[]⟩) : EnvOK (E89 n):=N47_ok.addL Tryz.call18 h
def an89 : Nat -> Ann:=fun | 18=>⟨97,fun | 5=>some ⟨[0,1,19],[.slot 5 (.int .i64),.slot 20 (.int .i64)]⟩ | 11=>some ⟨[0,1,6,19,20,44],[.slot 5 (.int .i64),.slot 45 (.int .i64)]⟩ | _=>none,fun  | _=>none⟩ | _=>⟨0,fun _=>none,fun _=>none⟩
def V89 (n : Nat) (l : List Comp) (d : Int) (Q : Int -> Prop) : Prop :=
((10 : Int) < d ∨ (60 : Int) < (↑l.length : Int) -> Q (100000 : Int)) /\ (¬((10 : Int) < d ∨ (60 : Int) < (↑l.length : Int)) -> ∃ (I : Int -> Int -> Prop),∃ (m : Int -> Int -> Nat),I (↑l.length : Int) (0 : Int) /\ ∀ (x x_1 : Int),I x x_1 -> (x_1 < (↑l.length : Int) -> (0 : Int) <= x_1 /\ x_1 < (↑l.length : Int) /\ ((60 : Int) < (↑(ix l x_1).Props.length : Int) -> Q (100000 : Int)) /\ (¬(60 : Int) < (↑(ix l x_1).Props.length : Int) -> (0 : Int) <= x_1 /\ x_1 < (↑l.length : Int) /\ in64 (x + bif false then max (↑(List.length (ix l x_1).Name) : Int) (100000 : Int) else min (↑(List.length (ix l x_1).Name) : Int) (100000 : Int)) /\ (0 : Int) <= x_1 /\ x_1 < (↑l.length : Int) /\ ∃ (I_1 : Int -> Int -> Prop),∃ (m_1 : Int -> Int -> Nat),I_1 (x + bif false then max (↑(List.length (ix l x_1).Name) : Int) (100000 : Int) else min (↑(List.length (ix l x_1).Name) : Int) (100000 : Int)) (0 : Int) /\ ∀ (x_2 x_3 : Int),I_1 x_2 x_3 -> (x_3 < (↑(ix l x_1).Props.length : Int) -> (0 : Int) <= x_1 /\ x_1 < (↑l.length : Int) /\ (0 : Int) <= x_3 /\ x_3 < (↑(ix l x_1).Props.length : Int) /\ (¬fewP (Prp.mk (ix (ix l x_1).Props x_3).Group (ix (ix l x_1).Props x_3).Name (ix (ix l x_1).Props x_3).Params (ix (ix l x_1).Props x_3).Value) = true -> Q (100000 : Int)) /\ (¬¬fewP (Prp.mk (ix (ix l x_1).Props x_3).Group (ix (ix l x_1).Props x_3).Name (ix (ix l x_1).Props x_3).Params (ix (ix l x_1).Props x_3).Value) = true -> (0 : Int) <= x_1 /\ x_1 < (↑l.length : Int) /\ (0 : Int) <= x_3 /\ x_3 < (↑(ix l x_1).Props.length : Int) /\ in64 (x_2 + 1) /\ in64 (x_2 + 1 + (↑(List.length (ix (ix l x_1).Props x_3).Value) : Int)) /\ in64 (x_2 + 1 + (↑(List.length (ix (ix l x_1).Props x_3).Value) : Int) + (↑(List.length (ix (ix l x_1).Props x_3).Name) : Int)) /\ in64 ((10 : Int) * (↑(ix (ix l x_1).Props x_3).Params.length : Int)) /\ in64 (x_2 + 1 + (↑(List.length (ix (ix l x_1).Props x_3).Value) : Int) + (↑(List.length (ix (ix l x_1).Props x_3).Name) : Int) + 10 * (↑(ix (ix l x_1).Props x_3).Params.length : Int)) /\ in64 (x_3 + 1) /\ I_1 (x_2 + 1 + (↑(List.length (ix (ix l x_1).Props x_3).Value) : Int) + (↑(List.length (ix (ix l x_1).Props x_3).Name) : Int) + 10 * (↑(ix (ix l x_1).Props x_3).Params.length : Int)) (x_3 + 1) /\ m_1 (x_2 + 1 + (↑(List.length (ix (ix l x_1).Props x_3).Value) : Int) + (↑(List.length (ix (ix l x_1).Props x_3).Name) : Int) + 10 * (↑(ix (ix l x_1).Props x_3).Params.length : Int)) (x_3 + 1) < m_1 x_2 x_3)) /\ (¬x_3 < (↑(ix l x_1).Props.length : Int) -> (x_2 < 100000 -> (0 : Int) <= x_1 /\ x_1 < (↑l.length : Int) /\ in64 (d + 1) /\ (0 : Int) <= d + 1 /\ d + 1 <= 11 /\ ((11 : Int) - (d + 1)).toNat < n /\ in64 (x_2 + wgt fewP ((11 : Int) - (d + 1)).toNat (ix l x_1).Comps) /\ in64 (x_1 + 1) /\ I (x_2 + wgt fewP ((11 : Int) - (d + 1)).toNat (ix l x_1).Comps) (x_1 + 1) /\ m (x_2 + wgt fewP ((11 : Int) - (d + 1)).toNat (ix l x_1).Comps) (x_1 + 1) < m x x_1) /\ (¬x_2 < 100000 -> in64 (x_1 + 1) /\ I x_2 (x_1 + 1) /\ m x_2 (x_1 + 1) < m x x_1)))) /\ (¬x_1 < (↑l.length : Int) -> Q (bif false then max x (100000 : Int) else min x (100000 : Int))))
theorem V89_ok {n : Nat} {l : List Comp} {d : Int} {Q : Int -> Prop} (h : V89 n l d Q) : vcFun (E:=E89 n) (inlN an89 2) (an89 18) Tryz.f18 [.sl (N:=U) 40 l,.int .i64 d] [] [] 0 (resP (E89 n) [.int .i64] Q):=Eq.mp (show V89 n l d Q = vcFun (E:=E89 n) (inlN an89 2) (an89 18) Tryz.f18 [.sl (N:=U) 40 l,.int .i64 d] [] [] 0 (resP (E89 n) [.int .i64] Q) by kernel_rfl) h
theorem p89 (n : Nat) (l : List Comp) (d : Int) (h0 : 0 <= d) (h1 : d <= 11) (hr : (11 - d).toNat < n + 1) : V89 n l d (fun y=>y = wgt fewP (11 - d).toNat l):=by
 unfold V89
 simp only [cond_false]
 refine ⟨fun h=>?_,fun h=>?_⟩
 . by_cases hd : 10 < d
   . have e : (11 - d).toNat = 0:=by omega
     rw [e,wgt]
   . have e : (11 - d).toNat = (11 - (d + 1)).toNat + 1:=by omega
     rw [e,wgt,if_pos (by omega)]
 have e : (11 - d).toNat = (11 - (d + 1)).toNat + 1:=by omega
 have hW : wgt fewP (11 - d).toNat l = wLoop fewP (wgt fewP (11 - (d + 1)).toNat) l l.length:=by rw [e,wgt,if_neg (by omega)]
 generalize wgt fewP (11 - d).toNat l = S at hW ⊢
 have hrn : (11 - (d + 1)).toNat < n:=by omega
 refine ⟨fun x i=>0 <= i /\ i <= l.length /\ 0 <= x /\ x <= 60 + 10000000 * i /\ S = wLoop fewP (wgt fewP (11 - (d + 1)).toNat) (l.drop i.toNat) x,fun _ i=>((l.length : Int) - i).toNat,⟨by omega,by omega,by omega,by omega,by simpa using hW⟩,?_⟩
 rintro x i ⟨i0,i1,x0,x1,hx⟩
 refine ⟨fun hi=>?_,fun hi=>?_⟩
 . rw [drop_ix i0 hi,wLoop] at hx
   generalize ix l i = c at hx ⊢
   have hcap : min (c.Name.length : Int) 100000 = capN c.Name.length:=rfl
   have hc0 : 0 <= capN c.Name.length /\ capN c.Name.length <= 100000:=by unfold capN; omega
   rw [hcap]
   refine ⟨i0,hi,fun h60=>?_,fun h60=>⟨i0,hi,⟨by omega,by omega⟩,i0,hi,fun y k=>0 <= k /\ k <= c.Props.length /\ x <= y /\ y <= x + 100000 + 160010 * k /\ wProps fewP (c.Props.drop k.toNat) y = wProps fewP c.Props (x + capN c.Name.length),fun _ k=>((c.Props.length : Int) - k).toNat,⟨by omega,by omega,by omega,by omega,by simp⟩,?_⟩⟩
   . rw [if_pos h60] at hx; exact hx.symm
   rw [if_neg h60] at hx
   rintro y k ⟨k0,k1,y0,y1,hy⟩
   refine ⟨fun hk=>?_,fun hk=>?_⟩
   . rw [drop_ix k0 hk,wProps] at hy
     generalize ix c.Props k = p at hy ⊢
     refine ⟨i0,hi,k0,hk,fun hf=>?_,fun hf=>?_⟩
     . rw [if_neg hf] at hy
       rw [<- hy] at hx
       exact hx.symm
     . have hf' : fewP p = true:=Classical.not_not.1 hf
       rw [if_pos hf'] at hy
       have sm:=few_small hf'
       have s1:=sm.value
       have s2:=sm.name
       have s3:=sm.params
       exact ⟨i0,hi,k0,hk,⟨by omega,by omega⟩,⟨by omega,by omega⟩,⟨by omega,by omega⟩,⟨by omega,by omega⟩,⟨by omega,by omega⟩,⟨by omega,by omega⟩,⟨by omega,by omega,by omega,by omega,hy⟩,by dsimp only; omega⟩
   . rw [List.drop_eq_nil_of_le (by omega),wProps] at hy
     rw [<- hy] at hx
     simp only at hx
     have hw:=wgt_ge fewP (11 - (d + 1)).toNat c.Comps
     refine ⟨fun hl=>⟨i0,hi,⟨by omega,by omega⟩,by omega,by omega,hrn,⟨by omega,by omega⟩,⟨by omega,by omega⟩,⟨by omega,by omega,by omega,by omega,?_⟩,by dsimp only; omega⟩,fun hl=>⟨⟨by omega,by omega⟩,⟨by omega,by omega,by omega,by omega,?_⟩,by dsimp only; omega⟩⟩
     . rw [if_pos hl] at hx; exact hx
     . rw [if_neg hl] at hx; exact hx
 . rw [List.drop_eq_nil_of_le (by omega),wLoop] at hx
   exact hx.symm
theorem c89n_ok : ∀ (n : Nat) (args : List (SV U)) (q : Q1 U),c89n n args = some q -> allP q.ob -> LendOK N47 18 args ⟨q.ob,q.hy,q.v,[]⟩
 | 0,args,q,h,ho=>by
  unfold c89n at h
  split at h
  . rename_i l d
    cases h
    exact absurd ho.2.2.1 (Nat.not_lt_zero _)
  . cases h
 | n + 1,args,q,h,ho=>by
  have hE:=E89_ok (c89n_ok n)
  unfold c89n at h
  split at h
  . rename_i l d
    cases h
    exact fun D w vs h1 h2 h3=>lend1 hE (inlN_ok hE an89 2) Tryz.func18 (k:=.int .i64) trivial (V89_ok (p89 n l d ho.1 ho.2.1 ho.2.2.1)) 0 D w vs h1 h2 h3
  . cases h
noncomputable def c89 (a : List (SV U)) : Option (Q1 U):=match a with | [.sl 40 l,.int .i64 d]=>some (c89b [0 <= d,d <= 11] l d) | _=>none
theorem c89_ok (args : List (SV U)) (q : Q1 U) (h : c89 args = some q) (ho : allP q.ob) : LendOK N47 18 args ⟨q.ob,q.hy,q.v,[]⟩:=by
 unfold c89 at h
 split at h
 . rename_i l d
   cases h
   exact fun D w vs h1 h2 h3=>c89n_ok ((11 - d).toNat + 1) [.sl 40 l,.int .i64 d] (c89b [0 <= d,d <= 11,(11 - d).toNat < (11 - d).toNat + 1] l d) rfl ⟨ho.1,ho.2.1,Nat.lt_succ_self _,trivial⟩ D w vs h1 h2 h3
 . cases h
noncomputable def N89 : Env:=N47.addL 18 c89
theorem N89_ok : EnvOK N89:=N47_ok.addL Tryz.call18 c89_ok
def an42 : Nat -> Ann:=fun | 7=>⟨6,fun _=>none,fun  | _=>none⟩ | _=>⟨0,fun _=>none,fun _=>none⟩
def V42 (l : List Comp) (Q : Bool -> Prop) : Prop :=
(0 : Int) <= 0 /\ (0 : Int) <= 11 /\ Q (decide (wgt fewP ((11 : Int) - 0).toNat l <= 8000))
theorem V42_ok {l : List Comp} {Q : Bool -> Prop} (h : V42 l Q) : vcFun (E:=N89) (inlN an42 2) (an42 7) Tryz.f7 [.sl (N:=U) 40 l] [] [] 0 (resP N89 [.bool] Q):=Eq.mp (show V42 l Q = vcFun (E:=N89) (inlN an42 2) (an42 7) Tryz.f7 [.sl (N:=U) 40 l] [] [] 0 (resP N89 [.bool] Q) by kernel_rfl) h
theorem p42 (l : List Comp)  : V42 l (fun y0=>y0 = decide (wgt fewP 11 l <= 8000)):=by
 unfold V42
 exact ⟨by omega,by omega,rfl⟩
def c42 (a : List (SV U)) : Option (Q1 U):=match a with | [.sl 40 l]=>some ⟨[],[],blB (decide (wgt fewP 11 l <= 8000))⟩ | _=>none
theorem c42_ok (args : List (SV U)) (q : Q1 U) (h : c42 args = some q) (ho : allP q.ob) : LendOK N89 7 args ⟨q.ob,q.hy,q.v,[]⟩:=by
 unfold c42 at h
 split at h
 . rename_i l
   cases h
   exact lend1 N89_ok (inlN_ok N89_ok an42 2) Tryz.func7 (k:=.bool) (x:=decide (wgt fewP 11 l <= 8000)) trivial (V42_ok (p42 l )) 0
 . cases h
noncomputable def N42 : Env:=N89.addL 7 c42
theorem N42_ok : EnvOK N42:=N89_ok.addL Tryz.call7 c42_ok
def exM : Str:=[66,69,71,73,78,58,97,10,88,58,49,10,66,69,71,73,78,58,98,10,69,78,68,58,66,10,89,58,50,10,69,78,68,58,65,10]
def exN : Str:=[66,69,71,73,78,58,97,10,88,58,49,10]
def an38 : Nat -> Ann:=fun | 8=>⟨54,fun _=>none,fun  | _=>none⟩ | _=>⟨0,fun _=>none,fun _=>none⟩
def V38  (Q : Bool -> Prop) : Prop :=
exM.length <= (30000000 : Nat) /\ exN.length <= (30000000 : Nat) /\ ((cE (compS exM)).nr = (0 : Int) /\ (↑(cR (compS exM)).fst.length : Int) = (1 : Int) -> (0 : Int) <= (0 : Int)) /\ ((cE (compS exM)).nr = (0 : Int) /\ (↑(cR (compS exM)).fst.length : Int) = (1 : Int) -> (0 : Int) < (↑(cR (compS exM)).fst.length : Int)) /\ (((cE (compS exM)).nr = (0 : Int) /\ (↑(cR (compS exM)).fst.length : Int) = (1 : Int)) /\ (ix (cR (compS exM)).fst (0 : Int)).Name = [(65 : UInt8)] -> (0 : Int) <= (0 : Int)) /\ (((cE (compS exM)).nr = (0 : Int) /\ (↑(cR (compS exM)).fst.length : Int) = (1 : Int)) /\ (ix (cR (compS exM)).fst (0 : Int)).Name = [(65 : UInt8)] -> (0 : Int) < (↑(cR (compS exM)).fst.length : Int)) /\ ((((cE (compS exM)).nr = (0 : Int) /\ (↑(cR (compS exM)).fst.length : Int) = (1 : Int)) /\ (ix (cR (compS exM)).fst (0 : Int)).Name = [(65 : UInt8)]) /\ (↑(ix (cR (compS exM)).fst (0 : Int)).Props.length : Int) = (2 : Int) -> (0 : Int) <= (0 : Int) /\ (0 : Int) < (↑(cR (compS exM)).fst.length : Int) /\ (Comp.mk (ix (cR (compS exM)).fst (0 : Int)).Name (ix (cR (compS exM)).fst (0 : Int)).Props (ix (cR (compS exM)).fst (0 : Int)).Comps).Comps.length <= (100000000 : Nat) /\ Q (decide (((↑(allC_ (Comp.mk (ix (cR (compS exM)).fst (0 : Int)).Name (ix (cR (compS exM)).fst (0 : Int)).Props (ix (cR (compS exM)).fst (0 : Int)).Comps) [(66 : UInt8)]).length : Int) = (1 : Int) /\ (cE (compS exN)).nr = (11 : Int)) /\ (cE (compS exN)).at_ = (1 : Int)))) /\ (¬((((cE (compS exM)).nr = (0 : Int) /\ (↑(cR (compS exM)).fst.length : Int) = (1 : Int)) /\ (ix (cR (compS exM)).fst (0 : Int)).Name = [(65 : UInt8)]) /\ (↑(ix (cR (compS exM)).fst (0 : Int)).Props.length : Int) = (2 : Int)) -> Q false)
theorem V38_ok  {Q : Bool -> Prop} (h : V38  Q) : vcFun (E:=N42) (inlN an38 2) (an38 8) Tryz.f8 [] [] [] 0 (resP N42 [.bool] Q):=Eq.mp (show V38  Q = vcFun (E:=N42) (inlN an38 2) (an38 8) Tryz.f8 [] [] [] 0 (resP N42 [.bool] Q) by kernel_rfl) h
theorem exM_ok : compS exM = .ok [.mk [65] [⟨[],[88],[],[49]⟩,⟨[],[89],[],[50]⟩] [.mk [66] [] []]]:=by kernel_rfl
theorem exN_ok : compS exN = .error (11,1):=by kernel_rfl
theorem p38   : V38  (fun y0=>y0 = true):=by
 unfold V38
 rw [exM_ok,exN_ok]
 refine ⟨by decide,by decide,fun _=>by decide,fun _=>by decide,fun _=>by decide,fun _=>by decide,fun _=>⟨by decide,by decide,by decide,?_⟩,fun h=>absurd ⟨⟨⟨rfl,rfl⟩,rfl⟩,rfl⟩ h⟩
 exact decide_eq_true ⟨⟨by decide +kernel,rfl⟩,rfl⟩
def c38 (a : List (SV U)) : Option (Q1 U):=match a with | []=>some ⟨[],[],blB true⟩ | _=>none
theorem c38_ok (args : List (SV U)) (q : Q1 U) (h : c38 args = some q) (ho : allP q.ob) : LendOK N42 8 args ⟨q.ob,q.hy,q.v,[]⟩:=by
 unfold c38 at h
 split at h
 . cases h
   exact lend1 N42_ok (inlN_ok N42_ok an38 2) Tryz.func8 (k:=.bool) (x:=true) trivial (V38_ok (p38  )) 0
 . cases h
noncomputable def N38 : Env:=N42.addL 8 c38
theorem N38_ok : EnvOK N38:=N42_ok.addL Tryz.call8 c38_ok
end Go.Proofs.YtadgfmmmdhlljaaGreatDoor
end
section
namespace Go.Co
open Go Go.Wk Go.Wl Go.Rx Go.Fo Go.Li
def mayP (p : Prp) : Bool:=rightB p && decide ((tell p).length <= 5000) && decide (p.Name ≠ sBEGIN) && decide (p.Name ≠ sEND)
mutual
def mayC : Comp -> Bool
 | .mk n p c=>decide (isName n) && decide (n.length + 6 <= 5000) && p.all mayP && mayL c
def mayL : List Comp -> Bool
 | []=>true
 | c :: l=>mayC c && mayL l
end
mutual
def linC : Comp -> List Str
 | .mk n p c=>(sBEGIN ++ 58 :: n) :: (p.map tell ++ (linL c ++ [sEND ++ 58 :: n]))
def linL : List Comp -> List Str
 | []=>[]
 | c :: l=>linC c ++ linL l
end
mutual
def depC : Comp -> Int
 | .mk _ _ c=>1 + depL c
def depL : List Comp -> Int
 | []=>0
 | c :: l=>max (depC c) (depL l)
end
mutual
def rowC : Comp -> Int
 | .mk _ p c=>2 + p.length + rowL c
def rowL : List Comp -> Int
 | []=>0
 | c :: l=>rowC c + rowL l
end
theorem mayL_cons (c : Comp) (l : List Comp) : mayL (c :: l) = (mayC c && mayL l):=by rw [mayL]
theorem linL_cons (c : Comp) (l : List Comp) : linL (c :: l) = linC c ++ linL l:=by rw [linL]
theorem rowL_cons (c : Comp) (l : List Comp) : rowL (c :: l) = rowC c + rowL l:=by rw [rowL]
theorem depL_cons (c : Comp) (l : List Comp) : depL (c :: l) = max (depC c) (depL l):=by rw [depL]
mutual
theorem dep_geC : ∀ c : Comp,1 <= depC c
 | .mk _ _ c=>by unfold depC; have:=dep_geL c; omega
theorem dep_geL : ∀ l : List Comp,0 <= depL l
 | []=>by unfold depL; omega
 | c :: l=>by unfold depL; have:=dep_geC c; omega
end
mutual
theorem lin_lenC : ∀ c : Comp,((linC c).length : Int) = rowC c
 | .mk _ p c=>by
  unfold linC rowC
  have:=lin_lenL c
  simp only [List.length_cons,List.length_append,List.length_map,List.length_nil]
  omega
theorem lin_lenL : ∀ l : List Comp,((linL l).length : Int) = rowL l
 | []=>by unfold linL rowL; rfl
 | c :: l=>by
  unfold linL rowL
  have:=lin_lenC c
  have:=lin_lenL l
  rw [List.length_append]; omega
end
theorem mayL_iff : ∀ {l : List Comp},mayL l = true ↔ ∀ c ∈ l,mayC c = true
 | []=>by unfold mayL; simp
 | c :: l=>by unfold mayL; rw [Bool.and_eq_true,mayL_iff (l:=l)]; simp
theorem linL_app {a b : List Comp} : linL (a ++ b) = linL a ++ linL b:=by
 induction a with
 | nil=>rfl
 | cons c a ih=>rw [List.cons_append,linL_cons,linL_cons,ih,List.append_assoc]
theorem rowL_app {a b : List Comp} : rowL (a ++ b) = rowL a + rowL b:=by
 induction a with
 | nil=>show rowL b = rowL [] + rowL b; simp [rowL]
 | cons c a ih=>rw [List.cons_append,rowL_cons,rowL_cons,ih]; omega
theorem mayC_out {c : Comp} : mayC c = true ↔ isName c.Name /\ c.Name.length + 6 <= 5000 /\ (∀ p ∈ c.Props,mayP p = true) /\ mayL c.Comps = true:=by
 obtain ⟨n,p,cs⟩:=c
 unfold mayC
 simp only [Bool.and_eq_true,decide_eq_true_eq,List.all_eq_true]
 exact ⟨fun ⟨⟨⟨a,b⟩,c⟩,d⟩=>⟨a,b,c,d⟩,fun ⟨a,b,c,d⟩=>⟨⟨⟨a,b⟩,c⟩,d⟩⟩
theorem mayP_out {p : Prp} : mayP p = true ↔ rightB p = true /\ (tell p).length <= 5000 /\ p.Name ≠ sBEGIN /\ p.Name ≠ sEND:=by
 unfold mayP
 simp only [Bool.and_eq_true,decide_eq_true_eq]
 exact ⟨fun ⟨⟨⟨a,b⟩,c⟩,d⟩=>⟨a,b,c,d⟩,fun ⟨a,b,c,d⟩=>⟨⟨⟨a,b⟩,c⟩,d⟩⟩
theorem letter_stands (c : UInt8) : letterB c = true -> standsB c = true /\ c ≠ 32 /\ c ≠ 9 :=
 all8 (P:=fun c=>letterB c = true -> standsB c = true /\ c ≠ 32 /\ c ≠ 9) (by decide +kernel) c
theorem stands_in (c : UInt8) : inB c = true -> standsB c = true :=
 all8 (P:=fun c=>inB c = true -> standsB c = true) (by decide +kernel) c
theorem stands_end (c : UInt8) : standsB c = true -> c ≠ 10 /\ c ≠ 13 :=
 all8 (P:=fun c=>standsB c = true -> c ≠ 10 /\ c ≠ 13) (by decide +kernel) c
theorem letters_stand {a : Str} (h : a.all letterB = true) : a.all standsB = true:=all_imp (fun c hc=>(letter_stands c hc).1) h
def markP (k n : Str) : Prp:=⟨[],k,[],n⟩
theorem mark_right {k n : Str} (hk : isName k) (hn : n.all letterB = true) : rightB (markP k n) = true:=by
 rw [rightB_iff]
 exact ⟨⟨hk,fun h=>absurd rfl h,letters_stand hn,fun x hx=>by cases hx⟩,rfl⟩
theorem mark_tell (k n : Str) : tell (markP k n) = k ++ 58 :: n:=by
 unfold Li.tell markP
 simp
theorem isB : isName sBEGIN:=by unfold isName; decide
theorem isE : isName sEND:=by unfold isName; decide
theorem mark_name {k n : Str} (hn : isName n) : nameP (markP k n) = n:=by
 unfold nameP markP
 have hu : upper n = n:=hn.2.2
 rw [if_pos ⟨rfl,rfl,by rw [hu]; exact hn⟩,hu]
theorem told_all {v : Str} (h : v.all saysB = true) : (told v).all standsB = true:=by
 have he : (esc v).all standsB = true:=esc_all fun c hc d hd=>stands_in d (esc_in (List.all_eq_true.1 h c hc) d hd)
 unfold told
 split
 . rw [List.all_cons,List.all_append,he]; decide
 . exact he
theorem joinV_all : ∀ {l : List Str},(∀ v ∈ l,v.all saysB = true) -> (joinV l).all standsB = true
 | [],_=>rfl
 | [v],h=>by
  have e : joinV [v] = told v:=by simp [joinV]
  rw [e]; exact told_all (h v (by simp))
 | v :: u :: l,h=>by
  have e : joinV (v :: u :: l) = told v ++ 44 :: joinV (u :: l):=by simp [joinV]
  rw [e,List.all_append,List.all_cons,told_all (h v (by simp)),joinV_all (l:=u :: l) fun x hx=>h x (List.mem_cons_of_mem _ hx)]
  decide
theorem tell_all {p : Prp} (h : right0 p) : (tell p).all standsB = true:=by
 obtain ⟨h1,h2,h3,h4⟩:=h
 unfold Li.tell
 have hx : (p.Params.flatMap tellP).all standsB = true:=by
  rw [List.all_flatMap,List.all_eq_true]
  intro x hx
  obtain ⟨a,b,c⟩:=h4 x hx
  show (tellP x).all standsB = true
  unfold tellP
  rw [List.all_cons,List.all_append,List.all_cons,letters_stand a.2.1,joinV_all c]
  decide
 have hh : (if p.Group = [] then p.Name else p.Group ++ 46 :: p.Name).all standsB = true:=by
  split
  . exact letters_stand h1.2.1
  . rename_i hg
    rw [List.all_append,List.all_cons,letters_stand (h2 hg).2.1,letters_stand h1.2.1]; decide
 rw [List.all_append,List.all_append,List.all_cons,hh,hx,h3]
 decide
theorem tell_head {p : Prp} (h : right0 p) : ∃ c r,tell p = c :: r /\ letterB c = true:=by
 obtain ⟨h1,h2,_⟩:=h
 have one : ∀ {a : Str},isName a -> ∀ r : Str,∃ c t,a ++ r = c :: t /\ letterB c = true:=fun {a} ha r=>by
  obtain ⟨hn,hl,_⟩:=ha
  cases a with
  | nil=>exact absurd rfl hn
  | cons c a=>exact ⟨c,a ++ r,rfl,by rw [List.all_cons,Bool.and_eq_true] at hl; exact hl.1⟩
 unfold Li.tell
 split
 . rw [List.append_assoc]; exact one h1 _
 . rename_i hg
   rw [List.append_assoc,List.append_assoc]; exact one (h2 hg) _
theorem tell_may {p : Prp} (h : rightB p = true) (hl : (tell p).length <= 5000) : rMay (tell p) = 0:=by
 obtain ⟨h0,_⟩:=rightB_iff.1 h
 have ha:=tell_all h0
 obtain ⟨c,r,hc,hl2⟩:=tell_head h0
 unfold rMay
 rw [if_neg (by omega),if_neg,if_neg]
 . rw [hc]
   have:=(letter_stands c hl2).2
   rintro (h | h | h)
   . cases h
   . exact this.1 h
   . exact this.2 h
 . intro h
   obtain ⟨d,hd,he⟩:=List.any_eq_true.1 h
   have:=stands_end d (List.all_eq_true.1 ha d hd)
   unfold ends at he
   simp only [Bool.or_eq_true,beq_iff_eq] at he
   rcases he with rfl | rfl
   . exact this.1 rfl
   . exact this.2 rfl
theorem mark_may {k n : Str} (hk : isName k) (hn : n.all letterB = true) (hl : k.length + 1 + n.length <= 5000) : rMay (k ++ 58 :: n) = 0:=by
 rw [<- mark_tell]
 exact tell_may (mark_right hk hn) (by rw [mark_tell,List.length_append,List.length_cons]; omega)
mutual
theorem rows_mayC : ∀ (c : Comp),mayC c = true -> ∀ r ∈ linC c,rMay r = 0
 | .mk n p cs,h,r,hr=>by
  obtain ⟨h1,h2,h3,h4⟩:=mayC_out.1 h
  have h1 : isName n:=h1
  have h2 : n.length + 6 <= 5000:=h2
  unfold linC at hr
  rcases List.mem_cons.1 hr with rfl | hr
  . exact mark_may isB h1.2.1 (by show 5 + 1 + n.length <= 5000; omega)
  . rcases List.mem_append.1 hr with hr | hr
    . obtain ⟨q,hq,rfl⟩:=List.mem_map.1 hr
      obtain ⟨a,b,_⟩:=mayP_out.1 (h3 q hq)
      exact tell_may a b
    . rcases List.mem_append.1 hr with hr | hr
      . exact rows_mayL cs h4 r hr
      . rw [List.mem_singleton.1 hr]
        exact mark_may isE h1.2.1 (by show 3 + 1 + n.length <= 5000; omega)
theorem rows_mayL : ∀ (l : List Comp),mayL l = true -> ∀ r ∈ linL l,rMay r = 0
 | [],_,r,hr=>by unfold linL at hr; cases hr
 | c :: l,h,r,hr=>by
  unfold mayL at h
  rw [Bool.and_eq_true] at h
  unfold linL at hr
  rcases List.mem_append.1 hr with hr | hr
  . exact rows_mayC c h.1 r hr
  . exact rows_mayL l h.2 r hr
end
def push (st : List Frm) (out : List Comp) (c : Comp) : List Frm × List Comp:=match st with
 | []=>([],out ++ [c])
 | (d,b) :: st=>((addC d c,b) :: st,out)
theorem go_row {r : Row} {q : Prp} (hr : r.Text = tell q) (hq : rightB q = true) (rest : List Row) (st : List Frm) (out : List Comp) : goC (r :: rest) st out = match stepC st out r.At q with | .error e=>.error e | .ok s=>goC rest s.1 s.2:=by
 rw [goC,hr,parse_tell hq,if_neg (fun h=>h rfl)]
 all_goals rfl
theorem go_P : ∀ (ps : List Prp) (rs rest : List Row) (d : Comp) (b : Int) (st : List Frm) (out : List Comp),rs.map Row.Text = ps.map tell -> (∀ p ∈ ps,mayP p = true) -> goC (rs ++ rest) ((d,b) :: st) out = goC rest ((.mk d.Name (d.Props ++ ps) d.Comps,b) :: st) out
 | [],rs,rest,d,b,st,out,h,_=>by
  have : rs = []:=by simpa using h
  subst this
  rw [List.nil_append,List.append_nil,Comp.eta]
 | p :: ps,rs,rest,d,b,st,out,h,hm=>by
  cases rs with
  | nil=>cases h
  | cons r rs =>
   simp only [List.map_cons,List.cons.injEq] at h
   obtain ⟨h1,_,h3,h4⟩:=mayP_out.1 (hm p (by simp))
   rw [List.cons_append,go_row h.1 h1]
   have e : stepC ((d,b) :: st) out r.At p = .ok ((addP d p,b) :: st,out):=by
    unfold stepC
    rw [if_neg h3]
    simp only
    rw [if_neg h4]
   rw [e]
   show goC (rs ++ rest) ((addP d p,b) :: st) out = _
   rw [go_P ps rs rest (addP d p) b st out h.2 fun q hq=>hm q (List.mem_cons_of_mem _ hq)]
   have e2 : (addP d p).Props ++ ps = d.Props ++ p :: ps:=by show (d.Props ++ [p]) ++ ps = _; simp
   rw [e2]
   rfl
theorem map_split {rs : List Row} {a b : List Str} (h : rs.map Row.Text = a ++ b) : ∃ x y,rs = x ++ y /\ x.map Row.Text = a /\ y.map Row.Text = b:=by
 obtain ⟨x,y,h1,h2,h3⟩:=List.map_eq_append_iff.1 h
 exact ⟨x,y,h1,h2,h3⟩
mutual
theorem go_C : ∀ (c : Comp) (rs rest : List Row) (st : List Frm) (out : List Comp),rs.map Row.Text = linC c -> mayC c = true -> (st.length : Int) + depC c <= 6 -> goC (rs ++ rest) st out = goC rest (push st out c).1 (push st out c).2
 | .mk n p cs,rs,rest,st,out,h,hm,hd=>by
  obtain ⟨h1,h2,h3,h4⟩:=mayC_out.1 hm
  have h1 : isName n:=h1
  unfold linC at h
  unfold depC at hd
  have hdl:=dep_geL cs
  cases rs with
  | nil=>cases h
  | cons r rs =>
   simp only [List.map_cons,List.cons.injEq] at h
   obtain ⟨hr,h⟩:=h
   obtain ⟨x,y,rfl,hx,hy⟩:=map_split h
   obtain ⟨u,v,rfl,hu,hv⟩:=map_split hy
   have hv' : ∃ z,v = [z] /\ z.Text = sEND ++ 58 :: n:=by
    match v,hv with
    | [z],hv=>exact ⟨z,rfl,by simpa using hv⟩
    | [],hv=>cases hv
    | _ :: _ :: _,hv=>simp at hv
   obtain ⟨z,rfl,hz⟩:=hv'
   have hnn : n ≠ []:=h1.1
   rw [List.cons_append,go_row (hr.trans (mark_tell sBEGIN n).symm) (mark_right isB h1.2.1)]
   have e1 : stepC st out r.At (markP sBEGIN n) = .ok ((.mk n [] [],r.At) :: st,out):=by
    unfold stepC
    rw [if_pos (show (markP sBEGIN n).Name = sBEGIN from rfl),mark_name h1,if_neg hnn,if_neg (by omega)]
   rw [e1]
   show goC (x ++ (u ++ [z]) ++ rest) ((.mk n [] [],r.At) :: st) out = _
   rw [List.append_assoc,List.append_assoc,go_P p x _ _ _ _ _ hx h3,go_L cs u _ _ _ _ _ hu h4 (by omega)]
   rw [List.singleton_append,go_row (hz.trans (mark_tell sEND n).symm) (mark_right isE h1.2.1)]
   have hBE : ¬ (markP sEND n).Name = sBEGIN:=by show ¬ sEND = sBEGIN; decide
   cases st with
   | nil =>
    have e2 : stepC [(Comp.mk n ([] ++ p) ([] ++ cs),r.At)] out z.At (markP sEND n) = .ok ([],out ++ [.mk n p cs]):=by
     unfold stepC
     rw [if_neg hBE]
     simp only
     rw [if_pos (show (markP sEND n).Name = sEND from rfl),mark_name h1,if_neg (by rintro (h | h); exact hnn h; exact h rfl)]
     simp
    show (match stepC [(Comp.mk n ([] ++ p) ([] ++ cs),r.At)] out z.At (markP sEND n) with | .error e=>(Except.error e : Except (Int × Int) (List Comp)) | .ok s=>goC rest s.1 s.2) = _
    rw [e2]
    rfl
   | cons f st =>
    obtain ⟨d,b⟩:=f
    have e2 : stepC ((Comp.mk n ([] ++ p) ([] ++ cs),r.At) :: (d,b) :: st) out z.At (markP sEND n) = .ok ((addC d (.mk n p cs),b) :: st,out):=by
     unfold stepC
     rw [if_neg hBE]
     simp only
     rw [if_pos (show (markP sEND n).Name = sEND from rfl),mark_name h1,if_neg (by rintro (h | h); exact hnn h; exact h rfl)]
     simp
    show (match stepC ((Comp.mk n ([] ++ p) ([] ++ cs),r.At) :: (d,b) :: st) out z.At (markP sEND n) with | .error e=>(Except.error e : Except (Int × Int) (List Comp)) | .ok s=>goC rest s.1 s.2) = _
    rw [e2]
    rfl
theorem go_L : ∀ (l : List Comp) (rs rest : List Row) (d : Comp) (b : Int) (st : List Frm) (out : List Comp),rs.map Row.Text = linL l -> mayL l = true -> (st.length : Int) + 1 + depL l <= 6 -> goC (rs ++ rest) ((d,b) :: st) out = goC rest ((.mk d.Name d.Props (d.Comps ++ l),b) :: st) out
 | [],rs,rest,d,b,st,out,h,_,_=>by
  unfold linL at h
  have : rs = []:=by simpa using h
  subst this
  rw [List.nil_append,List.append_nil,Comp.eta]
 | c :: l,rs,rest,d,b,st,out,h,hm,hd=>by
  unfold mayL at hm
  rw [Bool.and_eq_true] at hm
  unfold depL at hd
  unfold linL at h
  obtain ⟨x,y,rfl,hx,hy⟩:=map_split h
  rw [List.append_assoc,go_C c x _ _ _ hx hm.1 (by rw [List.length_cons]; omega)]
  show goC (y ++ rest) ((addC d c,b) :: st) out = _
  rw [go_L l y rest (addC d c) b st out hy hm.2 (by omega)]
  have e2 : (addC d c).Comps ++ l = d.Comps ++ c :: l:=by show (d.Comps ++ [c]) ++ l = _; simp
  rw [e2]
  rfl
end
theorem go_T : ∀ (l : List Comp) (rs rest : List Row) (out : List Comp),rs.map Row.Text = linL l -> mayL l = true -> depL l <= 6 -> goC (rs ++ rest) [] out = goC rest [] (out ++ l)
 | [],rs,rest,out,h,_,_=>by
  unfold linL at h
  have : rs = []:=by simpa using h
  subst this
  rw [List.nil_append,List.append_nil]
 | c :: l,rs,rest,out,h,hm,hd=>by
  unfold mayL at hm
  rw [Bool.and_eq_true] at hm
  unfold depL at hd
  unfold linL at h
  obtain ⟨x,y,rfl,hx,hy⟩:=map_split h
  rw [List.append_assoc,go_C c x _ _ _ hx hm.1 (by rw [List.length_nil]; omega)]
  show goC (y ++ rest) [] (out ++ [c]) = _
  rw [go_T l y rest (out ++ [c]) hy hm.2 (by omega),List.append_assoc]
  rfl
def printC (l : List Comp) : Str × Int:=if mayL l = false then ([],2) else if 6 < depL l then ([],12) else if 1000 < rowL l then ([],5) else ((linL l).flatMap (rowGo dec 75),0)
theorem print_cases (l : List Comp) : (mayL l = true /\ depL l <= 6 /\ rowL l <= 1000 /\ printC l = ((linL l).flatMap (rowGo dec 75),0)) ∨ (¬ (mayL l = true /\ depL l <= 6 /\ rowL l <= 1000) /\ ∃ n,printC l = ([],n) /\ (n = 2 ∨ n = 12 ∨ n = 5) /\ (n = 2 ↔ mayL l = false) /\ (n = 12 -> 6 < depL l)):=by
 unfold printC
 split
 . rename_i h
   exact .inr ⟨fun hh=>(by rw [hh.1] at h; cases h),2,rfl,.inl rfl,⟨fun _=>h,fun _=>rfl⟩,fun h=>(by cases h)⟩
 . rename_i h
   have hm : mayL l = true:=by cases e : mayL l with | true=>rfl | false=>exact absurd e h
   split
   . rename_i h2
     exact .inr ⟨fun hh=>by omega,12,rfl,.inr (.inl rfl),⟨fun h'=>(by cases h'),fun h'=>absurd h' h⟩,fun _=>h2⟩
   . split
     . exact .inr ⟨fun hh=>by omega,5,rfl,.inr (.inr rfl),⟨fun h'=>(by cases h'),fun h'=>absurd h' h⟩,fun h'=>(by cases h')⟩
     . exact .inl ⟨hm,by omega,by omega,rfl⟩
theorem fold_told {l : List Comp} (h : mayL l = true) : foldS dec (linL l) = ((linL l).flatMap (rowGo dec 75),0,0):=by
 have:=foldG_ok dec (b:=[]) (i:=0) (rows_mayL l h)
 rw [List.nil_append] at this
 exact this
theorem parse_print {l : List Comp} (h1 : mayL l = true) (h2 : depL l <= 6) (h3 : rowL l <= 1000) : compS ((linL l).flatMap (rowGo dec 75)) = .ok l:=by
 have hl:=lin_lenL l
 obtain ⟨out,ho,ht,_⟩:=unfold_fold dec (rows_mayL l h1) (by omega)
 unfold compS
 rw [ho]
 show goC out [] [] = _
 have:=go_T l out [] [] ht h1 h2
 rw [List.append_nil] at this
 rw [this,goC,List.nil_append]
end Go.Co
end
section
namespace Go.Co
open Go Go.Wk Go.Wl Go.Rx Go.Fo Go.Li
theorem pName_tot {s n r : Str} (h : pName s = some (n,r)) : n.length + r.length = s.length:=by
 unfold pName at h
 split at h
 . cases h
 . simp only [Option.some.injEq,Prod.mk.injEq] at h
   obtain ⟨rfl,rfl⟩:=h
   unfold upper
   rw [List.length_map]
   have:=congrArg List.length (List.takeWhile_append_dropWhile (p:=letterB) (l:=s))
   rw [List.length_append] at this
   exact this
theorem hdIs_tot {c : UInt8} {s r : Str} (h : hdIs c s = some r) : s.length = r.length + 1:=by
 cases s with
 | nil=>cases h
 | cons d t =>
  by_cases e : d = c
  . simp only [hdIs,if_pos e,Option.some.injEq] at h
    subst h; simp
  . simp only [hdIs,if_neg e] at h
    cases h
theorem while_tot (p : UInt8 -> Bool) (s : Str) : (s.takeWhile p).length + (s.dropWhile p).length = s.length:=by
 have:=congrArg List.length (List.takeWhile_append_dropWhile (p:=p) (l:=s))
 rw [List.length_append] at this
 exact this
theorem said_quote : ∀ (n : Nat) (s : Str),s.length <= n -> s.any quoteB = false -> (said s).any quoteB = false:=by
 intro n
 induction n with
 | zero=>intro s h _; obtain rfl:=List.eq_nil_of_length_eq_zero (Nat.le_zero.1 h); rfl
 | succ n ih =>
  intro s hs h
  match s,hs,h with
  | [],_,_=>rfl
  | [c],_,h=>exact h
  | c :: d :: r,hs,h =>
   rw [List.any_cons,List.any_cons,Bool.or_eq_false_iff,Bool.or_eq_false_iff] at h
   obtain ⟨h1,h2,h3⟩:=h
   simp only [List.length_cons] at hs
   have i1:=ih r (by omega) h3
   have i2:=ih (d :: r) (by simp only [List.length_cons]; omega) (by rw [List.any_cons,h2,h3]; rfl)
   rw [said]
   split
   . rw [List.any_cons,i1]; rfl
   . split
     . rw [List.any_cons,i1]; rfl
     . split
       . rw [List.any_cons,i1]; rfl
       . rw [List.any_cons,i2,h1]; rfl
theorem plain_quote (c : UInt8) : plainB c = true -> quoteB c = false :=
 all8 (P:=fun c=>plainB c = true -> quoteB c = false) (by decide +kernel) c
theorem pValue_tot {s v r : Str} (h : pValue s = some (v,r)) : (told v).length + 2 * r.length <= 2 * s.length:=by
 unfold pValue at h
 split at h
 . rename_i t ht
   split at h
   . rename_i u hu
     simp only [Option.some.injEq,Prod.mk.injEq] at h
     obtain ⟨rfl,rfl⟩:=h
     have h1:=hdIs_tot ht
     have h2:=hdIs_tot hu
     have h3:=while_tot inB t
     have h4:=said_len2 _ (t.takeWhile inB) (Nat.le_refl _)
     have h5:=told_len (said (t.takeWhile inB))
     omega
   . cases h
 . simp only [Option.some.injEq,Prod.mk.injEq] at h
   obtain ⟨rfl,rfl⟩:=h
   have h3:=while_tot plainB s
   have h4:=said_len2 _ (s.takeWhile plainB) (Nat.le_refl _)
   have h6:=esc_len2 (said (s.takeWhile plainB))
   have hq : (said (s.takeWhile plainB)).any quoteB = false:=said_quote _ _ (Nat.le_refl _) (by
    rw [List.any_eq_false]
    intro c hc
    have:=plain_quote c (List.all_eq_true.1 (take_all plainB s) c hc)
    rw [this]; simp)
   unfold told
   rw [if_neg (by rw [hq]; simp)]
   omega
theorem pVals_tot : ∀ (n : Nat) (s : Str),s.length <= n -> ∀ l r,pVals s = some (l,r) -> (joinV l).length + 2 * r.length <= 2 * s.length:=by
 intro n
 induction n with
 | zero =>
  intro s hs l r h
  rw [pVals_eq] at h
  split at h
  . cases h
  . rename_i v t ht
    have h1:=pValue_tot ht
    split at h
    . simp only [Option.some.injEq,Prod.mk.injEq] at h
      obtain ⟨rfl,rfl⟩:=h
      have e : joinV [v] = told v:=by simp [joinV]
      rw [e]; exact h1
    . rename_i u hu
      have:=hdIs_tot hu
      omega
 | succ n ih =>
  intro s hs l r h
  rw [pVals_eq] at h
  split at h
  . cases h
  . rename_i v t ht
    have h1:=pValue_tot ht
    split at h
    . simp only [Option.some.injEq,Prod.mk.injEq] at h
      obtain ⟨rfl,rfl⟩:=h
      have e : joinV [v] = told v:=by simp [joinV]
      rw [e]; exact h1
    . rename_i u hu
      have h2:=hdIs_tot hu
      split at h
      . cases h
      . rename_i l' r' h'
        simp only [Option.some.injEq,Prod.mk.injEq] at h
        obtain ⟨rfl,rfl⟩:=h
        have i:=ih u (by omega) _ _ h'
        have e : (joinV (v :: l')).length <= (told v).length + 1 + (joinV l').length:=by
         cases l' with
         | nil=>simp [joinV]
         | cons a l'=>simp [joinV]; omega
        omega
theorem pParam_tot {s r : Str} {x : Param} (h : pParam s = some (x,r)) : (tellP x).length + 2 * r.length <= 2 * s.length + 1:=by
 unfold pParam at h
 split at h
 . cases h
 . rename_i n t ht
   have h1:=pName_tot ht
   split at h
   . cases h
   . rename_i u hu
     have h2:=hdIs_tot hu
     split at h
     . cases h
     . rename_i l' r' h'
       simp only [Option.some.injEq,Prod.mk.injEq] at h
       obtain ⟨rfl,rfl⟩:=h
       have h3:=pVals_tot _ _ (Nat.le_refl _) _ _ h'
       unfold tellP
       simp only [List.length_cons,List.length_append]
       omega
theorem pParams_tot : ∀ (n : Nat) (s : Str),s.length <= n -> ∀ l r,pParams s = some (l,r) -> (l.flatMap tellP).length + 2 * r.length <= 2 * s.length:=by
 intro n
 induction n with
 | zero =>
  intro s hs l r h
  rw [pParams_eq] at h
  split at h
  . simp only [Option.some.injEq,Prod.mk.injEq] at h
    obtain ⟨rfl,rfl⟩:=h
    simp
  . rename_i t ht
    have:=hdIs_tot ht
    omega
 | succ n ih =>
  intro s hs l r h
  rw [pParams_eq] at h
  split at h
  . simp only [Option.some.injEq,Prod.mk.injEq] at h
    obtain ⟨rfl,rfl⟩:=h
    simp
  . rename_i t ht
    have h1:=hdIs_tot ht
    split at h
    . cases h
    . rename_i x t' hp
      have h2:=pParam_tot hp
      have h3:=pParam_len hp
      split at h
      . cases h
      . rename_i l' r' h'
        simp only [Option.some.injEq,Prod.mk.injEq] at h
        obtain ⟨rfl,rfl⟩:=h
        have i:=ih t' (by omega) _ _ h'
        rw [List.flatMap_cons,List.length_append]
        omega
theorem tell_tot {s : Str} {p : Prp} (h : pProp s = some p) : (tell p).length <= 2 * s.length:=by
 unfold pProp at h
 split at h
 . cases h
 . rename_i g n r hh
   have hd : (if g = [] then n else g ++ 46 :: n).length + 2 * r.length <= 2 * s.length:=by
    unfold pHead at hh
    split at hh
    . cases hh
    . rename_i m u hm
      have h1:=pName_tot hm
      split at hh
      . simp only [Option.some.injEq,Prod.mk.injEq] at hh
        obtain ⟨rfl,rfl,rfl⟩:=hh
        rw [if_pos rfl]; omega
      . rename_i t ht
        have h2:=hdIs_tot ht
        split at hh
        . cases hh
        . rename_i m2 u2 hm2
          have h3:=pName_tot hm2
          simp only [Option.some.injEq,Prod.mk.injEq] at hh
          obtain ⟨rfl,rfl,rfl⟩:=hh
          split
          . omega
          . simp only [List.length_append,List.length_cons]; omega
   split at h
   . cases h
   . rename_i l t hl
     have h4:=pParams_tot _ _ (Nat.le_refl _) _ _ hl
     split at h
     . cases h
     . rename_i v hv
       have h5:=hdIs_tot hv
       split at h
       . simp only [Option.some.injEq] at h
         subst h
         unfold Li.tell
         simp only [List.length_append,List.length_cons] at hd ⊢
         omega
       . cases h
def totR (l : List Row) : Nat:=(l.map fun r=>r.Text.length).sum
theorem totR_app (a b : List Row) : totR (a ++ b) = totR a + totR b:=by simp [totR]
theorem totR_mem {l : List Row} {r : Row} (h : r ∈ l) : r.Text.length <= totR l:=by
 induction l with
 | nil=>cases h
 | cons a l ih =>
  have e : totR (a :: l) = a.Text.length + totR l:=by simp [totR]
  rw [e]
  rcases List.mem_cons.1 h with rfl | h
  . omega
  . have:=ih h; omega
theorem totR_last (out : List Row) (t : Str) : totR (lastAdd out t) <= totR out + t.length:=by
 by_cases h : out = []
 . subst h
   unfold lastAdd
   simp [totR]
   show (0 : Nat) + t.length <= t.length
   omega
 . obtain ⟨a,x,rfl⟩:=snoc h
   rw [lastAdd_snoc,totR_app,totR_app]
   simp [totR]
   omega
theorem uGo_tot : ∀ (ls : List Str) (a : Int) (out : List Row) (o : Bool) (rows : List Row),uGo ls a out o = .ok rows -> totR rows <= totR out + (ls.map List.length).sum
 | [],_,out,_,rows,h=>by unfold uGo at h; cases h; simp
 | l :: ls,a,out,o,rows,h=>by
  rw [uGo] at h
  cases hs : uStep a l out o with
  | error e=>rw [hs] at h; cases h
  | ok q =>
   obtain ⟨out',o'⟩:=q
   rw [hs] at h
   have ih:=uGo_tot ls _ out' o' rows h
   have key : totR out' <= totR out + l.length:=by
    unfold uStep at hs
    split at hs
    . cases hs; omega
    . split at hs
      . split at hs
        . obtain ⟨rfl,_⟩:=uTop_in hs
          have:=totR_last out (l.drop 1)
          rw [List.length_drop] at this
          omega
        . cases hs
      . obtain ⟨rfl,_⟩:=uTop_in hs
        rw [totR_app]
        simp [totR]
   simp only [List.map_cons,List.sum_cons]
   omega
theorem linesOf_tot : ∀ (n : Nat) (s : Str),s.length <= n -> ((linesOf s).map List.length).sum <= s.length
 | n,s,hn=>by
  by_cases h : s = []
  . subst h; rw [linesOf_nil]; simp
  . have h1:=tl_lt h
    cases n with
    | zero=>omega
    | succ n =>
     rw [linesOf_cons h]
     have ih:=linesOf_tot n (tl s) (by omega)
     simp only [List.map_cons,List.sum_cons]
     have ht:=while_tot nl s
     by_cases h10 : (10 : UInt8) ∈ s
     . rw [if_pos h10]
       have h2 : (trimR (hd s)).length <= (hd s).length:=by
        unfold trimR
        split
        . rw [List.length_dropLast]; omega
        . exact Nat.le_refl _
       have h3 : (tl s).length <= (s.dropWhile nl).length:=by unfold tl; rw [List.length_drop]; omega
       have h4 : (hd s).length = (s.takeWhile nl).length:=rfl
       omega
     . rw [if_neg h10]
       have h3:=(hd_all h10).2
       rw [h3] at ih ⊢
       rw [linesOf_nil]; simp
theorem unfold_tot {s : Str} {rows : List Row} (h : unfoldS s = .ok rows) : ∀ r ∈ rows,r.Text.length <= s.length:=by
 have h1:=uGo_tot _ _ _ _ _ h
 have h2:=linesOf_tot _ s (Nat.le_refl _)
 intro r hr
 have:=totR_mem hr
 simp only [totR,List.map_nil,List.sum_nil] at h1
 unfold totR at this
 omega
inductive RdC (m : Nat) : Comp -> Prop
 | mk {n : Str} {p : List Prp} {c : List Comp} : isName n -> n.length <= m -> (∀ x ∈ p,rightB x = true /\ (tell x).length <= 2 * m /\ x.Name ≠ sBEGIN /\ x.Name ≠ sEND) -> (∀ x ∈ c,RdC m x) -> RdC m (.mk n p c)
theorem RdC.out {m : Nat} {c : Comp} (h : RdC m c) : isName c.Name /\ c.Name.length <= m /\ (∀ x ∈ c.Props,rightB x = true /\ (tell x).length <= 2 * m /\ x.Name ≠ sBEGIN /\ x.Name ≠ sEND) /\ ∀ x ∈ c.Comps,RdC m x:=by
 cases h with | mk h1 h2 h3 h4=>exact ⟨h1,h2,h3,h4⟩
theorem nameP_right {p : Prp} (h : nameP p ≠ []) : isName (nameP p) /\ (nameP p).length = p.Value.length:=by
 unfold nameP at h ⊢
 split
 . rename_i h1
   exact ⟨h1.2.2,by unfold upper; rw [List.length_map]⟩
 . rename_i h1; rw [if_neg h1] at h; exact absurd rfl h
def depO : Int -> List Frm -> Prop
 | _,[]=>True
 | k,(c,_) :: st=>k + depL c.Comps <= 5 /\ depO (k - 1) st
theorem dep_app {a b : List Comp} : depL (a ++ b) = max (depL a) (depL b):=by
 induction a with
 | nil => show depL b = max (depL []) (depL b); have := dep_geL b; have e : depL [] = 0 := by rw [depL]
          omega
 | cons c a ih=>rw [List.cons_append,depL_cons,depL_cons,ih]; omega
theorem dep_one (c : Comp) : depL [c] = depC c:=by have:=dep_geC c; unfold depL; unfold depL; omega
theorem row_one (c : Comp) : rowL [c] = rowC c:=by unfold rowL; unfold rowL; omega
theorem depC_eq (c : Comp) : depC c = 1 + depL c.Comps:=by obtain ⟨n,p,cs⟩:=c; unfold depC; rfl
theorem rowC_eq (c : Comp) : rowC c = 2 + c.Props.length + rowL c.Comps:=by obtain ⟨n,p,cs⟩:=c; unfold rowC; rfl
def rowO : List Frm -> Int
 | []=>0
 | (c,_) :: st=>1 + c.Props.length + rowL c.Comps + rowO st
theorem go_right {m : Nat} : ∀ (rs : List Row) (st : List Frm) (out l : List Comp),(∀ r ∈ rs,r.Text.length <= m) -> (∀ f ∈ st,RdC m f.1) -> (∀ c ∈ out,RdC m c) -> st.length <= 6 -> depO (st.length - 1) st -> depL out <= 6 -> goC rs st out = .ok l ->
  (∀ c ∈ l,RdC m c) /\ depL l <= 6 /\ rowL l <= rs.length + rowO st + rowL out
 | [],st,out,l,_,_,ho,_,_,hd,h=>by
  cases st with
  | nil =>
   rw [goC] at h
   cases h
   exact ⟨ho,hd,by unfold rowO; simp⟩
  | cons f st=>obtain ⟨c,b⟩:=f; rw [goC] at h; cases h
 | r :: rs,st,out,l,hr,hs,ho,hl,hO,hd,h=>by
  rw [goC] at h
  by_cases he : (parseS r.Text).2 ≠ .nil
  . rw [if_pos he] at h; cases h
  . rw [if_neg he] at h
    have he0 : (parseS r.Text).2 = .nil:=Classical.not_not.1 he
    obtain ⟨hp1,hp2⟩:=parse_right he0
    have ht:=tell_tot hp2
    have hm:=hr r (List.mem_cons_self ..)
    have hr' : ∀ q ∈ rs,q.Text.length <= m:=fun q hq=>hr q (List.mem_cons_of_mem _ hq)
    generalize (parseS r.Text).1 = p at h hp1 hp2 ht
    have hv : p.Value.length <= m:=by
     unfold Li.tell at ht
     unfold pProp at hp2
     split at hp2
     . cases hp2
     . rename_i g n r2 hh
       obtain ⟨_,_,c⟩:=head_size hh
       split at hp2
       . cases hp2
       . rename_i l2 t hl2
         obtain ⟨⟨_,g1⟩,_⟩:=pParams_size _ _ (Nat.le_refl _) _ _ hl2
         split at hp2
         . cases hp2
         . rename_i v hv
           have f:=hdIs_len hv
           split at hp2
           . simp only [Option.some.injEq] at hp2
             subst hp2
             show v.length <= m
             omega
           . cases hp2
    cases hst : stepC st out r.At p with
    | error e=>rw [hst] at h; cases h
    | ok q =>
     rw [hst] at h
     have h : goC rs q.1 q.2 = .ok l:=h
     unfold stepC at hst
     by_cases hB : p.Name = sBEGIN
     . rw [if_pos hB] at hst
       by_cases hn : nameP p = []
       . rw [if_pos hn] at hst; cases hst
       . rw [if_neg hn] at hst
         by_cases h6 : 6 < st.length + 1
         . rw [if_pos h6] at hst; cases hst
         . rw [if_neg h6] at hst
           cases hst
           obtain ⟨n1,n2⟩:=nameP_right hn
           obtain ⟨a1,a2,a3⟩:=go_right rs ((.mk (nameP p) [] [],r.At) :: st) out l hr' (fun f hf=>by
            rcases List.mem_cons.1 hf with rfl | hf
            . exact .mk n1 (by omega) (fun x hx=>by cases hx) (fun x hx=>by cases hx)
            . exact hs f hf) ho (by rw [List.length_cons]; omega) ⟨by rw [List.length_cons]; show _ + depL [] <= 5; unfold depL; omega,by
              rw [List.length_cons]
              have : ((st.length + 1 : Nat) : Int) - 1 - 1 = (st.length : Int) - 1:=by omega
              rw [this]; exact hO⟩ hd h
           refine ⟨a1,a2,?_⟩
           unfold rowO at a3
           have e1 : ((Comp.mk (nameP p) [] []).Props.length : Int) = 0:=rfl
           have e2 : rowL (Comp.mk (nameP p) [] []).Comps = 0:=by show rowL [] = 0; unfold rowL; rfl
           rw [e1,e2] at a3
           rw [List.length_cons]; omega
     . rw [if_neg hB] at hst
       cases st with
       | nil=>cases hst
       | cons f st =>
        obtain ⟨c,b⟩:=f
        simp only at hst
        obtain ⟨hO1,hO2⟩:=hO
        have hc:=hs (c,b) (List.mem_cons_self ..)
        have hs' : ∀ f ∈ st,RdC m f.1:=fun f hf=>hs f (List.mem_cons_of_mem _ hf)
        obtain ⟨c1,c2,c3,c4⟩:=hc.out
        rw [List.length_cons] at hl hO1 hO2
        by_cases hE : p.Name = sEND
        . rw [if_pos hE] at hst
          split at hst
          . cases hst
          . cases st with
            | nil =>
             cases hst
             obtain ⟨a1,a2,a3⟩:=go_right rs [] (out ++ [c]) l hr' (fun f hf=>by cases hf) (fun x hx=>by
              rcases List.mem_append.1 hx with hx | hx
              . exact ho x hx
              . rw [List.mem_singleton.1 hx]; exact hc) (by simp) trivial (by
              have:=depC_eq c
              rw [dep_app,dep_one]
              simp only [List.length_nil] at hO1
              omega) h
             refine ⟨a1,a2,?_⟩
             rw [rowL_app,row_one,rowC_eq] at a3
             unfold rowO at a3 ⊢
             unfold rowO
             rw [List.length_cons]; omega
            | cons f2 st =>
             obtain ⟨d,b'⟩:=f2
             cases hst
             have hd':=hs' (d,b') (List.mem_cons_self ..)
             obtain ⟨d1,d2,d3,d4⟩:=hd'.out
             obtain ⟨hO3,hO4⟩:=hO2
             have hdc:=depC_eq c
             rw [List.length_cons] at hl hO1 hO3 hO4
             obtain ⟨a1,a2,a3⟩:=go_right rs ((addC d c,b') :: st) out l hr' (fun f hf=>by
              rcases List.mem_cons.1 hf with rfl | hf
              . exact .mk d1 d2 d3 fun x hx=>by
                  rcases List.mem_append.1 hx with hx | hx
                  . exact d4 x hx
                  . rw [List.mem_singleton.1 hx]; exact hc
              . exact hs' f (List.mem_cons_of_mem _ hf)) ho (by rw [List.length_cons]; omega) ⟨by
              show _ + depL (d.Comps ++ [c]) <= 5
              rw [dep_app,dep_one,List.length_cons]
              omega,by
              rw [List.length_cons]
              have : ((st.length + 1 : Nat) : Int) - 1 - 1 = ((st.length + 1 + 1 : Nat) : Int) - 1 - 1 - 1:=by omega
              rw [this]; exact hO4⟩ hd h
             refine ⟨a1,a2,?_⟩
             unfold rowO at a3 ⊢
             unfold rowO
             have e1 : (addC d c).Props.length = d.Props.length:=rfl
             have e2 : rowL (addC d c).Comps = rowL d.Comps + rowC c:=by show rowL (d.Comps ++ [c]) = _; rw [rowL_app,row_one]
             rw [e1,e2,rowC_eq] at a3
             rw [List.length_cons]; omega
        . rw [if_neg hE] at hst
          cases hst
          obtain ⟨a1,a2,a3⟩:=go_right rs ((addP c p,b) :: st) out l hr' (fun f hf=>by
           rcases List.mem_cons.1 hf with rfl | hf
           . exact .mk c1 c2 (fun x hx=>by
               rcases List.mem_append.1 hx with hx | hx
               . exact c3 x hx
               . rw [List.mem_singleton.1 hx]; exact ⟨hp1,by omega,hB,hE⟩) c4
           . exact hs' f hf) ho (by rw [List.length_cons]; exact hl) ⟨by rw [List.length_cons]; exact hO1,by rw [List.length_cons]; exact hO2⟩ hd h
          refine ⟨a1,a2,?_⟩
          unfold rowO at a3 ⊢
          have e1 : ((addP c p).Props.length : Int) = c.Props.length + 1:=by show ((c.Props ++ [p]).length : Int) = _; simp
          have e2 : rowL (addP c p).Comps = rowL c.Comps:=rfl
          rw [e1,e2] at a3
          rw [List.length_cons]; omega
theorem RdC.may {m : Nat} (hm : m <= 2500) : ∀ {c : Comp},RdC m c -> mayC c = true:=fun {c} h=>by
 induction h with
 | mk h1 h2 h3 _ ih =>
  rw [mayC_out]
  refine ⟨h1,Nat.le_trans (Nat.add_le_add_right (Nat.le_trans h2 hm) 6) (by decide),fun p hp=>?_,mayL_iff.2 ih⟩
  obtain ⟨a,b,c,d⟩:=h3 p hp
  exact mayP_out.2 ⟨a,by omega,c,d⟩
theorem parse_right_all {s : Str} {l : List Comp} (h : compS s = .ok l) : depL l <= 6 /\ rowL l <= 1000 /\ (s.length <= 2500 -> mayL l = true) /\ ∀ c ∈ l,RdC s.length c:=by
 unfold compS at h
 cases hu : unfoldS s with
 | error e=>rw [hu] at h; cases h
 | ok rows =>
  rw [hu] at h
  have h : goC rows [] [] = .ok l:=h
  obtain ⟨h1,_⟩:=unfold_short hu
  obtain ⟨a1,a2,a3⟩:=go_right (m:=s.length) rows [] [] l (unfold_tot hu) (fun f hf=>by cases hf) (fun c hc=>by cases hc) (by simp) trivial (by unfold depL; omega) h
  refine ⟨a2,?_,fun hs=>mayL_iff.2 fun c hc=>(a1 c hc).may hs,a1⟩
  have e : rowL [] = 0:=by unfold rowL; rfl
  unfold rowO at a3
  omega
end Go.Co
end
section
namespace Go.Co
open Go Go.Wk Go.Wl Go.Rx Go.Fo Go.Li
theorem rowL_ge : ∀ l : List Comp,(l.length : Int) <= rowL l /\ ∀ c ∈ l,rowC c <= rowL l
 | []=>⟨by unfold rowL; simp,fun c hc=>by cases hc⟩
 | c :: l=>by
  obtain ⟨h1,h2⟩:=rowL_ge l
  have h3:=lin_lenC c
  have h4:=rowC_eq c
  have h5:=lin_lenL c.Comps
  rw [rowL_cons]
  refine ⟨by rw [List.length_cons]; omega,fun d hd=>?_⟩
  rcases List.mem_cons.1 hd with rfl | hd
  . omega
  . have:=h2 d hd; omega
end Go.Co
end
