/- 79 texts, one behind the other. -/
import Derived.Test.YtapnoejokajcoaaGreatDoorW7
import Derived.Test.YtapnoejokajcoaaGreatDoorW3
import Derived.Test.YtapnoejokajcoaaGreatDoorW6
import Derived.Shelf.SlSortCmp.NoneTotal
import Derived.Ground.SlsfProg
import Derived.Test.YtapnoejokajcoaaGreatDoorProg
import Derived.Calls
import GoSem.Step
import Derived.RunT
set_option linter.defProp false
set_option linter.unusedVariables false
set_option linter.unusedSimpArgs false
set_option maxRecDepth 100000
noncomputable section
def d8K:=@Int.not_le
def d8T:=@Int.sub_zero
def d8U:=@Option.getD_none
def d8p:=@getElem!_pos
def d8t:=@List.flatMap_append
namespace Go.Proofs.YtapnoejokajcoaaGreatDoor
open Go Go.Wk Go.Wl Go.Rx Go.Re Go.Li Go.Qu Go.Fo 
attribute [local irreducible] j4
def d0T:Nat->D3:=fun|35=>⟨53,fun|4=>some ⟨[31,32],[.slot 33 (.int .i64)]⟩|_=>none,nn⟩|76=>⟨9,nn,nn⟩|126=>⟨19,fun|2=>some ⟨[0,1,7],[.slot 8 (.int .i64)]⟩|_=>none,nn⟩|77=>⟨6,nn,nn⟩|_=>⟨0,nn,nn⟩
def V34(p:K8)(Q:Bool->Prop):Prop:=
List.length p.Name<=9223372036854775807/\(¬¬a2a p.Name=true/\p.E4≠[]->List.length p.E4<=9223372036854775807)/\(¬(¬a2a p.Name=true∨p.E4≠[]/\¬a2a p.E4=true)->p.Params.length<=1000000000)/\(¬((¬a2a p.Name=true∨p.E4≠[]/\¬a2a p.E4=true)∨L8 (K8.mk p.E4 p.Name p.Params p.Value)=true)->List.length p.Value<=9223372036854775807)/\(bR (((¬a2a p.Name=true∨p.E4≠[]/\¬a2a p.E4=true)∨L8 (K8.mk p.E4 p.Name p.Params p.Value)=true)∨¬R5 false p.Value=true) (Q false) (∃(I:Int->Prop),∃(m:Int->Nat),I 0/\∀(x:Int),I x->(bR (x<(↑p.Params.length:Int)) (0<=x/\x<(↑p.Params.length:Int)/\List.length (ix p.Params x).Name<=9223372036854775807/\(bR (¬a2a (ix p.Params x).Name=true∨(↑(ix p.Params x).p6.length:Int)=0) (Q false) (∃(I_1:Int->Prop),∃(m_1:Int->Nat),I_1 0/\∀(x_1:Int),I_1 x_1->(bR (x_1<(↑(ix p.Params x).p6.length:Int)) (0<=x_1/\x_1<(↑(ix p.Params x).p6.length:Int)/\(ix (ix p.Params x).p6 x_1).length<=9223372036854775807/\(bR (¬R5 true (ix (ix p.Params x).p6 x_1)=true) ((bR (0<=x_1) (Q false) (c6 (x+1)/\I (x+1)/\m (x+1)<m x))) (c6 (x_1+1)/\I_1 (x_1+1)/\m_1 (x_1+1)<m_1 x_1))) ((bR ((0:Int)<=(-1:Int)) (Q false) (c6 (x+1)/\I (x+1)/\m (x+1)<m x))))))) (Q true))))
def a14(s:z6):a2a s=true↔isName s:=d5M
def b6O(s:z6):R5 false s=s.all D1:=by unfold R5;simp
def b5s(s:z6):R5 true s=s.all b2T:=by unfold R5 b2T;simp
def b2s{p:K8}(h:¬(b0d p/\L8 p=false)):false=D6 p:=by
 cases e:D6 p
 . rfl
 . exact absurd (I2.1 e) h
def b73{p:K8}(h:b0d p/\L8 p=false):true=D6 p:=(I2.2 h).symm
def p34(p:K8)(h:A0 p):V34 p (fun y0=>y0=D6 p):=by
 unfold V34;refine⟨by have:=h.name;omega,fun _=>by have:=h.group;omega,fun _=>by have:=h.params;omega,fun _=>by have:=h.value;omega,fun hb=>b2s fun⟨⟨a,b,c,_⟩,d⟩=>?_,fun hg=>?_⟩
 . rcases hb with((hb|⟨hb,hb2⟩)|hb)|hb
   . exact hb ((a14 _).2 a)
   . exact hb2 ((a14 _).2 (b hb))
   . have hb:L8 p=true:=hb;rw[d]at hb;cases hb
   . rw[b6O]at hb;exact hb c
 have hN:isName p.Name:=(a14 _).1 (d6i fun n=>hg (.inl (.inl (.inl n))));have hG:p.E4≠[]->isName p.E4:=fun e=>(a14 _).1 (d6i fun n=>hg (.inl (.inl (.inr ⟨e,n⟩))));have hM:L8 p=false:=by
  cases e:L8 p
  . rfl
  . exact absurd (.inl (.inr e)) hg
 have hV:p.Value.all D1=true:=by rw[<- b6O];exact d6i fun n=>hg (.inr n)
 clear hg;refine⟨fun i=>0<=i/\i<=p.Params.length/\∀j:Int,0<=j->j<i->a5g (ix p.Params j),fun i=>((p.Params.length:Int)-i).toNat,⟨by omega,by omega,fun j _ _=>by omega⟩,?_⟩;rintro i ⟨i0,i1,hx⟩;have hp:=h.params;refine⟨fun hi=>?_,fun hi=>b73 ⟨⟨hN,hG,hV,fun x hm=>?_⟩,hM⟩⟩
 . have hm:=w5 i0 hi;have sx:=h.param _ hm;obtain⟨v1,v2⟩:=a5a h hM hm;generalize hxe:ix p.Params i=x at *;have bad:¬a5g x->false=D6 p:=fun hn=>b2s fun⟨⟨_,_,_,d⟩,_⟩=>hn (d x hm);refine⟨i0,hi,by have:=sx.name;omega,fun hb=>bad fun⟨a,b,_⟩=>?_,fun hg=>?_⟩
   . rcases hb with hb|hb
     . exact hb ((a14 _).2 a)
     . exact b (List.length_eq_zero_iff.1 (by omega))
   have hxN:isName x.Name:=(a14 _).1 (d6i fun n=>hg (.inl n));have hxV:x.p6≠[]:=fun e=>hg (.inr (by rw[e];rfl));refine⟨fun k=>0<=k/\k<=x.p6.length/\∀j:Int,0<=j->j<k->(ix x.p6 j).all b2T=true,fun k=>((x.p6.length:Int)-k).toNat,⟨by omega,by omega,fun j _ _=>by omega⟩,?_⟩;rintro k ⟨k0,k1,hk⟩;refine⟨fun hkl=>⟨k0,hkl,by have:=v2 _ (w5 k0 hkl);omega,fun hs=>⟨fun _=>bad fun⟨_,_,c⟩=>?_,fun n=>absurd k0 n⟩,fun hs=>⟨⟨by omega,by omega⟩,⟨by omega,by omega,fun j j0 j1=>?_⟩,by first|omega|(dsimp only;omega)⟩⟩,fun hkl=>⟨fun n=>by omega,fun _=>⟨⟨by omega,by omega⟩,⟨by omega,by omega,fun j j0 j1=>?_⟩,by first|omega|(dsimp only;omega)⟩⟩⟩
   . rw[b5s]at hs;exact hs (c _ (w5 k0 hkl))
   . rw[b5s]at hs;by_cases e:j=k
     . subst e;exact d4S.1 hs
     . exact hk j j0 (by omega)
   . by_cases e:j=i
     . subst e;rw[hxe];refine⟨hxN,hxV,fun v hv=>?_⟩;obtain⟨n,hn,rfl⟩:=d5w hv;have:=hk n (by omega) (by omega);rw[s8 (by simpa using hn)]at this;simpa using this
     . exact hx j j0 (by omega)
 . obtain⟨n,hn,rfl⟩:=d5w hm;have:=hx n (by omega) (by omega);rw[s8 (by simpa using hn)]at this;simpa using this
def N34:Env:=N65.kL 35 (r86.c .n) (.bool) (fun y=>[A0 y.1]) (fun y=>D6 y.1)
def N34_ok:c8 N34:=N65_ok.kL Tryz.call35 Tryz.func35 (inlHN_ok N65_ok H0_ok d0T 4) (an:=d0T 35) (fun _ _=>trivial) fun y ho=>kc (p34 y.1 ho.1) (by kernel_rfl)
end Go.Proofs.YtapnoejokajcoaaGreatDoor
section
namespace Go.Proofs.YtapnoejokajcoaaGreatDoor
open Go Go.Wk Go.Wl Go.Rx Go.Re Go.Li Go.Qu Go.Fo 
def b6j:∀s:z6,(esc s).length<=2*s.length
 |[]=>d5m _
 |c::s=>by
  have ih:=b6j s;have e:esc (c::s)=a7c c++esc s:=by simp[esc]
  have:(a7c c).length<=2:=by unfold a7c;split <;> (try split) <;> (try split) <;> simp
  rw[e,d4Y,d5h];omega
attribute [local irreducible] j4
def d0d:Nat->D3:=fun|159=>⟨15,nn,nn⟩|_=>⟨0,nn,nn⟩
def c1w(s:z6):=K1 (34:UInt8) ([94,39]:List UInt8) (K1 (94:UInt8) ([94,94]:List UInt8) s)
def c1m(s:z6):=K1 (10:UInt8) ([94,110]:List UInt8) (c1w s)
def V70(s:z6)(Q:z6->Prop):Prop:=
List.length s<=1000000000/\([94,94]:List UInt8).length=2/\List.length (K1 (94:UInt8) ([94,94]:List UInt8) s)<=1000000000/\([94,39]:List UInt8).length=2/\List.length (c1w s)<=1000000000/\([94,110]:List UInt8).length=2/\List.length (c1m s)<=4000000000/\([59,58,44]:List UInt8)=([59,58,44]:List UInt8)/\(bR ((List.any (c1m s) fun(c:UInt8)=>([59,58,44]:List UInt8).contains c)=true) (([34]:List UInt8).length+List.length (c1m s)<=9223372036854775807/\List.length (([34]:List UInt8)++K1 (10:UInt8) ([94,110]:List UInt8) (c1w s))+([34]:List UInt8).length<=9223372036854775807/\Q (([34]:List UInt8)++K1 (10:UInt8) ([94,110]:List UInt8) (c1w s)++([34]:List UInt8))) (Q (c1m s)))
def p70(s:z6)(hs:s.length<=100000000):V70 s (fun y0=>y0=told s):=by
 unfold V70 c1m c1w;have l1:=a2Z 94 (t:=[94,94]) rfl s;have l2:=a2Z 34 (t:=[94,39]) rfl (K1 94 [94,94] s);have e:=b34 s;have l3:=b6j s;have q:=a8Z s;rw[e,q];refine⟨by omega,rfl,by omega,rfl,by omega,rfl,by omega,rfl,fun h=>⟨by simp only[d5h,d6b];omega,by simp only[d4Y,d5h,d6b];omega,?_⟩,fun h=>?_⟩
 . unfold told;rw[if_pos h];rfl
 . unfold told;rw[if_neg h]
def N70:Env:=N34.kL 159 (rS.c .n) (.str) (fun y=>[List.length (α:=UInt8) y.1<=100000000]) (fun y=>told y.1)
def N70_ok:c8 N70:=N34_ok.kL Tryz.call159 Tryz.func159 (inlHN_ok N34_ok H0_ok d0d 2) (an:=d0d 159) (fun _ _=>trivial) fun y ho=>kc (p70 y.1 ho.1) (by kernel_rfl)
end Go.Proofs.YtapnoejokajcoaaGreatDoor
end
namespace Go.Proofs.YtapnoejokajcoaaGreatDoor
open Go Go.Wk Go.Wl Go.Rx Go.Re Go.Li Go.Qu Go.Fo 
attribute [local irreducible] j4
def d2m:Nat->D3:=fun|127=>⟨59,fun|7=>some ⟨[1,25,26],[.slot 4 .str,.slot 27 (.int .i64)]⟩|11=>some ⟨[1,4,6,25,26,27,32,33],[.slot 7 (.acc 9),.slot 34 (.int .i64)]⟩|_=>none,fun|6=>some ⟨[1],[.slot 4 .str]⟩|_=>none⟩|_=>⟨0,nn,nn⟩
def c2W(p:K8)(x_1:Int)(x_2:List (List UInt8)):=([59]:List UInt8)++(ix p.Params x_1).Name++([61]:List UInt8)++Lib.join x_2 ([44]:List UInt8)
def V32(p:K8)(Q:z6->o6->Prop):Prop:=
A0 (K8.mk p.E4 p.Name p.Params p.Value)/\(bR (¬Li.D6 (K8.mk p.E4 p.Name p.Params p.Value)=true) (Q [] (o6.no 2)) (∃(J:List UInt8->Prop),((bR (p.E4≠[]) (List.length p.E4+([46]:List UInt8).length<=9223372036854775807/\List.length (p.E4++([46]:List UInt8))+List.length p.Name<=9223372036854775807/\J (p.E4++([46]:List UInt8)++p.Name)) (J p.Name)))/\∀(x:List UInt8),J x->∃(I:List UInt8->Int->Prop),∃(m:List UInt8->Int->Nat),I x 0/\∀(x:List UInt8)(x_1:Int),I x x_1->(bR (x_1<(↑p.Params.length:Int)) (0<=x_1/\x_1<(↑p.Params.length:Int)/\∃(I_1:List (List UInt8)->Int->Prop),∃(m_1:List (List UInt8)->Int->Nat),I_1 [] 0/\∀(x_2:List (List UInt8)) (x_3:Int),I_1 x_2 x_3->(bR (x_3<(↑(ix p.Params x_1).p6.length:Int)) (0<=x_3/\x_3<(↑(ix p.Params x_1).p6.length:Int)/\(ix (ix p.Params x_1).p6 x_3).length<=100000000/\(x_2.length+[told (ix (ix p.Params x_1).p6 x_3)].length)*(some (16:Nat)).getD (0:Nat)<=140737488355328/\c6 (x_3+1)/\I_1 (x_2++[told (ix (ix p.Params x_1).p6 x_3)]) (x_3+1)/\m_1 (x_2++[told (ix (ix p.Params x_1).p6 x_3)]) (x_3+1)<m_1 x_2 x_3) (([59]:List UInt8).length+List.length (ix p.Params x_1).Name<=9223372036854775807/\List.length (([59]:List UInt8)++(ix p.Params x_1).Name)+([61]:List UInt8).length<=9223372036854775807/\((Lib.join x_2 ([44]:List UInt8)).length<=140737488355328/\x_2.length<=140737488355328)/\List.length (([59]:List UInt8)++(ix p.Params x_1).Name++([61]:List UInt8))+(Lib.join x_2 ([44]:List UInt8)).length<=9223372036854775807/\x.length+List.length (c2W p x_1 x_2)<=9223372036854775807/\c6 (x_1+1)/\I (x++(c2W p x_1 x_2)) (x_1+1)/\m (x++(c2W p x_1 x_2)) (x_1+1)<m x x_1))) (x.length+([58]:List UInt8).length<=9223372036854775807/\List.length (x++([58]:List UInt8))+List.length p.Value<=9223372036854775807/\Q (x++([58]:List UInt8)++p.Value) o6.nil))))
def b7f{p:K8}(h:A0 p):(if p.E4=[]then p.Name else p.E4++46::p.Name).length<=105001:=by
 have:=h.name;have:=h.group;split
 . omega
 . simp only[d4Y,d5h];omega
def b7G{p:K8}(h:A0 p)(hm:L8 p=false)(i:Nat):((p.Params.take i).flatMap a6M).length<=4200000:=by
 have h1:=K9 (f:=a6M) (k:=210000) (l:=p.Params.take i) fun x hx=>(a97 h hm (d8o hx)).2;have h2:=a4r hm;have h3:(p.Params.take i).length<=20:=by rw[d5n];omega
 have h4:=d5s 210000 h3;omega
def p32(p:K8)(h:A0 p):V32 p (fun y0 y1=>y0=(a0z p).1/\y1=(a0z p).2):=by
 unfold V32 c2W;refine⟨h,fun hr=>?_,fun hr=>?_⟩
 . have hr:¬D6 p=true:=hr;unfold a0z;rw[if_neg hr];exact⟨rfl,rfl⟩
 have hr:D6 p=true:=d4S.1 hr;obtain⟨h0,hM⟩:=I2.1 hr;have s1:=h.name;have s2:=h.group;have s3:=h.value;have s4:=a4r hM;refine⟨fun x=>x=if p.E4=[]then p.Name else p.E4++46::p.Name,⟨fun hg=>⟨by simp only[d5h,d6b];omega,by simp only[d4Y,d5h,d6b];omega,by rw[if_neg hg];simp⟩,fun hg=>by rw[if_pos (d4S.1 hg)]⟩,?_⟩;rintro x hx;have lx:=b7f h;rw[<- hx]at lx;refine⟨fun y i=>0<=i/\i<=p.Params.length/\y=x++(p.Params.take i.toNat).flatMap a6M,fun _ i=>((p.Params.length:Int)-i).toNat,⟨by omega,by omega,by simp⟩,?_⟩;rintro y i ⟨i0,i1,rfl⟩;have fl:=b7G h hM i.toNat;refine⟨fun hi=>⟨i0,hi,?_⟩,fun hi=>?_⟩
 . have hm:=w5 i0 hi;have tk:=a2O i0 hi;obtain⟨v1,v2⟩:=a5a h hM hm;obtain⟨jl,tl⟩:=a97 h hM hm;have nl:=(h.param _ hm).name;generalize ix p.Params i=z at *;refine⟨fun l k=>0<=k/\k<=z.p6.length/\l=(z.p6.take k.toNat).map told,fun _ k=>((z.p6.length:Int)-k).toNat,⟨by omega,by omega,by simp⟩,?_⟩;rintro l k ⟨k0,k1,rfl⟩;refine⟨fun hk=>⟨k0,hk,by have:=v2 _ (w5 k0 hk);omega,by simp;omega,⟨by omega,by omega⟩,⟨by omega,by omega,by rw[a2O k0 hk];simp⟩,by first|omega|(dsimp only;omega)⟩,fun hk=>?_⟩;have e:z.p6.take k.toNat=z.p6:=d5z (by omega);rw[e,a9G];simp only[d5h,d6b,d4Y,d6h];refine⟨by omega,by omega,⟨by omega,by omega⟩,by omega,by omega,⟨by omega,by omega⟩,⟨by omega,by omega,?_⟩,by first|omega|(dsimp only;omega)⟩;rw[tk];simp[a6M]
 . have e:p.Params.take i.toNat=p.Params:=d5z (by omega);rw[e]at fl ⊢;simp only[d5h,d6b,d4Y];refine⟨by omega,by omega,?_⟩;unfold a0z Li.tell;rw[if_pos hr,<- hx];simp
def d3k(p:K8)(nx:Nat):CR U:=⟨[A0 p],[],.F5 [.str ((a0z p).1),.err ((a0z p).2)],[]⟩
def c32(a:List (SV U))(nx:Nat):Option (CR U):=match a with|[.agg [.str p0,.str p1,.sl 130 p2,.str p3]]=>some (d3k (⟨p0,p1,p2,p3⟩) nx)|_=>none
def N32:Env:=N70.a0K 127 c32
def N32_ok:c8 N32:=N70_ok.a0K Tryz.call127 fun(args:List (SV U)) nx (c:CR U) (h:c32 args nx=some c) hp ho=>by
 unfold c32 at h;split at h
 . rename_i p0 p1 p2 p3;cases h;exact c7u (an:=d2m 127) N70_ok (inlHN_ok N70_ok H0_ok d2m 2) Tryz.func127 (k1:=.str) (k2:=.err) rfl hp (kc (p32 (⟨p0,p1,p2,p3⟩) ho.1) (by kernel_rfl))
 . cases h
def d2F:Nat->D3:=fun|91=>⟨76,fun|3=>some ⟨[1],[.slot 3 (.int .i64),.slot 4 (.int .i64)]⟩|8=>some ⟨[1,4,5],[.slot 3 (.int .i64),.slot 6 (.int .i64)]⟩|_=>none,nn⟩|_=>⟨0,nn,nn⟩
def c6m(p:K8):=(bif false then max (↑(List.length p.Value):Int) 100000 else min (↑(List.length p.Value):Int) 100000)+bif false then max (↑(List.length p.Name):Int) 100000 else min (↑(List.length p.Name):Int) 100000
def c6L(x:Int)(p:K8)(x_1:Int):=(x+bif false then max (↑(List.length (ix p.Params x_1).Name):Int) 100000 else min (↑(List.length (ix p.Params x_1).Name):Int) 100000)+bif false then max (↑(ix p.Params x_1).p6.length:Int) 100000 else min (↑(ix p.Params x_1).p6.length:Int) 100000
def c6I(p:K8):=(c6m p)+bif false then max (↑(List.length p.E4):Int) 100000 else min (↑(List.length p.E4):Int) 100000
def V31(p:K8)(Q:Bool->Prop):Prop:=
c6 (c6m p)/\c6 (c6I p)/\∃(I:Int->Int->Prop),∃(m:Int->Int->Nat),I (c6I p) 0/\∀(x x_1:Int),I x x_1->(bR (x_1<(↑p.Params.length:Int)/\x_1<=30) (0<=x_1/\x_1<(↑p.Params.length:Int)/\c6 (x+bif false then max (↑(List.length (ix p.Params x_1).Name):Int) 100000 else min (↑(List.length (ix p.Params x_1).Name):Int) 100000)/\c6 (c6L x p x_1)/\∃(I_1:Int->Int->Prop),∃(m_1:Int->Int->Nat),I_1 (c6L x p x_1) 0/\∀(x_2 x_3:Int),I_1 x_2 x_3->(bR (x_3<(↑(ix p.Params x_1).p6.length:Int)/\x_3<=30) (0<=x_3/\x_3<(↑(ix p.Params x_1).p6.length:Int)/\c6 (x_2+bif false then max (↑(ix (ix p.Params x_1).p6 x_3).length:Int) 100000 else min (↑(ix (ix p.Params x_1).p6 x_3).length:Int) 100000)/\c6 (x_3+1)/\I_1 (x_2+bif false then max (↑(ix (ix p.Params x_1).p6 x_3).length:Int) 100000 else min (↑(ix (ix p.Params x_1).p6 x_3).length:Int) 100000) (x_3+1)/\m_1 (x_2+bif false then max (↑(ix (ix p.Params x_1).p6 x_3).length:Int) 100000 else min (↑(ix (ix p.Params x_1).p6 x_3).length:Int) 100000) (x_3+1)<m_1 x_2 x_3) (c6 (x_1+1)/\I x_2 (x_1+1)/\m x_2 (x_1+1)<m x x_1))) (Q (decide ((↑p.Params.length:Int)<=30/\x<=5000))))
def W4(n:Nat):Int:=min (n:Int) 100000
def K3(n:Nat):0<=W4 n/\W4 n<=100000:=by unfold W4;omega
def S4{n:Nat}{k:Int}(h:W4 n<=k)(hk:k<100000):(n:Int)<=k:=by unfold W4 at h;omega
def a3a(l:List z6):Int:=(l.map fun v=>W4 v.length).sum
def b9Y(a:List z6)(v:z6):a3a (a++[v])=a3a a+W4 v.length:=by simp[a3a]
def a4D:∀l:List z6,0<=a3a l/\a3a l<=l.length*100000
 |[]=>by simp[a3a]
 |v::l=>by
  have:=a4D l;have:=K3 v.length;have e:a3a (v::l)=W4 v.length+a3a l:=by simp[a3a]
  rw[e,d5h];omega
def b9H{l:List z6}{v:z6}(h:v∈l):W4 v.length<=a3a l:=by
 induction l with
 |nil=>cases h
 |cons a l ih =>
  have e:a3a (a::l)=W4 a.length+a3a l:=by simp[a3a]
  rw[e];have:=K3 a.length;have:=a4D l;rcases d5k.1 h with rfl|h
  . omega
  . have:=ih h;omega
def a8A(x:Param):Int:=W4 x.Name.length+W4 x.p6.length+a3a (x.p6.take 31)
def b5y(x:Param):0<=a8A x/\a8A x<=3300000:=by
 have:=K3 x.Name.length;have:=K3 x.p6.length;have:=a4D (x.p6.take 31);have:(x.p6.take 31).length<=31:=by rw[d5n];omega
 unfold a8A;omega
def a3b(l:List Param):Int:=(l.map a8A).sum
def c0c(a:List Param)(x:Param):a3b (a++[x])=a3b a+a8A x:=by simp[a3b]
def a6s:∀l:List Param,0<=a3b l/\a3b l<=l.length*3300000
 |[]=>by simp[a3b]
 |x::l=>by
  have:=a6s l;have:=b5y x;have e:a3b (x::l)=a8A x+a3b l:=by simp[a3b]
  rw[e,d5h];omega
def c29{l:List Param}{x:Param}(h:x∈l):a8A x<=a3b l:=by
 induction l with
 |nil=>cases h
 |cons a l ih =>
  have e:a3b (a::l)=a8A a+a3b l:=by simp[a3b]
  rw[e];have:=b5y a;have:=a6s l;rcases d5k.1 h with rfl|h
  . omega
  . have:=ih h;omega
def c6Z(p:K8):Int:=W4 p.Value.length+W4 p.Name.length+W4 p.E4.length+a3b (p.Params.take 31)
def b3o(p:K8):Bool:=decide ((p.Params.length:Int)<=30/\c6Z p<=5000)
def b1y{α:Type}{l:List α}{i:Int}(h0:0<=i)(h1:i<=l.length)(h2:i<=31)(h:¬(i<l.length/\i<=30)):l.take i.toNat=l.take 31:=by
 by_cases e:i=31
 . subst e;rfl
 . have:i=l.length:=by omega
   rw[d5z (by omega),d5z (by omega)]
def p31(p:K8)  : V31 p (fun y0=>y0=b3o p):=by
 unfold V31 c6I c6L c6m;simp only[d5y];have c1:=K3 p.Value.length;have c2:=K3 p.Name.length;have c3:=K3 p.E4.length;have e1:min (p.Value.length:Int) 100000=W4 p.Value.length:=rfl;have e2:min (p.Name.length:Int) 100000=W4 p.Name.length:=rfl;have e3:min (p.E4.length:Int) 100000=W4 p.E4.length:=rfl;rw[e1,e2,e3];refine⟨⟨by omega,by omega⟩,⟨by omega,by omega⟩,fun n i=>0<=i/\i<=p.Params.length/\i<=31/\n=W4 p.Value.length+W4 p.Name.length+W4 p.E4.length+a3b (p.Params.take i.toNat),fun _ i=>((p.Params.length:Int)-i).toNat,⟨by omega,by omega,by omega,by simp[a3b]⟩,?_⟩;rintro n i ⟨i0,i1,i2,hn⟩;have lp:=a6s (p.Params.take i.toNat);rw[d5n]at lp;refine⟨fun⟨hi,h30⟩=>?_,fun hi=>?_⟩
 . have tk:=a2O i0 hi;generalize hx:ix p.Params i=x at tk ⊢;have d1:=K3 x.Name.length;have d2:=K3 x.p6.length;have e4:min (x.Name.length:Int) 100000=W4 x.Name.length:=rfl;have e5:min (x.p6.length:Int) 100000=W4 x.p6.length:=rfl;rw[e4,e5];refine⟨i0,hi,⟨by omega,by omega⟩,⟨by omega,by omega⟩,fun m k=>0<=k/\k<=x.p6.length/\k<=31/\m=n+W4 x.Name.length+W4 x.p6.length+a3a (x.p6.take k.toNat),fun _ k=>((x.p6.length:Int)-k).toNat,⟨by omega,by omega,by omega,by simp[a3a]⟩,?_⟩;rintro m k ⟨k0,k1,k2,hm⟩;have lv:=a4D (x.p6.take k.toNat);rw[d5n]at lv;refine⟨fun⟨hk,hk30⟩=>?_,fun hk=>⟨⟨by omega,by omega⟩,⟨by omega,by omega,by omega,?_⟩,by first|omega|(dsimp only;omega)⟩⟩
   . have tv:=a2O k0 hk;generalize ix x.p6 k=v at tv ⊢;have e6:min (v.length:Int) 100000=W4 v.length:=rfl;have d3:=K3 v.length;rw[e6];exact⟨k0,hk,⟨by omega,by omega⟩,⟨by omega,by omega⟩,⟨by omega,by omega,by omega,by rw[tv,b9Y];omega⟩,by first|omega|(dsimp only;omega)⟩
   . rw[b1y k0 k1 k2 hk]at hm;rw[tk,c0c];show m=_
     unfold a8A;omega
 . rw[b1y i0 i1 i2 hi]at hn;show _=decide _
   unfold c6Z;rw[hn]
def d4c(p:K8):Q1 U:=⟨[],[],I4 (b3o p)⟩
def c31(a:List (SV U)):Option (Q1 U):=match a with|[.agg [.str p0,.str p1,.sl 130 p2,.str p3]]=>some (d4c (⟨p0,p1,p2,p3⟩))|_=>none
def N31:Env:=N32.B3 91 c31
def N31_ok:c8 N31:=N32_ok.B3 Tryz.call91 fun(args:List (SV U)) (q:Q1 U) (h:c31 args=some q) ho=>by
 unfold c31 at h;split at h
 . rename_i p0 p1 p2 p3;cases h;exact I1 (an:=d2F 91) N32_ok (inlHN_ok N32_ok H0_ok d2F 2) Tryz.func91 (k:=.bool) (x:=b3o (⟨p0,p1,p2,p3⟩:K8)) trivial (kc (p31 (⟨p0,p1,p2,p3⟩) ) (by kernel_rfl)) 0
 . cases h
end Go.Proofs.YtapnoejokajcoaaGreatDoor
namespace Go.Qu
open Go Go.Wk Go.Wl Go.Rx Go.Re Go.Li Go.Fo
noncomputable section
def s6(n:Int)(p:Int->Prop):Prop:=∀j:Int,0<=j->j<n->p j
def s6.zero{p:Int->Prop}:s6 0 p:=fun j _ _=>by omega
def s6.succ{n:Int}{p:Int->Prop}(h:s6 n p)(hp:p n):s6 (n+1) p:=fun j j0 j1=>by
 by_cases e:j=n
 . rw[e];exact hp
 . exact h j j0 (by omega)
def s6.le{n m:Int}{p:Int->Prop}(h:s6 n p)(hm:m<=n):s6 m p:=fun j j0 j1=>h j j0 (by omega)
def s6.list{α:Type}[Inhabited α]{l:List α}{p:α->Prop}:s6 l.length (fun j=>p (ix l j))↔∀x∈l,p x:=
 ⟨fun h x hx=>by obtain⟨n,hn,rfl⟩:=d5w hx;have h:=h n (by omega) (by omega);dsimp only at h;rw[s8 (by simpa using hn)]at h;simpa using h,fun h j j0 j1=>h _ (w5 j0 j1)⟩
open Classical in
def bo(p:Prop):Bool:=decide p
open Classical in
def z8{p:Prop}:bo p=true↔p:=by unfold bo;exact d5M
def G6{p:Prop}(h:¬p):false=bo p:=by
 cases e:bo p with
 |true=>exact absurd (z8.1 e) h
 |false=>rfl
def a1p{p:Prop}(h:p):true=bo p:=(z8.2 h).symm
open Classical in
def a1o{p q:Prop}[d:Decidable p](h:p↔q):decide p=bo q:=by unfold bo;exact d5N.2 h
def etO(o:Obv):Obv:=Obv.mk o.Name (j7 o.Start) o.a8P o.To o.b9
def etZ(z:V7):V7:=V7.mk z.ID z.E2
def etA(a:Alm):Alm:=Alm.mk a.Action a.S9 a.Extra
def etP(p:K8):K8:=K8.mk p.E4 p.Name p.Params p.Value
def W5(m:E6):E6:=E6.mk (j7 m.Time) m.D9
def etI(x:Q4):Q4:=Q4.mk (W5 x.Start) x.End x.Span x.b9 x.o5 x.l5 x.p8 x.w6 x.Extra
def Y7(o:F3):F3:=F3.mk o.Kind o.UID o.c9 (etI o.Main) o.Over o.Extra
def etN(x:Ins):Ins:=Ins.mk (j7 x.Start) (j7 x.End) (j7 x.l7) (decide (x.Over=true))
def C7(o:Obv):etO o=o:=by unfold etO;rw[y8]
def C6(z:V7):etZ z=z:=rfl
def C8(a:Alm):etA a=a:=rfl
def D0(p:K8):etP p=p:=rfl
def C5(m:E6):W5 m=m:=by unfold W5;rw[y8]
def C3(x:Q4):etI x=x:=by unfold etI;rw[C5]
def D2(o:F3):Y7 o=o:=by unfold Y7;rw[C3]
def B9(x:Ins):etN x=x:=by unfold etN;simp only[y8,d4Z]
def c0u(n:Int):Bool:=decide (-86400<n/\n<86400)
def stN:z6:=[83,84,65,78,68,65,82,68]
def dlN:z6:=[68,65,89,76,73,71,72,84]
def c1M(o:Obv):Prop:=(o.Name=stN∨o.Name=dlN)/\(p9 o.Start=true/\o.Start.o7=false/\o.Start.UTC=false)/\c0u o.a8P=true/\c0u o.To=true/\(o.b9.length:Int)<=1/\((o.b9.length:Int)=1->G3 o.Start (ix o.b9 0)=true)
def a4M(z:V7):Prop:=z.ID≠[]/\(z.ID.length:Int)<=60/\z.ID.all D1=true/\(z.E2.length:Int)≠0/\(z.E2.length:Int)<=20/\s6 z.E2.length fun j=>c1M (ix z.E2 j)
def X9(z:V7):Prop:=z.E2.length<=25/\z.ID.length<=2000/\∀o∈z.E2,0<(o.b9.length:Int)->F9 (ix o.b9 0)=true
def tmZ:Tm:=⟨⟨0,0,0⟩,0,0,0,false,false⟩
def tmU:Tm:=⟨⟨0,0,0⟩,0,0,0,false,true⟩
def V9(e:o6):o6:=match e.num with
 |some n=>.no n
 |none=>e
def onS(o:Obv)(t:Int):Int×Bool×o6:=
 if t<b8 o.Start then(0,false,.nil)else
 if(o.b9.length:Int)=0 then(b8 o.Start,true,.nil)else
 (b8 (P0 o.Start (ix o.b9 0) (L4 (min t 315537897599) o.Start)).1,(P0 o.Start (ix o.b9 0) (L4 (min t 315537897599) o.Start)).2.1,(P0 o.Start (ix o.b9 0) (L4 (min t 315537897599) o.Start)).2.2)
structure Fz where
 best:Int
 out:Int
 some:Bool
 early:Int
def fzN(l:List Obv)(t:Int)(f:Fz)(i:Int):Fz:=
 let n:=onS (ix l i) t
 let e:=if b8 (ix l i).Start<b8 (ix l f.early).Start then i else f.early
 if n.2.1=true/\(f.some=false∨f.best<=n.1)then⟨n.1,(ix l i).To,true,e⟩else⟨f.best,f.out,f.some,e⟩
def fz(l:List Obv)(t:Int):Nat->Fz
 |0=>⟨0,0,false,0⟩
 |n+1=>fzN l t (fz l t n) n
def fzE(l:List Obv)(t:Int):Nat->Option o6
 |0=>none
 |n+1=>match fzE l t n with
  |some e=>some e
  |none=>if(onS (ix l n) t).2.2=.nil then none else some (V9 (onS (ix l n) t).2.2)
def V5(z:V7)(t:Int):Int×o6:=match fzE z.E2 t z.E2.length with
 |some e=>(0,e)
 |none=>if(fz z.E2 t z.E2.length).some=true then((fz z.E2 t z.E2.length).out,.nil)else((ix z.E2 (fz z.E2 t z.E2.length).early).a8P,.nil)
open Classical in
def V3(z:V7)(t:Tm):Int×o6:=if a4M z/\p9 t=true/\t.UTC=false then V5 z (b8 t)else(0,.no 2)
def a5e(t:Tm)(n:Int)(u:Bool):Tm×o6:=if(L4 (b8 t+n) ⟨⟨0,0,0⟩,0,0,0,false,u⟩).Day.Year=0 then(tmZ,.no 3)else(L4 (b8 t+n) ⟨⟨0,0,0⟩,0,0,0,false,u⟩,.nil)
open Classical in
def X0(z:V7)(t:Tm):Tm×o6:=if a4M z/\p9 t=true/\t.UTC=true then(t,.nil)else if(V3 z t).2=.nil then a5e t (-(V3 z t).1) true else(tmZ,(V3 z t).2)
def I0(p:K8):z6:=if(a0z p).2=.nil then(a0z p).1 else []
def bgN:z6:=[66,69,71,73,78]
def enN:z6:=[69,78,68]
def a1J(l:List K8)(no:z6->Bool):Prop:=(s6 l.length fun j=>I0 (ix l j)≠[]/\((I0 (ix l j)).length:Int)<=5000/\(ix l j).Name≠bgN/\(ix l j).Name≠enN/\no (ix l j).Name=false/\(0<j->(Op.bytesLess (I0 (ix l (j-1))) (I0 (ix l j))=true∨I0 (ix l (j-1))=I0 (ix l j))))/\(l.length:Int)<=100
def d3r(zs:List V7)(n:z6):Prop:=∃j:Int,0<=j/\j<zs.length/\(ix zs j).ID=n
def S0(zs:List V7)(m:E6):Prop:=p9 m.Time=true/\(m.D9≠[]->m.Time.o7=false/\m.Time.UTC=false/\d3r zs m.D9)
def P5(a b:E6):Bool:=decide (a.Time.o7=b.Time.o7/\a.Time.UTC=b.Time.UTC/\a.D9=b.D9)
def a8J(zs:List V7)(l:List E6)(like:E6):Prop:=(s6 l.length fun j=>S0 zs (ix l j)/\P5 (ix l j) like=true/\(0<j->b8 (ix l (j-1)).Time<b8 (ix l j).Time))/\(l.length:Int)<=100
def auN:z6:=[65,85,68,73,79]
def diN:z6:=[68,73,83,80,76,65,89]
def emN:z6:=[69,77,65,73,76]
def acN:z6:=[65,67,84,73,79,78]
def trN:z6:=[84,82,73,71,71,69,82]
def vnN:z6:=[86,69,82,83,73,79,78]
def a1V(n:z6):Bool:=decide (n=acN∨n=trN)
def a18(n:z6):Bool:=decide (n=vnN)
def a2e(n:z6):Bool:=decide (n=[85,73,68]∨n=[82,69,67,85,82,82,69,78,67,69,45,73,68]∨n=[68,84,83,84,65,82,84]∨n=[68,84,69,78,68]∨n=[68,85,69]∨n=[68,85,82,65,84,73,79,78]∨n=[82,82,85,76,69]∨n=[82,68,65,84,69]∨n=[69,88,68,65,84,69])
def b86(a:Alm):Prop:=(a.Action=auN∨a.Action=diN∨a.Action=emN)/\-1000000000<=a.S9/\a.S9<=1000000000/\a1J a.Extra a1V
open Classical in
def S2(zs:List V7)(x:Q4):Prop:=S0 zs x.Start/\(x.End.length:Int)+x.Span.length<=1/\(x.b9.length:Int)<=1/\(x.w6.length:Int)<=10/\(s6 x.End.length fun j=>S0 zs (ix x.End j)/\P5 (ix x.End j) x.Start=true/\b8 x.Start.Time<b8 (ix x.End j).Time)/\(s6 x.Span.length fun j=>1<=ix x.Span j/\ix x.Span j<=1000000000/\(x.Start.Time.o7=true->(ix x.Span j).tmod 86400=0))/\(s6 x.b9.length fun j=>G3 x.Start.Time (ix x.b9 j)=true)/\(s6 x.p8.length fun j=>S0 zs (ix x.p8 j))/\(s6 x.w6.length fun j=>b86 (ix x.w6 j))/\a8J zs x.o5 x.Start/\a8J zs x.l5 x.Start/\a1J x.Extra a2e
def a2l(x:Q4):Prop:=x.End.length<=60/\x.Span.length<=60/\x.b9.length<=5/\x.o5.length<=200/\x.l5.length<=200/\x.p8.length<=60/\x.w6.length<=15/\(∀r∈x.b9,F9 r=true)/\(∀a∈x.w6,(∀p∈a.Extra,A0 p)/\(a.Extra.length:Int)<=1000000)/\(∀p∈x.Extra,A0 p)/\(x.Extra.length:Int)<=1000000
def evN:z6:=[86,69,86,69,78,84]
def tdN:z6:=[86,84,79,68,79]
def c7y:z6:=[85,73,68]
open Classical in
def V8(o:F3):Prop:=((o.Kind=evN∨o.Kind=tdN)/\o.UID≠[]/\(o.UID.length:Int)<=100/\(o.c9.length:Int)<=5/\(o.Over.length:Int)<=50/\(o.Main.p8.length:Int)<=0)/\D6 ⟨[],c7y,[],o.UID⟩=true/\a1J o.Extra a18/\S2 o.c9 o.Main/\(s6 o.c9.length fun j=>a4M (ix o.c9 j)/\s6 j fun k=>(ix o.c9 k).ID≠(ix o.c9 j).ID)/\(s6 o.Over.length fun j=>((ix o.Over j).p8.length:Int)=1/\((ix o.Over j).b9.length:Int)+(ix o.Over j).o5.length+(ix o.Over j).l5.length<=0/\S2 o.c9 (ix o.Over j)/\P5 (ix (ix o.Over j).p8 0) o.Main.Start=true/\(0<j->b8 (ix (ix o.Over (j-1)).p8 0).Time<b8 (ix (ix o.Over j).p8 0).Time))
def a11(o:F3):Prop:=o.Kind.length<=3000/\o.UID.length<=3000/\o.c9.length<=8/\o.Over.length<=60/\(∀p∈o.Extra,A0 p)/\(o.Extra.length:Int)<=1000000/\a2l o.Main/\(∀z∈o.c9,X9 z)/\∀x∈o.Over,a2l x
end
end Go.Qu
namespace Go.Proofs.YtapnoejokajcoaaGreatDoor
open Go Go.Wk Go.Wl Go.Rx Go.Re Go.Li Go.Qu Go.Fo 
attribute [local irreducible] j4
def c9J:Nat->D3:=fun|84=>⟨26,fun|2=>some ⟨[0,5],[.slot 6 (.int .i64)]⟩|_=>none,nn⟩|_=>⟨0,nn,nn⟩
def Vzs(s:z6)(Q:Bool->Prop):Prop:=
∃(I:Int->Prop),∃(m:Int->Nat),I 0/\∀(x:Int),I x->(bR (x<(↑(List.length s):Int)) (0<=x/\x<(↑(List.length s):Int)/\(ix s x≠9->0<=x)/\(ix s x≠9->x<(↑(List.length s):Int))/\(¬(ix s x≠9/\ix s x<32)->0<=x)/\(¬(ix s x≠9/\ix s x<32)->x<(↑(List.length s):Int))/\(bR (ix s x≠9/\ix s x<32∨ix s x=127) (Q false) (c6 (x+1)/\I (x+1)/\m (x+1)<m x))) (Q true))
def c0B(c:UInt8):D1 c=true↔¬(c≠9/\c<32∨c=127):=by
 unfold D1;simp only[d5V,d7V,d4U,d6e,bne_iff_ne];constructor
 . rintro(h|⟨h1,h2⟩) (⟨h3,h4⟩|h3)
   . exact h3 h
   . subst h;cases h3
   . exact absurd h4 (UInt8.not_lt.2 h1)
   . exact h2 h3
 . intro h;by_cases e:c=9
   . exact .inl e
   . exact .inr ⟨UInt8.not_lt.1 fun hl=>h (.inl ⟨e,hl⟩),fun e2=>h (.inr e2)⟩
def pzs(s:z6)(hs:s.length<=9223372036854775807):Vzs s (fun y0=>y0=s.all D1):=by
 unfold Vzs;refine⟨fun x=>0<=x/\x<=s.length/\∀j:Int,0<=j->j<x->D1 (ix s j)=true,fun x=>((s.length:Int)-x).toNat,⟨by omega,by omega,fun j _ _=>by omega⟩,?_⟩;rintro x ⟨x0,x1,hx⟩;refine⟨fun hi=>⟨x0,hi,fun _=>x0,fun _=>hi,fun _=>x0,fun _=>hi,fun hb=>?_,fun hb=>⟨⟨by omega,by omega⟩,⟨by omega,by omega,fun j j0 j1=>?_⟩,by dsimp only;omega⟩⟩,fun hi=>(b53 fun j j0 j1=>hx j j0 (by omega)).symm⟩
 . have:=b0H x0 hi (fun h=>(c0B _).1 h hb);cases hh:(List.all s D1)
   . rfl
   . exact absurd hh this
 . by_cases e:j=x
   . subst e;exact(c0B _).2 hb
   . exact hx j j0 (by omega)
def Nzs:Env:=N31.kL 84 (rS.c .n) (.bool) (fun y=>[List.length (α:=UInt8) y.1<=9223372036854775807]) (fun y=>y.1.all D1)
def Nzs_ok:c8 Nzs:=N31_ok.kL Tryz.call84 Tryz.func84 (inlHN_ok N31_ok H0_ok c9J 2) (an:=c9J 84) (fun _ _=>trivial) fun y ho=>kc (pzs y.1 ho.1) (by kernel_rfl)
def d2T:Env:=Nzs.z7 85 Tryz.f85
def NI85_ok:c8 d2T:=Nzs_ok.z7 Tryz.call85 Tryz.func85
def c52:Env:=d2T.z7 131 Tryz.f131
def NI131_ok:c8 c52:=NI85_ok.z7 Tryz.call131 Tryz.func131
def d0l:Env:=c52.z7 86 Tryz.f86
def NI86_ok:c8 d0l:=NI131_ok.z7 Tryz.call86 Tryz.func86
def d1h:Env:=d0l.z7 87 Tryz.f87
def NI87_ok:c8 d1h:=NI86_ok.z7 Tryz.call87 Tryz.func87
def c4P:Env:=d1h.z7 132 Tryz.f132
def NI132_ok:c8 c4P:=NI87_ok.z7 Tryz.call132 Tryz.func132
def d0e:Nat->D3:=fun|39=>⟨34,nn,nn⟩|85=>⟨9,nn,nn⟩|131=>⟨19,fun|2=>some ⟨[0,1,7],[.slot 8 (.int .i64)]⟩|_=>none,nn⟩|86=>⟨7,nn,nn⟩|87=>⟨69,nn,nn⟩|132=>⟨9,nn,nn⟩|_=>⟨0,nn,nn⟩
def b7H(z:V7)(x:Int):=(o6.p (195:Nat) (ix z.E2 x).Name 2).is 2
def a7e(z:V7)(x:Int):=ix (ix z.E2 x).b9 0
def VzR(z:V7)(Q:Bool->Prop):Prop:=
(¬(z.ID=[]∨60<(↑(List.length z.ID):Int))->List.length z.ID<=9223372036854775807)/\(bR ((((z.ID=[]∨60<(↑(List.length z.ID):Int))∨¬List.all z.ID D1=true)∨(↑z.E2.length:Int)=0)∨20<(↑z.E2.length:Int)) (Q false) (∃(I:Int->Prop),∃(m:Int->Nat),I 0/\∀(x:Int),I x->(bR (x<(↑z.E2.length:Int)) (0<=x/\x<(↑z.E2.length:Int)/\(bR ((ix z.E2 x).Name≠([83,84,65,78,68,65,82,68]:List UInt8)/\(ix z.E2 x).Name≠([68,65,89,76,73,71,72,84]:List UInt8)) ((bR (b7H z x) (Q (decide ¬0<=x)) (c6 (x+1)/\I (x+1)/\m (x+1)<m x))) ((bR ((¬p9 (j7 (ix z.E2 x).Start)=true∨(ix z.E2 x).Start.o7=true)∨(ix z.E2 x).Start.UTC=true) ((bR (b7H z x) (Q (decide ¬0<=x)) (c6 (x+1)/\I (x+1)/\m (x+1)<m x))) ((bR (¬((-86400:Int)<(ix z.E2 x).a8P/\(ix z.E2 x).a8P<86400)) ((bR (b7H z x) (Q (decide ¬0<=x)) (c6 (x+1)/\I (x+1)/\m (x+1)<m x))) ((bR (¬((-86400:Int)<(ix z.E2 x).To/\(ix z.E2 x).To<86400)∨1<(↑(ix z.E2 x).b9.length:Int)) ((bR (b7H z x) (Q (decide ¬0<=x)) (c6 (x+1)/\I (x+1)/\m (x+1)<m x))) ((((↑(ix z.E2 x).b9.length:Int)=1->(0:Int)<=0)/\((↑(ix z.E2 x).b9.length:Int)=1->0<(↑(ix z.E2 x).b9.length:Int)))/\(((↑(ix z.E2 x).b9.length:Int)=1->c6 (a7e z x).l6)->((↑(ix z.E2 x).b9.length:Int)=1->c6 (a7e z x).Interval)->((↑(ix z.E2 x).b9.length:Int)=1->c6 (a7e z x).Count)->((↑(ix z.E2 x).b9.length:Int)=1->c6 (a7e z x).v8)->(↑(ix z.E2 x).b9.length:Int)=1->F9 (M1 (a7e z x))=true)/\(((↑(ix z.E2 x).b9.length:Int)=1->c6 (a7e z x).l6)->((↑(ix z.E2 x).b9.length:Int)=1->c6 (a7e z x).Interval)->((↑(ix z.E2 x).b9.length:Int)=1->c6 (a7e z x).Count)->((↑(ix z.E2 x).b9.length:Int)=1->c6 (a7e z x).v8)->(bR ((↑(ix z.E2 x).b9.length:Int)=1/\¬G3 (j7 (ix z.E2 x).Start) (M1 (a7e z x))=true) ((bR (b7H z x) (Q (decide ¬0<=x)) (c6 (x+1)/\I (x+1)/\m (x+1)<m x))) ((bR (o6.nil.is 2) (Q (decide ¬0<=x)) (c6 (x+1)/\I (x+1)/\m (x+1)<m x)))))))))))))) (Q (decide ¬(0:Int)<=(-1:Int))))))
def d3F(t:Nat)(s:z6)(n:Int):(o6.p t s n).is n:=rfl
def c6B(n:Int):¬o6.nil.is n:=fun h=>by cases h
def pzR(z:V7)(hf:X9 z):VzR z (fun y0=>y0=bo (a4M z)):=by
 unfold VzR a7e b7H;simp only[y8,A9];refine⟨fun _=>by have:=hf.2.1;omega,fun h=>G6 fun⟨a,b,c,d,e,_⟩=>?_,fun h=>?_⟩
 . rcases h with(((h|h)|h)|h)|h
   . exact a h
   . omega
   . exact h c
   . exact d h
   . omega
 have hh:z.ID≠[]/\(z.ID.length:Int)<=60/\z.ID.all D1=true/\(z.E2.length:Int)≠0/\(z.E2.length:Int)<=20:=⟨fun e=>h (.inl (.inl (.inl (.inl e)))),d5K.1 fun e=>h (.inl (.inl (.inl (.inr e)))),d4S.1 fun e=>h (.inl (.inl (.inr e))),fun e=>h (.inl (.inr e)),d5K.1 fun e=>h (.inr e)⟩;obtain⟨a,b,c,d,e⟩:=hh;refine⟨fun x=>0<=x/\x<=z.E2.length/\s6 x fun j=>c1M (ix z.E2 j),fun x=>((z.E2.length:Int)-x).toNat,⟨by omega,by omega,s6.zero⟩,?_⟩;rintro x ⟨x0,x1,hx⟩;have dx:decide (¬0<=x)=false:=d5q fun h=>h x0;refine⟨fun hi=>⟨x0,hi,?_⟩,fun hi=>?_⟩
 . have hr:=hf.2.2 _ (w5 x0 hi);generalize ho:ix z.E2 x=o at *;have bad:∀(P:Prop)(n:z6),¬c1M o->((o6.p 195 n 2).is 2->(decide (¬0<=x))=bo (a4M z))/\(¬(o6.p 195 n 2).is 2->P):=fun P n hn=>⟨fun _=>by rw[dx];exact G6 fun hz=>hn (by have:=hz.2.2.2.2.2 x x0 hi;dsimp only at this;rwa [ho]at this),fun h=>absurd (d3F _ _ _) h⟩;refine⟨fun hn=>bad _ _ fun hO=>?_,fun hn=>⟨fun hs=>bad _ _ fun hO=>?_,fun hs=>⟨fun hF=>bad _ _ fun hO=>?_,fun hF=>⟨fun hT=>bad _ _ fun hO=>?_,fun hT=>⟨⟨fun _=>d5o 0,fun h=>by omega⟩,fun _ _ _ _ h1=>hr (by omega),fun _ _ _ _=>⟨fun hR=>bad _ _ fun hO=>?_,fun hR=>⟨fun h=>absurd h (c6B _),fun _=>⟨⟨by omega,by omega⟩,⟨by omega,by omega,?_⟩,by dsimp only;omega⟩⟩⟩⟩⟩⟩⟩⟩
   . exact hO.1.elim hn.1 hn.2
   . rcases hs with(hs|hs)|hs
     . exact hs hO.2.1.1
     . rw[hO.2.1.2.1]at hs;cases hs
     . rw[hO.2.1.2.2]at hs;cases hs
   . exact hF (d5Q hO.2.2.1)
   . rcases hT with hT|hT
     . exact hT (d5Q hO.2.2.2.1)
     . have:=hO.2.2.2.2.1;omega
   . exact hR.2 (hO.2.2.2.2.2 hR.1)
   . refine hx.succ ?_;rw[ho];refine⟨?_,⟨d4S.1 fun e=>hs (.inl (.inl e)),?_,?_⟩,d5e (d4S.1 hF),d5e (d4S.1 fun e=>hT (.inl e)),d5K.1 fun e=>hT (.inr e),fun h1=>d4S.1 fun e=>hR ⟨h1,e⟩⟩
     . exact d4S.1 fun e=>hn ⟨fun e1=>e (.inl e1),fun e1=>e (.inr e1)⟩
     . cases hb:o.Start.o7 with
       |false=>rfl
       |true=>exact absurd (.inl (.inr hb)) hs
     . cases hb:o.Start.UTC with
       |false=>rfl
       |true=>exact absurd (.inr hb) hs
 . exact a1p ⟨a,b,c,d,e,hx.le (by omega)⟩
def NzR:Env:=c4P.kL 39 (r92.c .n) (.bool) (fun y=>[X9 y.1]) (fun y=>bo (a4M y.1))
def NzR_ok:c8 NzR:=NI132_ok.kL Tryz.call39 Tryz.func39 (inlHN_ok NI132_ok H0_ok d0e 5) (an:=d0e 39) (fun _ _=>trivial) fun y ho=>kc (pzR y.1 ho.1) (by kernel_rfl)
def d02:Nat->D3:=fun|189=>⟨47,nn,nn⟩|_=>⟨0,nn,nn⟩
def c7Q(t:Int):=bif false then max t (b8 (Tm.mk (Dy.mk 9999 12 31) 23 59 59 false false))else min t (b8 (Tm.mk (Dy.mk 9999 12 31) 23 59 59 false false))
def c4f(o:Obv)(t:Int):=P0 (j7 o.Start) (M1 (ix o.b9 0)) (j7 (L4 (c7Q t) (j7 o.Start)))
def Vzo(o:Obv)(t:Int)(Q:Int->Bool->o6->Prop):Prop:=
(bR (t<b8 (j7 o.Start)) (Q 0 false o6.nil) ((bR ((↑o.b9.length:Int)=0) (Q (b8 (j7 o.Start)) true o6.nil) ((c7Q t)<=9000000000000000000/\((0:Int)<=0/\0<(↑o.b9.length:Int))/\(c6 (ix o.b9 0).l6->c6 (ix o.b9 0).Interval->c6 (ix o.b9 0).Count->c6 (ix o.b9 0).v8->F9 (M1 (ix o.b9 0))=true)/\(c6 (ix o.b9 0).l6->c6 (ix o.b9 0).Interval->c6 (ix o.b9 0).Count->c6 (ix o.b9 0).v8->Q (b8 (j7 (c4f o t).fst)) (decide ((c4f o t).snd.fst=true)) (c4f o t).snd.snd)))))
def b0j(o:Obv)(t:Int):(onS o t).2.2=.nil∨∃n,(onS o t).2.2=.no n:=by
 unfold onS;split
 . exact .inl rfl
 split
 . exact .inl rfl
 . exact a7g _ _ _
def d2v:b8 (Tm.mk (Dy.mk 9999 12 31) 23 59 59 false false)=315537897599:=by decide
def d4G(a b:Int):(bif false then max a b else min a b)=min a b:=rfl
def pzo(o:Obv)(t:Int)(hf:o.b9=[]∨F9 (ix o.b9 0)=true):Vzo o t (fun y0 y1 y2=>y0=(onS o t).1/\y1=(onS o t).2.1/\y2=(onS o t).2.2):=by unfold Vzo c4f c7Q onS;simp only[y8,A9,d4Z];rw[d2v,d4G];refine⟨fun h=>by rw[if_pos h];exact⟨rfl,rfl,rfl⟩,fun h=>?_⟩;rw[if_neg h];refine⟨fun h0=>by rw[if_pos h0];exact⟨rfl,rfl,rfl⟩,fun h0=>?_⟩;rw[if_neg h0];exact⟨by omega,⟨by omega,by omega⟩,fun _ _ _ _=>hf.resolve_left (fun e=>h0 (by rw[e];rfl)),fun _ _ _ _=>⟨rfl,rfl,rfl⟩⟩
def d3A(o:Obv)(t:Int):Q1 U:=⟨[(o.b9:List Rl)=[]∨F9 (ix (α:=Rl) o.b9 0)=true],[],.F5 [.int .i64 ((onS o t).1),I4 ((onS o t).2.1),.err ((onS o t).2.2)]⟩
def czo(a:List (SV U)):Option (Q1 U):=match a with|[.agg l_o,.int .i64 t]=>(b7b.bk (.agg l_o)).bind fun o=>some (d3A o t)|_=>none
def Nzo:Env:=NzR.B3 189 czo
def Nzo_ok:c8 Nzo:=NzR_ok.B3 Tryz.call189 fun(args:List (SV U)) (q:Q1 U) (h:czo args=some q) ho=>by
 unfold czo at h;split at h
 . rename_i l_o t;obtain⟨o,hb_o,h⟩:=d5j.1 h;cases h;refine A4.conv (E:=NzR) (args':=[.agg [.str o.Name,.int .i64 o.Start.Day.Year,.int .i64 o.Start.Day.Month,.int .i64 o.Start.Day.Date,.int .i64 o.Start.Hour,.int .i64 o.Start.Min,.int .i64 o.Start.D8,I4 o.Start.o7,I4 o.Start.UTC,.int .i64 o.a8P,.int .i64 o.To,.sl 64 o.b9],.int .i64 t]) (c5i (an:=d02 189) NzR_ok (inlHN_ok NzR_ok H0_ok d02 2) Tryz.func189 (k1:=.int .i64) (k2:=.bool) (k3:=.err) trivial trivial (b0j _ _) (kc (pzo o t ho.1) (by kernel_rfl)) 0) fun D w vs hr=>O3 [.agg l_o,.int .i64 t] [.agg [.str o.Name,.int .i64 o.Start.Day.Year,.int .i64 o.Start.Day.Month,.int .i64 o.Start.Day.Date,.int .i64 o.Start.Hour,.int .i64 o.Start.Min,.int .i64 o.Start.D8,I4 o.Start.o7,I4 o.Start.UTC,.int .i64 o.a8P,.int .i64 o.To,.sl (N:=U) 64 o.b9],.int .i64 t] _ ⟨fun _ h=>b1I hb_o h,fun _ h=>h,trivial⟩ hr
 . cases h
def d0D:Nat->D3:=fun|171=>⟨3,nn,nn⟩|_=>⟨0,nn,nn⟩
def Vzb(o:Obv)(Q:Int->Prop):Prop:=
Q (0:Int)
def pzb(o:Obv)  : Vzb o (fun y0=>y0=0):=by unfold Vzb;rfl
def Nzb:Env:=Nzo.kL 171 (d3w.c .n) (.int .i64) (fun _=>[]) (fun y=>(0:Int))
def Nzb_ok:c8 Nzb:=Nzo_ok.kL Tryz.call171 Tryz.func171 (inlHN_ok Nzo_ok H0_ok d0D 2) (an:=d0D 171) (fun _ _=>trivial) fun y ho=>kc (pzb y.1 ) (by kernel_rfl)
def d1Q:Nat->D3:=fun|190=>⟨10,nn,nn⟩|_=>⟨0,nn,nn⟩
def Vzt(e:o6)(Q:o6->Prop):Prop:=
Proofs.YtapnoejokajcoaaGreatDoor.asB e=true/\(bR (e.num.isSome=true) (Q (o6.no (e.num.getD 0))) (Q e))
def a9M{e:o6}(h:asB e=true):V9 e=.nil∨∃n,V9 e=.no n:=by
 cases e with
 |nil=>exact .inl rfl
 |no n=>exact .inr ⟨n,rfl⟩
 |p t s n=>exact .inr ⟨n,rfl⟩
 |_=>cases h
def b22{e:o6}(h:e.num.isSome=true):o6.no (e.num.getD 0)=V9 e:=by
 unfold V9;cases hn:e.num with
 |none=>rw[hn]at h;cases h
 |some n=>rfl
def a95{e:o6}(h:¬e.num.isSome=true):e=V9 e:=by
 unfold V9;cases hn:e.num with
 |none=>rfl
 |some n=>rw[hn]at h;exact absurd rfl h
def pzt(e:o6)(he:asB e=true):Vzt e (fun y0=>y0=V9 e):=by unfold Vzt;exact⟨he,b22,a95⟩
def Nzt:Env:=Nzb.kL 190 (rE.c .n) (.err) (fun y=>[asB y.1=true]) (fun y=>V9 y.1)
def Nzt_ok:c8 Nzt:=Nzb_ok.kL Tryz.call190 Tryz.func190 (inlHN_ok Nzb_ok H0_ok d1Q 2) (an:=d1Q 190) (fun y ho=>(a9M ho.1)) fun y ho=>kc (pzt y.1 ho.1) (by kernel_rfl)
def d1e:Nat->D3:=fun|170=>⟨80,fun|4=>some ⟨[1,2,3,18,19],[.slot 8 (.int .i64),.slot 9 (.int .i64),.slot 10 .bool,.slot 11 (.int .i64),.slot 20 (.int .i64)]⟩|_=>none,nn⟩|_=>⟨0,nn,nn⟩
def a73(z:V7)(x_4:Int)(t:Int):=onS (etO (ix z.E2 x_4)) (t+0)
def Vzd(z:V7)(t:Int)(Q:Int->o6->Prop):Prop:=
∃(I:Int->Int->Bool->Int->Int->Prop),∃(m:Int->Int->Bool->Int->Int->Nat),I 0 0 false 0 0/\∀(x x_1:Int)(x_2:Bool)(x_3 x_4:Int),I x x_1 x_2 x_3 x_4->(bR (x_4<(↑z.E2.length:Int)) (0<=x_4/\x_4<(↑z.E2.length:Int)/\c6 (t+0)/\((ix z.E2 x_4).b9=[]∨F9 (ix (ix z.E2 x_4).b9 0)=true)/\(bR ((a73 z x_4 t).snd.snd≠o6.nil) (asB (a73 z x_4 t).snd.snd=true/\Q 0 (V9 (a73 z x_4 t).snd.snd)) (c6 ((a73 z x_4 t).fst-0)/\(bR ((a73 z x_4 t).snd.fst=true/\(¬x_2=true∨x<=(a73 z x_4 t).fst-0)) ((0<=x_3/\x_3<(↑z.E2.length:Int))/\(bR (b8 (j7 (ix z.E2 x_4).Start)<b8 (j7 (ix z.E2 x_3).Start)) (c6 (x_4+1)/\I ((a73 z x_4 t).fst-0) (ix z.E2 x_4).To true x_4 (x_4+1)/\m ((a73 z x_4 t).fst-0) (ix z.E2 x_4).To true x_4 (x_4+1)<m x x_1 x_2 x_3 x_4) (c6 (x_4+1)/\I ((a73 z x_4 t).fst-0) (ix z.E2 x_4).To true x_3 (x_4+1)/\m ((a73 z x_4 t).fst-0) (ix z.E2 x_4).To true x_3 (x_4+1)<m x x_1 x_2 x_3 x_4))) ((0<=x_3/\x_3<(↑z.E2.length:Int))/\(bR (b8 (j7 (ix z.E2 x_4).Start)<b8 (j7 (ix z.E2 x_3).Start)) (c6 (x_4+1)/\I x x_1 (decide (x_2=true)) x_4 (x_4+1)/\m x x_1 (decide (x_2=true)) x_4 (x_4+1)<m x x_1 x_2 x_3 x_4) (c6 (x_4+1)/\I x x_1 (decide (x_2=true)) x_3 (x_4+1)/\m x x_1 (decide (x_2=true)) x_3 (x_4+1)<m x x_1 x_2 x_3 x_4))))))) ((bR (¬x_2=true) (0<=x_3/\x_3<(↑z.E2.length:Int)/\Q (ix z.E2 x_3).a8P o6.nil) (Q x_1 o6.nil))))
def b6E(l:List Obv)(t:Int):∀n e,fzE l t n=some e->∃k,e=.no k
 |0,e,h=>by cases h
 |n+1,e,h=>by
  unfold fzE at h;cases hp:fzE l t n with
  |some e' =>
   rw[hp]at h;cases h;exact b6E l t n e hp
  |none =>
   rw[hp]at h;dsimp only at h;split at h
   . cases h
   . rename_i hn;cases h;rcases b0j (ix l n) t with h1|⟨k,h1⟩
     . exact absurd h1 hn
     . exact⟨k,by rw[h1];rfl⟩
def a9s(z:V7)(t:Int):(V5 z t).2=.nil∨∃n,(V5 z t).2=.no n:=by
 unfold V5;split
 . rename_i e he;obtain⟨k,rfl⟩:=b6E _ _ _ _ he;exact .inr ⟨k,rfl⟩
 . split <;> exact .inl rfl
def b1Y{l:List Obv}{t:Int}{n:Nat}{e:o6}(h:fzE l t n=some e):∀k,fzE l t (n+k)=some e
 |0=>h
 |k+1=>by
  show fzE l t (n+k+1)=_
  unfold fzE;rw[b1Y h k]
def a8m(l:List Obv)(t:Int):∀n:Nat,0<=(fz l t n).early/\((fz l t n).early<n∨(fz l t n).early=0)
 |0=>⟨d5o _,.inr rfl⟩
 |n+1=>by
  have ih:=a8m l t n;unfold fz fzN;dsimp only
  (repeat' split) <;> dsimp only <;> omega
def y7(t:Tm):-1<=b8 t/\b8 t<315537897600:=by
 unfold b8;split
 . rename_i h;have:=a2h h;omega
 . omega
def d0f(o:Obv)(t:Int):-1<=(onS o t).1/\(onS o t).1<315537897600:=by
 unfold onS;split
 . dsimp only;omega
 split
 . exact y7 _
 . exact y7 _
def c0w{e:o6}(h:e=.nil∨∃n,e=.no n):asB e=true:=by rcases h with rfl|⟨n,rfl⟩ <;> rfl
def pzd(z:V7)(t:Int)(hf:X9 z)(h0:z.E2≠[])(t0:-4000000000000000000<=t)(t1:t<=4000000000000000000):Vzd z t (fun y0 y1=>y0=(V5 z t).1/\y1=(V5 z t).2):=by
 unfold Vzd a73;simp only[y8,A9,B5,C7,C6,C8,D0,C5,C3,D2,B9,d4Z];have hl:z.E2.length≠0:=fun e=>h0 (List.length_eq_zero_iff.1 e);have hl2:=hf.1;refine⟨fun a b c d i=>0<=i/\i<=z.E2.length/\fzE z.E2 t i.toNat=none/\fz z.E2 t i.toNat=⟨a,b,c,d⟩,fun _ _ _ _ i=>((z.E2.length:Int)-i).toNat,⟨by omega,by omega,rfl,rfl⟩,?_⟩;rintro a b c d i ⟨i0,i1,he,hz⟩;have er:=a8m z.E2 t i.toNat;rw[hz]at er;dsimp only at er;refine⟨fun hi=>?_,fun hi=>?_⟩
 . have hr:=hf.2.2 _ (w5 i0 hi);have hb:=b0j (ix z.E2 i) t;have en:(i+1).toNat=i.toNat+1:=by omega
   have ei:((i.toNat:Nat):Int)=i:=by omega
   have nE:fzE z.E2 t (i+1).toNat=if(onS (ix z.E2 i) t).2.2=.nil then none else some (V9 (onS (ix z.E2 i) t).2.2):=by rw[en,fzE,he];dsimp only;rw[ei]
   have nZ:fz z.E2 t (i+1).toNat=fzN z.E2 t ⟨a,b,c,d⟩ i:=by rw[en,fz,hz,ei]
   unfold fzN at nZ;dsimp only at nZ;simp only[Int.add_zero,d8T];generalize hon:onS (ix z.E2 i) t=r at *;refine⟨i0,hi,⟨by omega,by omega⟩,?_,fun hn=>⟨c0w hb,?_⟩,fun hn=>?_⟩
   . by_cases e:(ix z.E2 i).b9=[]
     . exact .inl e
     . exact .inr (hr (by have:=d7H.2 e;omega))
   . rw[if_neg hn]at nE;have:=b1Y nE (z.E2.length-(i+1).toNat);rw[show(i+1).toNat+(z.E2.length-(i+1).toNat)=z.E2.length by omega]at this;unfold V5;rw[this];exact⟨rfl,rfl⟩
   . have hn:=d4S.1 hn;rw[if_pos hn]at nE;have rg:=d0f (ix z.E2 i) t;rw[hon]at rg;have hcd:(r.2.1=true/\(¬c=true∨a<=r.1))↔(r.2.1=true/\(c=false∨a<=r.1)):=by rw[<- d5E]
     refine⟨⟨by omega,by omega⟩,fun hc=>?_,fun hc=>?_⟩
     . rw[if_pos (hcd.1 hc)]at nZ;refine⟨⟨er.1,by omega⟩,fun hs=>?_,fun hs=>?_⟩
       . rw[if_pos hs]at nZ;exact⟨⟨by omega,by omega⟩,⟨by omega,by omega,nE,nZ⟩,by omega⟩
       . rw[if_neg hs]at nZ;exact⟨⟨by omega,by omega⟩,⟨by omega,by omega,nE,nZ⟩,by omega⟩
     . rw[if_neg (fun h=>hc (hcd.2 h))]at nZ;refine⟨⟨er.1,by omega⟩,fun hs=>?_,fun hs=>?_⟩
       . rw[if_pos hs]at nZ;exact⟨⟨by omega,by omega⟩,⟨by omega,by omega,nE,nZ⟩,by omega⟩
       . rw[if_neg hs]at nZ;exact⟨⟨by omega,by omega⟩,⟨by omega,by omega,nE,nZ⟩,by omega⟩
 . have e:i.toNat=z.E2.length:=by omega
   rw[e]at he hz;unfold V5;rw[he,hz];dsimp only;refine⟨fun hc=>⟨er.1,by omega,by rw[if_neg hc];exact⟨rfl,rfl⟩⟩,fun hc=>by rw[if_pos (d4S.1 hc)];exact⟨rfl,rfl⟩⟩
def d4b(z:V7)(t:Int):Q1 U:=⟨[X9 z,(z.E2:List Obv)≠[],-4000000000000000000<=t,t<=4000000000000000000],[],.F5 [.int .i64 ((V5 z t).1),.err ((V5 z t).2)]⟩
def czd(a:List (SV U)):Option (Q1 U):=match a with|[.agg l_z,.int .i64 t,.fn 171]=>(y92.bk (.agg l_z)).bind fun z=>some (d4b z t)|_=>none
def Nzd:Env:=Nzt.B3 170 czd
def Nzd_ok:c8 Nzd:=Nzt_ok.B3 Tryz.call170 fun(args:List (SV U)) (q:Q1 U) (h:czd args=some q) ho=>by
 unfold czd at h;split at h
 . rename_i l_z t;obtain⟨z,hb_z,h⟩:=d5j.1 h;cases h;refine A4.conv (E:=Nzt) (args':=[.agg [.str z.ID,.sl 101 z.E2],.int .i64 t,.fn 171]) (c4C (an:=d1e 170) Nzt_ok (inlHN_ok Nzt_ok H0_ok d1e 2) Tryz.func170 (k1:=.int .i64) (k2:=.err) trivial (a9s _ _) (kc (pzd z t ho.1 ho.2.1 ho.2.2.1 ho.2.2.2.1) (by kernel_rfl)) 0) fun D w vs hr=>O3 [.agg l_z,.int .i64 t,.fn 171] [.agg [.str z.ID,.sl (N:=U) 101 z.E2],.int .i64 t,.fn 171] _ ⟨fun _ h=>b3W hb_z h,fun _ h=>h,fun _ h=>h,trivial⟩ hr
 . cases h
def d0v:Nat->D3:=fun|133=>⟨25,nn,nn⟩|_=>⟨0,nn,nn⟩
def Vzf(z:V7)(t:Tm)(Q:Int->o6->Prop):Prop:=
X9 (etZ z)/\(bR ((¬bo (a4M (etZ z))=true∨¬p9 (j7 t)=true)∨t.UTC=true) (Q 0 (o6.no 2)) ((X9 (etZ z)/\z.E2≠[]/\(-4000000000000000000:Int)<=b8 (j7 t)/\b8 (j7 t)<=4000000000000000000)/\Q (V5 (etZ z) (b8 (j7 t))).fst (V5 (etZ z) (b8 (j7 t))).snd))
def b3e(z:V7)(t:Tm):(V3 z t).2=.nil∨∃n,(V3 z t).2=.no n:=by
 unfold V3;split
 . exact a9s _ _
 . exact .inr ⟨2,rfl⟩
def pzf(z:V7)(t:Tm)(hf:X9 z):Vzf z t (fun y0 y1=>y0=(V3 z t).1/\y1=(V3 z t).2):=by
 unfold Vzf;simp only[y8,A9,B5,C7,C6,C8,D0,C5,C3,D2,B9,d4Z];refine⟨hf,fun h=>?_,fun h=>?_⟩
 . unfold V3;rw[if_neg]
   . exact⟨rfl,rfl⟩
   . rintro⟨a,b,c⟩;rcases h with(h|h)|h
     . exact h (z8.2 a)
     . exact h b
     . rw[c]at h;cases h
 . have a:a4M z:=z8.1 (d4S.1 fun e=>h (.inl (.inl e)));have b:p9 t=true:=d4S.1 fun e=>h (.inl (.inr e));have c:t.UTC=false:=d5E _ ▸ fun e=>h (.inr e);have rg:=y7 t;unfold V3;rw[if_pos ⟨a,b,c⟩];exact⟨⟨hf,fun e=>a.2.2.2.1 (by rw[e];rfl),by omega,by omega⟩,rfl,rfl⟩
def Nzf:Env:=Nzd.kM 133 (r92.c (r26.c .n)) (.int .i64) (.err) (fun y=>[X9 y.1]) (fun y=>((V3 y.1 y.2.1).1:Int)) (fun y=>((V3 y.1 y.2.1).2:o6))
def Nzf_ok:c8 Nzf:=Nzd_ok.kM Tryz.call133 Tryz.func133 (inlHN_ok Nzd_ok H0_ok d0v 2) (an:=d0v 133) (fun _ _=>trivial) (fun y ho=>(b3e _ _)) fun y ho=>kc (pzf y.1 y.2.1 ho.1) (by kernel_rfl)
def d0M:Nat->D3:=fun|134=>⟨23,nn,nn⟩|_=>⟨0,nn,nn⟩
def Vzm(t:Tm)(n:Int)(u:Bool)(Q:Tm->o6->Prop):Prop:=
c6 (b8 (j7 t)+n)/\b8 (j7 t)+n<=9000000000000000000/\(bR ((L4 (b8 (j7 t)+n) (Tm.mk (Dy.mk 0 0 0) 0 0 0 false (decide (u=true)))).Day.Year=0) (Q (Tm.mk (Dy.mk 0 0 0) 0 0 0 false false) (o6.no 3)) (Q (j7 (L4 (b8 (j7 t)+n) (Tm.mk (Dy.mk 0 0 0) 0 0 0 false (decide (u=true))))) o6.nil))
def b1S(t:Tm)(n:Int)(u:Bool):(a5e t n u).2=.nil∨∃k,(a5e t n u).2=.no k:=by
 unfold a5e;split
 . exact .inr ⟨3,rfl⟩
 . exact .inl rfl
def pzm(t:Tm)(n:Int)(u:Bool)(n0:-1000000000<=n)(n1:n<=1000000000):Vzm t n u (fun y0 y1=>y0=(a5e t n u).1/\y1=(a5e t n u).2):=by
 unfold Vzm;simp only[y8,A9,B5,C7,C6,C8,D0,C5,C3,D2,B9,d4Z];have rg:=y7 t;refine⟨⟨by omega,by omega⟩,by omega,fun h=>?_,fun h=>?_⟩
 . unfold a5e;rw[if_pos h];exact⟨rfl,rfl⟩
 . unfold a5e;rw[if_neg h];exact⟨rfl,rfl⟩
def Nzm:Env:=Nzf.kM 134 (r26.c (rI.c (rbo.c .n))) (.val 26) (.err) (fun y=>[-1000000000<=y.2.1,y.2.1<=1000000000]) (fun y=>((a5e y.1 y.2.1 y.2.2.1).1:Tm)) (fun y=>((a5e y.1 y.2.1 y.2.2.1).2:o6))
def Nzm_ok:c8 Nzm:=Nzf_ok.kM Tryz.call134 Tryz.func134 (inlHN_ok Nzf_ok H0_ok d0M 2) (an:=d0M 134) (fun y ho=>⟨_,_,rfl,rfl,rfl⟩) (fun y ho=>(b1S _ _ _)) fun y ho=>kc (pzm y.1 y.2.1 y.2.2.1 ho.1 ho.2.1) (by kernel_rfl)
def c9h:Nat->D3:=fun|89=>⟨35,nn,nn⟩|_=>⟨0,nn,nn⟩
def Vzu(z:V7)(t:Tm)(Q:Tm->o6->Prop):Prop:=
X9 (etZ z)/\(bR ((bo (a4M (etZ z))=true/\p9 (j7 t)=true)/\t.UTC=true) (Q (j7 t) o6.nil) (X9 (etZ z)/\(bR ((V3 (etZ z) (j7 t)).snd≠o6.nil) (Q (Tm.mk (Dy.mk 0 0 0) 0 0 0 false false) (V3 (etZ z) (j7 t)).snd) (c6 ((0:Int)-(V3 (etZ z) (j7 t)).fst)/\(-1000000000:Int)<=(0:Int)-(V3 (etZ z) (j7 t)).fst/\(0:Int)-(V3 (etZ z) (j7 t)).fst<=1000000000/\Q (j7 (a5e (j7 t) ((0:Int)-(V3 (etZ z) (j7 t)).fst) true).fst) (a5e (j7 t) ((0:Int)-(V3 (etZ z) (j7 t)).fst) true).snd))))
def c1L{l:List Obv}(h:s6 l.length fun j=>c1M (ix l j))(t:Int):∀n:Nat,n<=l.length->-86400<=(fz l t n).out/\(fz l t n).out<=86400
 |0,_=>by show(-86400:Int)<=0/\(0:Int)<=86400;omega
 |n+1,hn=>by
  have ih:=c1L h t n (by omega);have o:=(h n (by omega) (by omega)).2.2.2.1;unfold c0u at o;have o:=d5Q o;unfold fz fzN;dsimp only
  (repeat' split) <;> dsimp only <;> omega
def b4f(z:V7)(t:Tm):-86400<=(V3 z t).1/\(V3 z t).1<=86400:=by
 unfold V3;split
 . rename_i h;have hz:=h.1.2.2.2.2.2;unfold V5;split
   . dsimp only;omega
   split
   . exact c1L hz _ _ (d5m _)
   . have e:=a8m z.E2 (b8 t) z.E2.length;have p:=h.1.2.2.2.1;have o:=(hz (fz z.E2 (b8 t) z.E2.length).early e.1 (by omega)).2.2.1;unfold c0u at o;have o:=d5Q o;dsimp only;omega
 . dsimp only;omega
def b1i(z:V7)(t:Tm):(X0 z t).2=.nil∨∃n,(X0 z t).2=.no n:=by
 unfold X0;split
 . exact .inl rfl
 split
 . exact b1S _ _ _
 . exact b3e _ _
def pzu(z:V7)(t:Tm)(hf:X9 z):Vzu z t (fun y0 y1=>y0=(X0 z t).1/\y1=(X0 z t).2):=by
 unfold Vzu;simp only[y8,A9,B5,C7,C6,C8,D0,C5,C3,D2,B9,d4Z];have rg:=b4f z t;refine⟨hf,fun h=>?_,fun h=>⟨hf,fun he=>?_,fun he=>?_⟩⟩
 . unfold X0;rw[if_pos ⟨z8.1 h.1.1,h.1.2,h.2⟩];exact⟨rfl,rfl⟩
 . unfold X0;rw[if_neg (fun e=>h ⟨⟨z8.2 e.1,e.2.1⟩,e.2.2⟩),if_neg he];exact⟨rfl,rfl⟩
 . refine⟨⟨by omega,by omega⟩,by omega,by omega,?_⟩;unfold X0;rw[if_neg (fun e=>h ⟨⟨z8.2 e.1,e.2.1⟩,e.2.2⟩),if_pos (d4S.1 he),Int.zero_sub];exact⟨rfl,rfl⟩
def Nzu:Env:=Nzm.kM 89 (r92.c (r26.c .n)) (.val 26) (.err) (fun y=>[X9 y.1]) (fun y=>((X0 y.1 y.2.1).1:Tm)) (fun y=>((X0 y.1 y.2.1).2:o6))
def Nzu_ok:c8 Nzu:=Nzm_ok.kM Tryz.call89 Tryz.func89 (inlHN_ok Nzm_ok H0_ok c9h 2) (an:=c9h 89) (fun y ho=>⟨_,_,rfl,rfl,rfl⟩) (fun y ho=>(b1i _ _)) fun y ho=>kc (pzu y.1 y.2.1 ho.1) (by kernel_rfl)
def d0Z:Nat->D3:=fun|78=>⟨13,nn,nn⟩|_=>⟨0,nn,nn⟩
def Vrw(p:K8)(Q:z6->Prop):Prop:=
A0 (etP p)/\(bR ((a0z (etP p)).snd≠o6.nil) (Q []) (Q (a0z (etP p)).fst))
def prw(p:K8)(hp:A0 p):Vrw p (fun y0=>y0=I0 p):=by unfold Vrw;simp only[y8,A9,B5,C7,C6,C8,D0,C5,C3,D2,B9,d4Z];unfold I0;exact⟨hp,fun h=>by rw[if_neg h],fun h=>by rw[if_pos (d4S.1 h)]⟩
def Nrw:Env:=Nzu.kL 78 (r86.c .n) (.str) (fun y=>[A0 y.1]) (fun y=>I0 y.1)
def Nrw_ok:c8 Nrw:=Nzu_ok.kL Tryz.call78 Tryz.func78 (inlHN_ok Nzu_ok H0_ok d0Z 2) (an:=d0Z 78) (fun _ _=>trivial) fun y ho=>kc (prw y.1 ho.1) (by kernel_rfl)
def d04:Nat->D3:=fun|42=>⟨28,nn,nn⟩|_=>⟨0,nn,nn⟩
def Vfo(a:E6)(b:E6)(Q:Bool->Prop):Prop:=
Q (decide (((a.Time.o7=true↔b.Time.o7=true)/\(a.Time.UTC=true↔b.Time.UTC=true))/\a.D9=b.D9))
def pfo(a:E6)(b:E6)  : Vfo a b (fun y0=>y0=P5 a b):=by
 unfold Vfo;show _=decide _
 exact d5N.2 (by simp[and_assoc])
def Nfo:Env:=Nrw.kL 42 (r28.c (r28.c .n)) (.bool) (fun _=>[]) (fun y=>P5 y.1 y.2.1)
def Nfo_ok:c8 Nfo:=Nrw_ok.kL Tryz.call42 Tryz.func42 (inlHN_ok Nrw_ok H0_ok d04 2) (an:=d04 42) (fun _ _=>trivial) fun y ho=>kc (pfo y.1 y.2.1 ) (by kernel_rfl)
def d1O:Nat->D3:=fun|83=>⟨14,nn,nn⟩|_=>⟨0,nn,nn⟩
def Vkn(s:z6)(Q:Bool->Prop):Prop:=
(bR (s=([85,73,68]:List UInt8)) ((bR (s=([85,73,68]:List UInt8)) (Q true) (Q false))) ((bR (s=([82,69,67,85,82,82,69,78,67,69,45,73,68]:List UInt8)) ((bR (s=([82,69,67,85,82,82,69,78,67,69,45,73,68]:List UInt8)) (Q true) (Q false))) ((bR (s=([68,84,83,84,65,82,84]:List UInt8)) ((bR (s=([68,84,83,84,65,82,84]:List UInt8)) (Q true) (Q false))) ((bR (s=([68,84,69,78,68]:List UInt8)) ((bR (s=([68,84,69,78,68]:List UInt8)) (Q true) (Q false))) ((bR (s=([68,85,69]:List UInt8)) ((bR (s=([68,85,69]:List UInt8)) (Q true) (Q false))) ((bR (s=([68,85,82,65,84,73,79,78]:List UInt8)) ((bR (s=([68,85,82,65,84,73,79,78]:List UInt8)) (Q true) (Q false))) ((bR (s=([82,82,85,76,69]:List UInt8)) ((bR (s=([82,82,85,76,69]:List UInt8)) (Q true) (Q false))) ((bR (s=([82,68,65,84,69]:List UInt8)) ((bR (s=([82,68,65,84,69]:List UInt8)) (Q true) (Q false))) ((bR (s=([69,88,68,65,84,69]:List UInt8)) (Q true) (Q false))))))))))))))))))
def pkn(s:z6)  : Vkn s (fun y0=>y0=a2e s):=by
 unfold Vkn;unfold a2e;refine⟨fun h=>⟨fun _=>?_,fun h'=>absurd h h'⟩,fun h1=>⟨fun h=>⟨fun _=>?_,fun h'=>absurd h h'⟩,fun h2=>⟨fun h=>⟨fun _=>?_,fun h'=>absurd h h'⟩,fun h3=>⟨fun h=>⟨fun _=>?_,fun h'=>absurd h h'⟩,fun h4=>⟨fun h=>⟨fun _=>?_,fun h'=>absurd h h'⟩,fun h5=>⟨fun h=>⟨fun _=>?_,fun h'=>absurd h h'⟩,fun h6=>⟨fun h=>⟨fun _=>?_,fun h'=>absurd h h'⟩,fun h7=>⟨fun h=>⟨fun _=>?_,fun h'=>absurd h h'⟩,fun h8=>⟨fun h=>?_,fun h9=>?_⟩⟩⟩⟩⟩⟩⟩⟩⟩
 all_goals show _=decide _
 all_goals symm
 all_goals first|exact d5q (by rintro(h|h|h|h|h|h|h|h|h) <;> contradiction)|exact d5e (by subst h;simp)
def Nkn:Env:=Nfo.kL 83 (rS.c .n) (.bool) (fun _=>[]) (fun y=>a2e y.1)
def Nkn_ok:c8 Nkn:=Nfo_ok.kL Tryz.call83 Tryz.func83 (inlHN_ok Nfo_ok H0_ok d1O 2) (an:=d1O 83) (fun _ _=>trivial) fun y ho=>kc (pkn y.1 ) (by kernel_rfl)
def d1B:Env:=Nkn.z7 40 Tryz.f40
def NI40_ok:c8 d1B:=Nkn_ok.z7 Tryz.call40 Tryz.func40
def d0m:Env:=d1B.z7 88 Tryz.f88
def NI88_ok:c8 d0m:=NI40_ok.z7 Tryz.call88 Tryz.func88
def c4H:Env:=d0m.z7 128 Tryz.f128
def NI128_ok:c8 c4H:=NI88_ok.z7 Tryz.call128 Tryz.func128
def d1D:Nat->D3:=fun|79=>⟨29,nn,nn⟩|40=>⟨9,nn,nn⟩|88=>⟨19,fun|2=>some ⟨[0,1,7],[.slot 8 (.int .i64)]⟩|_=>none,nn⟩|128=>⟨9,nn,nn⟩|_=>⟨0,nn,nn⟩
def Vmo(o:F3)(m:E6)(Q:Bool->Prop):Prop:=
(bR (¬p9 (j7 m.Time)=true) (Q false) ((bR (m.D9=[]) (Q true) ((bR (¬m.Time.o7=true/\¬m.Time.UTC=true) (∃(I:Int->Prop),∃(m_1:Int->Nat),I 0/\∀(x:Int),I x->(bR (x<(↑o.c9.length:Int)) (0<=x/\x<(↑o.c9.length:Int)/\(bR ((ix o.c9 x).ID=m.D9) (Q (decide (0<=x))) (c6 (x+1)/\I (x+1)/\m_1 (x+1)<m_1 x))) (Q (decide ((0:Int)<=(-1:Int)))))) (Q false))))))
def pmo(o:F3)(m:E6)(hz:o.c9.length<=1000):Vmo o m (fun y0=>y0=bo (S0 o.c9 m)):=by
 unfold Vmo;simp only[y8,A9,B5,C7,C6,C8,D0,C5,C3,D2,B9,d4Z];refine⟨fun h=>G6 fun e=>h e.1,fun h=>?_⟩;have h:=d4S.1 h;refine⟨fun e=>a1p ⟨h,fun n=>absurd e n⟩,fun e=>⟨fun hh=>?_,fun hh=>G6 fun p=>hh ⟨by rw[(p.2 e).1];exact d5R,by rw[(p.2 e).2.1];exact d5R⟩⟩⟩;refine⟨fun x=>0<=x/\x<=o.c9.length/\s6 x fun j=>(ix o.c9 j).ID≠m.D9,fun x=>((o.c9.length:Int)-x).toNat,⟨by omega,by omega,s6.zero⟩,?_⟩;rintro x ⟨x0,x1,hx⟩;refine⟨fun hi=>⟨x0,hi,fun hd=>?_,fun hd=>⟨⟨by omega,by omega⟩,⟨by omega,by omega,hx.succ hd⟩,by dsimp only;omega⟩⟩,fun hi=>?_⟩
 . rw[d5e x0];exact a1p ⟨h,fun _=>⟨d5E _ ▸ hh.1,d5E _ ▸ hh.2,x,x0,hi,hd⟩⟩
 . exact G6 fun p=>by obtain⟨j,j0,j1,hj⟩:=(p.2 e).2.2;exact hx j j0 (by omega) hj
def Nmo:Env:=c4H.kL 79 (r38.c (r28.c .n)) (.bool) (fun y=>[y.1.c9.length<=1000]) (fun y=>bo (S0 y.1.c9 y.2.1))
def Nmo_ok:c8 Nmo:=NI128_ok.kL Tryz.call79 Tryz.func79 (inlHN_ok NI128_ok H0_ok d1D 4) (an:=d1D 79) (fun _ _=>trivial) fun y ho=>kc (pmo y.1 y.2.1 ho.1) (by kernel_rfl)
end Go.Proofs.YtapnoejokajcoaaGreatDoor
section
namespace Go.Proofs.YtapnoejokajcoaaGreatDoor
open Go Go.Wk Go.Wl Go.Rx Go.Re Go.Li Go.Qu Go.Fo 
def b0F(l:List K8)(no:z6->Bool)(j:Int):Prop:=I0 (ix l j)≠[]/\((I0 (ix l j)).length:Int)<=5000/\(ix l j).Name≠bgN/\(ix l j).Name≠enN/\no (ix l j).Name=false/\(0<j->(Op.bytesLess (I0 (ix l (j-1))) (I0 (ix l j))=true∨I0 (ix l (j-1))=I0 (ix l j)))
attribute [local irreducible] j4
def c95:Nat->D3:=fun|130=>⟨9,nn,nn⟩|_=>⟨0,nn,nn⟩
def Vaq(s:z6)(Q:Bool->Prop):Prop:=
Q (decide (s=([65,67,84,73,79,78]:List UInt8)∨s=([84,82,73,71,71,69,82]:List UInt8)))
def paq(s:z6)  : Vaq s (fun y0=>y0=a1V s):=by
 unfold Vaq;unfold a1V
 first|rfl|exact d5N.2 d7A
def Naq:Env:=Nmo.kL 130 (rS.c .n) (.bool) (fun _=>[]) (fun y=>a1V y.1)
def Naq_ok:c8 Naq:=Nmo_ok.kL Tryz.call130 Tryz.func130 (inlHN_ok Nmo_ok H0_ok c95 2) (an:=c95 130) (fun _ _=>trivial) fun y ho=>kc (paq y.1 ) (by kernel_rfl)
end Go.Proofs.YtapnoejokajcoaaGreatDoor
end
namespace Go.Proofs.YtapnoejokajcoaaGreatDoor
open Go Go.Wk Go.Wl Go.Rx Go.Re Go.Li Go.Qu Go.Fo 
attribute [local irreducible] j4
def d0I:Nat->D3:=fun|37=>⟨5,nn,nn⟩|_=>⟨0,nn,nn⟩
def Vrq(s:z6)(Q:Bool->Prop):Prop:=
Q (decide (s=([86,69,82,83,73,79,78]:List UInt8)))
def prq(s:z6)  : Vrq s (fun y0=>y0=a18 s):=by
 unfold Vrq;unfold a18
 first|rfl|exact d5N.2 d7A
def Nrq:Env:=Naq.kL 37 (rS.c .n) (.bool) (fun _=>[]) (fun y=>a18 y.1)
def Nrq_ok:c8 Nrq:=Naq_ok.kL Tryz.call37 Tryz.func37 (inlHN_ok Naq_ok H0_ok d0I 2) (an:=d0I 37) (fun _ _=>trivial) fun y ho=>kc (prq y.1 ) (by kernel_rfl)
def c5F:Nat->D3:=fun|36=>⟨59,fun|2=>some ⟨[0,1,8,9],[.slot 10 (.int .i64)]⟩|_=>none,nn⟩|_=>⟨0,nn,nn⟩
def a8n  := ([66,69,71,73,78]:List UInt8)
def a7C(l:List K8)(x:Int):=List.length (I0 (etP (ix l x)))
def a8p  := ([69,78,68]:List UInt8)
def d2z(l:List K8)(Q:Bool->Prop):Prop:=
∃(I:Int->Prop),∃(m:Int->Nat),I 0/\∀(x:Int),I x->(bR (x<(↑l.length:Int)) (0<=x/\x<(↑l.length:Int)/\A0 (etP (ix l x))/\(¬((((I0 (etP (ix l x))=[]∨5000<(↑(a7C l x):Int))∨(ix l x).Name=a8n)∨(ix l x).Name=a8p)∨a2e (ix l x).Name=true)/\0<x->c6 (x-1))/\((¬((((I0 (etP (ix l x))=[]∨5000<(↑(a7C l x):Int))∨(ix l x).Name=a8n)∨(ix l x).Name=a8p)∨a2e (ix l x).Name=true)/\0<x->0<=x-1)/\(¬((((I0 (etP (ix l x))=[]∨5000<(↑(a7C l x):Int))∨(ix l x).Name=a8n)∨(ix l x).Name=a8p)∨a2e (ix l x).Name=true)/\0<x->x-1<(↑l.length:Int)))/\(¬((((I0 (etP (ix l x))=[]∨5000<(↑(a7C l x):Int))∨(ix l x).Name=a8n)∨(ix l x).Name=a8p)∨a2e (ix l x).Name=true)/\0<x->A0 (etP (ix l (x-1))))/\(¬((((I0 (etP (ix l x))=[]∨5000<(↑(a7C l x):Int))∨(ix l x).Name=a8n)∨(ix l x).Name=a8p)∨a2e (ix l x).Name=true)/\0<x->A0 (etP (ix l x)))/\(bR (((((I0 (etP (ix l x))=[]∨5000<(↑(a7C l x):Int))∨(ix l x).Name=a8n)∨(ix l x).Name=a8p)∨a2e (ix l x).Name=true)∨0<x/\¬(Op.bytesLess (I0 (etP (ix l (x-1)))) (I0 (etP (ix l x)))=true∨I0 (etP (ix l (x-1)))=I0 (etP (ix l x)))) (Q false) (c6 (x+1)/\I (x+1)/\m (x+1)<m x))) (Q (decide ((↑l.length:Int)<=100))))
def d4e(l:List K8)(hp:∀p∈l,A0 p)(hl:(l.length:Int)<=1000000):d2z l (fun y0=>y0=bo (a1J l a2e)):=by
 unfold d2z a8p a7C a8n;simp only[y8,A9,B5,C7,C6,C8,D0,C5,C3,D2,B9,d4Z];refine⟨fun x=>0<=x/\x<=l.length/\s6 x (b0F l a2e),fun x=>((l.length:Int)-x).toNat,⟨by omega,by omega,s6.zero⟩,?_⟩;rintro x ⟨x0,x1,hx⟩;refine⟨fun hi=>?_,fun hi=>?_⟩
 . have sp:=hp _ (w5 x0 hi);refine⟨x0,hi,sp,fun h=>⟨by omega,by omega⟩,⟨fun h=>by omega,fun h=>by omega⟩,fun h=>hp _ (w5 (by omega) (by omega)),fun _=>sp,fun h=>G6 fun e=>?_,fun h=>?_⟩
   . obtain⟨a,b,c,d,n,g⟩:b0F l a2e x:=e.1 x x0 hi;rcases h with((((h|h)|h)|h)|h)|h
     . exact a h
     . omega
     . exact c h
     . exact d h
     . rw[h]at n;cases n
     . exact h.2 (g h.1)
   . have:b0F l a2e x:=⟨fun e=>h (.inl (.inl (.inl (.inl (.inl e))))),d5K.1 fun e=>h (.inl (.inl (.inl (.inl (.inr e))))),fun e=>h (.inl (.inl (.inl (.inr e)))),fun e=>h (.inl (.inl (.inr e))),d5E _ ▸ fun e=>h (.inl (.inr e)),fun p=>d4S.1 fun e=>h (.inr ⟨p,e⟩)⟩;exact⟨⟨by omega,by omega⟩,⟨by omega,by omega,hx.succ this⟩,by dsimp only;omega⟩
 . refine a1o ⟨fun e=>⟨fun j j0 j1=>hx j j0 (by omega),e⟩,fun e=>e.2⟩
def b8b(a:List (SV U)):Option (Q1 U):=match a with|[.sl 86 l,.fn 83]=>some ⟨[∀p∈l,A0 p,(l.length:Int)<=1000000],[],I4 (bo (a1J l a2e))⟩|_=>none
def ceu1_ok(args:List (SV U))(q:Q1 U)(h:b8b args=some q)(ho:q9 q.ob):A4 Nrq 36 args ⟨q.ob,q.hy,q.v,[]⟩:=by
 unfold b8b at h;split at h
 . rename_i l;cases h;exact I1 (an:=c5F 36) Nrq_ok (inlHN_ok Nrq_ok H0_ok c5F 4) Tryz.func36 (k:=.bool) (x:=bo (a1J l a2e)) trivial (kc (d4e l ho.1 ho.2.1) (by kernel_rfl)) 0
 . cases h
def b7Y:Env:=Nrq.B3 36 b8b
def Neu1_ok:c8 b7Y:=Nrq_ok.B3 Tryz.call36 ceu1_ok
def c5Y:Nat->D3:=fun|36=>⟨59,fun|2=>some ⟨[0,1,8,9],[.slot 10 (.int .i64)]⟩|_=>none,nn⟩|_=>⟨0,nn,nn⟩
def a6C  := ([66,69,71,73,78]:List UInt8)
def a6I(l:List K8)(x:Int):=List.length (I0 (etP (ix l x)))
def a7J  := ([69,78,68]:List UInt8)
def c9j(l:List K8)(Q:Bool->Prop):Prop:=
∃(I:Int->Prop),∃(m:Int->Nat),I 0/\∀(x:Int),I x->(bR (x<(↑l.length:Int)) (0<=x/\x<(↑l.length:Int)/\A0 (etP (ix l x))/\(¬((((I0 (etP (ix l x))=[]∨5000<(↑(a6I l x):Int))∨(ix l x).Name=a6C)∨(ix l x).Name=a7J)∨a1V (ix l x).Name=true)/\0<x->c6 (x-1))/\((¬((((I0 (etP (ix l x))=[]∨5000<(↑(a6I l x):Int))∨(ix l x).Name=a6C)∨(ix l x).Name=a7J)∨a1V (ix l x).Name=true)/\0<x->0<=x-1)/\(¬((((I0 (etP (ix l x))=[]∨5000<(↑(a6I l x):Int))∨(ix l x).Name=a6C)∨(ix l x).Name=a7J)∨a1V (ix l x).Name=true)/\0<x->x-1<(↑l.length:Int)))/\(¬((((I0 (etP (ix l x))=[]∨5000<(↑(a6I l x):Int))∨(ix l x).Name=a6C)∨(ix l x).Name=a7J)∨a1V (ix l x).Name=true)/\0<x->A0 (etP (ix l (x-1))))/\(¬((((I0 (etP (ix l x))=[]∨5000<(↑(a6I l x):Int))∨(ix l x).Name=a6C)∨(ix l x).Name=a7J)∨a1V (ix l x).Name=true)/\0<x->A0 (etP (ix l x)))/\(bR (((((I0 (etP (ix l x))=[]∨5000<(↑(a6I l x):Int))∨(ix l x).Name=a6C)∨(ix l x).Name=a7J)∨a1V (ix l x).Name=true)∨0<x/\¬(Op.bytesLess (I0 (etP (ix l (x-1)))) (I0 (etP (ix l x)))=true∨I0 (etP (ix l (x-1)))=I0 (etP (ix l x)))) (Q false) (c6 (x+1)/\I (x+1)/\m (x+1)<m x))) (Q (decide ((↑l.length:Int)<=100))))
def d4d(l:List K8)(hp:∀p∈l,A0 p)(hl:(l.length:Int)<=1000000):c9j l (fun y0=>y0=bo (a1J l a1V)):=by
 unfold c9j a7J a6I a6C;simp only[y8,A9,B5,C7,C6,C8,D0,C5,C3,D2,B9,d4Z];refine⟨fun x=>0<=x/\x<=l.length/\s6 x (b0F l a1V),fun x=>((l.length:Int)-x).toNat,⟨by omega,by omega,s6.zero⟩,?_⟩;rintro x ⟨x0,x1,hx⟩;refine⟨fun hi=>?_,fun hi=>?_⟩
 . have sp:=hp _ (w5 x0 hi);refine⟨x0,hi,sp,fun h=>⟨by omega,by omega⟩,⟨fun h=>by omega,fun h=>by omega⟩,fun h=>hp _ (w5 (by omega) (by omega)),fun _=>sp,fun h=>G6 fun e=>?_,fun h=>?_⟩
   . obtain⟨a,b,c,d,n,g⟩:b0F l a1V x:=e.1 x x0 hi;rcases h with((((h|h)|h)|h)|h)|h
     . exact a h
     . omega
     . exact c h
     . exact d h
     . rw[h]at n;cases n
     . exact h.2 (g h.1)
   . have:b0F l a1V x:=⟨fun e=>h (.inl (.inl (.inl (.inl (.inl e))))),d5K.1 fun e=>h (.inl (.inl (.inl (.inl (.inr e))))),fun e=>h (.inl (.inl (.inl (.inr e)))),fun e=>h (.inl (.inl (.inr e))),d5E _ ▸ fun e=>h (.inl (.inr e)),fun p=>d4S.1 fun e=>h (.inr ⟨p,e⟩)⟩;exact⟨⟨by omega,by omega⟩,⟨by omega,by omega,hx.succ this⟩,by dsimp only;omega⟩
 . refine a1o ⟨fun e=>⟨fun j j0 j1=>hx j j0 (by omega),e⟩,fun e=>e.2⟩
def b8r(a:List (SV U)):Option (Q1 U):=match a with|[.sl 86 l,.fn 130]=>some ⟨[∀p∈l,A0 p,(l.length:Int)<=1000000],[],I4 (bo (a1J l a1V))⟩|_=>none
def ceu2_ok(args:List (SV U))(q:Q1 U)(h:b8r args=some q)(ho:q9 q.ob):A4 b7Y 36 args ⟨q.ob,q.hy,q.v,[]⟩:=by
 unfold b8r at h;split at h
 . rename_i l;cases h;exact I1 (an:=c5Y 36) Neu1_ok (inlHN_ok Neu1_ok H0_ok c5Y 4) Tryz.func36 (k:=.bool) (x:=bo (a1J l a1V)) trivial (kc (d4d l ho.1 ho.2.1) (by kernel_rfl)) 0
 . cases h
def b85:Env:=b7Y.B3 36 b8r
def Neu2_ok:c8 b85:=Neu1_ok.B3 Tryz.call36 ceu2_ok
def c5L:Nat->D3:=fun|36=>⟨59,fun|2=>some ⟨[0,1,8,9],[.slot 10 (.int .i64)]⟩|_=>none,nn⟩|_=>⟨0,nn,nn⟩
def a7l  := ([66,69,71,73,78]:List UInt8)
def a6T(l:List K8)(x:Int):=List.length (I0 (etP (ix l x)))
def a6D  := ([69,78,68]:List UInt8)
def d2W(l:List K8)(Q:Bool->Prop):Prop:=
∃(I:Int->Prop),∃(m:Int->Nat),I 0/\∀(x:Int),I x->(bR (x<(↑l.length:Int)) (0<=x/\x<(↑l.length:Int)/\A0 (etP (ix l x))/\(¬((((I0 (etP (ix l x))=[]∨5000<(↑(a6T l x):Int))∨(ix l x).Name=a7l)∨(ix l x).Name=a6D)∨a18 (ix l x).Name=true)/\0<x->c6 (x-1))/\((¬((((I0 (etP (ix l x))=[]∨5000<(↑(a6T l x):Int))∨(ix l x).Name=a7l)∨(ix l x).Name=a6D)∨a18 (ix l x).Name=true)/\0<x->0<=x-1)/\(¬((((I0 (etP (ix l x))=[]∨5000<(↑(a6T l x):Int))∨(ix l x).Name=a7l)∨(ix l x).Name=a6D)∨a18 (ix l x).Name=true)/\0<x->x-1<(↑l.length:Int)))/\(¬((((I0 (etP (ix l x))=[]∨5000<(↑(a6T l x):Int))∨(ix l x).Name=a7l)∨(ix l x).Name=a6D)∨a18 (ix l x).Name=true)/\0<x->A0 (etP (ix l (x-1))))/\(¬((((I0 (etP (ix l x))=[]∨5000<(↑(a6T l x):Int))∨(ix l x).Name=a7l)∨(ix l x).Name=a6D)∨a18 (ix l x).Name=true)/\0<x->A0 (etP (ix l x)))/\(bR (((((I0 (etP (ix l x))=[]∨5000<(↑(a6T l x):Int))∨(ix l x).Name=a7l)∨(ix l x).Name=a6D)∨a18 (ix l x).Name=true)∨0<x/\¬(Op.bytesLess (I0 (etP (ix l (x-1)))) (I0 (etP (ix l x)))=true∨I0 (etP (ix l (x-1)))=I0 (etP (ix l x)))) (Q false) (c6 (x+1)/\I (x+1)/\m (x+1)<m x))) (Q (decide ((↑l.length:Int)<=100))))
def d4i(l:List K8)(hp:∀p∈l,A0 p)(hl:(l.length:Int)<=1000000):d2W l (fun y0=>y0=bo (a1J l a18)):=by
 unfold d2W a6D a6T a7l;simp only[y8,A9,B5,C7,C6,C8,D0,C5,C3,D2,B9,d4Z];refine⟨fun x=>0<=x/\x<=l.length/\s6 x (b0F l a18),fun x=>((l.length:Int)-x).toNat,⟨by omega,by omega,s6.zero⟩,?_⟩;rintro x ⟨x0,x1,hx⟩;refine⟨fun hi=>?_,fun hi=>?_⟩
 . have sp:=hp _ (w5 x0 hi);refine⟨x0,hi,sp,fun h=>⟨by omega,by omega⟩,⟨fun h=>by omega,fun h=>by omega⟩,fun h=>hp _ (w5 (by omega) (by omega)),fun _=>sp,fun h=>G6 fun e=>?_,fun h=>?_⟩
   . obtain⟨a,b,c,d,n,g⟩:b0F l a18 x:=e.1 x x0 hi;rcases h with((((h|h)|h)|h)|h)|h
     . exact a h
     . omega
     . exact c h
     . exact d h
     . rw[h]at n;cases n
     . exact h.2 (g h.1)
   . have:b0F l a18 x:=⟨fun e=>h (.inl (.inl (.inl (.inl (.inl e))))),d5K.1 fun e=>h (.inl (.inl (.inl (.inl (.inr e))))),fun e=>h (.inl (.inl (.inl (.inr e)))),fun e=>h (.inl (.inl (.inr e))),d5E _ ▸ fun e=>h (.inl (.inr e)),fun p=>d4S.1 fun e=>h (.inr ⟨p,e⟩)⟩;exact⟨⟨by omega,by omega⟩,⟨by omega,by omega,hx.succ this⟩,by dsimp only;omega⟩
 . refine a1o ⟨fun e=>⟨fun j j0 j1=>hx j j0 (by omega),e⟩,fun e=>e.2⟩
def b7g(a:List (SV U)):Option (Q1 U):=match a with|[.sl 86 l,.fn 37]=>some ⟨[∀p∈l,A0 p,(l.length:Int)<=1000000],[],I4 (bo (a1J l a18))⟩|_=>none
def ceu3_ok(args:List (SV U))(q:Q1 U)(h:b7g args=some q)(ho:q9 q.ob):A4 b85 36 args ⟨q.ob,q.hy,q.v,[]⟩:=by
 unfold b7g at h;split at h
 . rename_i l;cases h;exact I1 (an:=c5L 36) Neu2_ok (inlHN_ok Neu2_ok H0_ok c5L 4) Tryz.func36 (k:=.bool) (x:=bo (a1J l a18)) trivial (kc (d4i l ho.1 ho.2.1) (by kernel_rfl)) 0
 . cases h
def c4j:Env:=b85.B3 36 b7g
def Neu3_ok:c8 c4j:=Neu2_ok.B3 Tryz.call36 ceu3_ok
def A4.up{E:Env}{K k:Nat}{C:List E.SV->Option (Q1 E.N)}{args:List E.SV}{q:CR E.N}(h:A4 E K args q):A4 (E.B3 k C) K args q:=h
def c8o{args:List (SV U)}{q:CR U}(h:A4 Nrq 36 args q):A4 b7Y 36 args q:=A4.up (E:=Nrq) (K:=36) (k:=36) (C:=b8b) (args:=args) (q:=q) h
def c0M{args:List (SV U)}{q:CR U}(h:A4 b7Y 36 args q):A4 b85 36 args q:=A4.up (E:=b7Y) (K:=36) (k:=36) (C:=b8r) (args:=args) (q:=q) h
def b54{args:List (SV U)}{q:CR U}(h:A4 b85 36 args q):A4 c4j 36 args q:=A4.up (E:=b85) (K:=36) (k:=36) (C:=b7g) (args:=args) (q:=q) h
def ceu(a:List (SV U)):Option (Q1 U):=match b8b a with
 |some q=>some q
 |none=>match b8r a with
  |some q=>some q
  |none=>b7g a
def c34{a:List (SV U)}{q:Q1 U}(h:ceu a=some q):b8b a=some q∨b8r a=some q∨b7g a=some q:=by
 unfold ceu at h;split at h
 . rename_i q' e;cases h;exact .inl e
 . split at h
   . rename_i q' e;cases h;exact .inr (.inl e)
   . exact .inr (.inr h)
def eu_ok(args:List (SV U))(q:Q1 U)(h:ceu args=some q)(ho:q9 q.ob):A4 c4j 36 args ⟨q.ob,q.hy,q.v,[]⟩:=by
 rcases c34 h with e|e|e
 . exact b54 (c0M (c8o (ceu1_ok _ _ e ho)))
 . exact b54 (c0M (ceu2_ok _ _ e ho))
 . exact b54 (ceu3_ok _ _ e ho)
def Neu:Env:=c4j.B3 36 ceu
def Neu_ok:c8 Neu:=Neu3_ok.B3 Tryz.call36 eu_ok
def d0V:Nat->D3:=fun|81=>⟨33,nn,nn⟩|_=>⟨0,nn,nn⟩
def Vam(a:Alm)(Q:Bool->Prop):Prop:=
((((a.Action=([65,85,68,73,79]:List UInt8)∨a.Action=([68,73,83,80,76,65,89]:List UInt8))∨a.Action=([69,77,65,73,76]:List UInt8))/\(-1000000000:Int)<=a.S9)/\a.S9<=1000000000->∀(p:K8),p∈a.Extra->A0 p)/\((((a.Action=([65,85,68,73,79]:List UInt8)∨a.Action=([68,73,83,80,76,65,89]:List UInt8))∨a.Action=([69,77,65,73,76]:List UInt8))/\(-1000000000:Int)<=a.S9)/\a.S9<=1000000000->(↑a.Extra.length:Int)<=1000000)/\Q (decide (((((a.Action=([65,85,68,73,79]:List UInt8)∨a.Action=([68,73,83,80,76,65,89]:List UInt8))∨a.Action=([69,77,65,73,76]:List UInt8))/\(-1000000000:Int)<=a.S9)/\a.S9<=1000000000)/\bo (a1J a.Extra a1V)=true))
def pam(a:Alm)(hp:∀p∈a.Extra,A0 p)(hl:(a.Extra.length:Int)<=1000000):Vam a (fun y0=>y0=bo (b86 a)):=by unfold Vam;refine⟨fun _=>hp,fun _=>hl,a1o ?_⟩;rw[z8];exact⟨fun⟨⟨⟨a,b⟩,c⟩,d⟩=>⟨or_assoc.1 a,b,c,d⟩,fun⟨a,b,c,d⟩=>⟨⟨⟨or_assoc.2 a,b⟩,c⟩,d⟩⟩
def d4r(a:Alm):Q1 U:=⟨[(∀p∈a.Extra,A0 p),(a.Extra.length:Int)<=1000000],[],I4 (bo (b86 a))⟩
def cam(a:List (SV U)):Option (Q1 U):=match a with|[.agg l_a]=>(b9r.bk (.agg l_a)).bind fun a=>some (d4r a)|_=>none
def Nam:Env:=Neu.B3 81 cam
def Nam_ok:c8 Nam:=Neu_ok.B3 Tryz.call81 fun(args:List (SV U)) (q:Q1 U) (h:cam args=some q) ho=>by
 unfold cam at h;split at h
 . rename_i l_a;obtain⟨a,hb_a,h⟩:=d5j.1 h;cases h;refine A4.conv (E:=Neu) (args':=[.agg [.str a.Action,.int .i64 a.S9,.sl 86 a.Extra]]) (I1 (an:=d0V 81) Neu_ok (inlHN_ok Neu_ok H0_ok d0V 2) Tryz.func81 (k:=.bool) trivial (kc (pam a ho.1 ho.2.1) (by kernel_rfl)) 0) fun D w vs hr=>O3 [.agg l_a] [.agg [.str a.Action,.int .i64 a.S9,.sl (N:=U) 86 a.Extra]] _ ⟨fun _ h=>b3h hb_a h,trivial⟩ hr
 . cases h
def c8U:Nat->D3:=fun|82=>⟨47,fun|2=>some ⟨[1,3,5,9,10],[.slot 11 (.int .i64)]⟩|_=>none,nn⟩|_=>⟨0,nn,nn⟩
def Vdt(o:F3)(l:List E6)(y:E6)(Q:Bool->Prop):Prop:=
∃(I:Int->Prop),∃(m:Int->Nat),I 0/\∀(x:Int),I x->(bR (x<(↑l.length:Int)) (0<=x/\x<(↑l.length:Int)/\o.c9.length<=1000/\(¬(¬bo (S0 o.c9 (W5 (ix l x)))=true∨¬P5 (W5 (ix l x)) (W5 y)=true)/\0<x->c6 (x-1))/\((¬(¬bo (S0 o.c9 (W5 (ix l x)))=true∨¬P5 (W5 (ix l x)) (W5 y)=true)/\0<x->0<=x-1)/\(¬(¬bo (S0 o.c9 (W5 (ix l x)))=true∨¬P5 (W5 (ix l x)) (W5 y)=true)/\0<x->x-1<(↑l.length:Int)))/\(bR ((¬bo (S0 o.c9 (W5 (ix l x)))=true∨¬P5 (W5 (ix l x)) (W5 y)=true)∨0<x/\b8 (j7 (ix l x).Time)<=b8 (j7 (ix l (x-1)).Time)) (Q false) (c6 (x+1)/\I (x+1)/\m (x+1)<m x))) (Q (decide ((↑l.length:Int)<=100))))
def pdt(o:F3)(l:List E6)(y:E6)(hz:o.c9.length<=1000)(hl:(l.length:Int)<=1000000):Vdt o l y (fun y0=>y0=bo (a8J o.c9 l y)):=by
 unfold Vdt;simp only[y8,A9,B5,C7,C6,C8,D0,C5,C3,D2,B9,d4Z];refine⟨fun x=>0<=x/\x<=l.length/\s6 x fun j=>S0 o.c9 (ix l j)/\P5 (ix l j) y=true/\(0<j->b8 (ix l (j-1)).Time<b8 (ix l j).Time),fun x=>((l.length:Int)-x).toNat,⟨by omega,by omega,s6.zero⟩,?_⟩;rintro x ⟨x0,x1,hx⟩;refine⟨fun hi=>⟨x0,hi,hz,fun h=>⟨by omega,by omega⟩,⟨fun h=>by omega,fun h=>by omega⟩,fun h=>G6 fun e=>?_,fun h=>⟨⟨by omega,by omega⟩,⟨by omega,by omega,hx.succ ⟨z8.1 (d4S.1 fun e=>h (.inl (.inl e))),d4S.1 fun e=>h (.inl (.inr e)),fun p=>d8K.1 fun e=>h (.inr ⟨p,e⟩)⟩⟩,by dsimp only;omega⟩⟩,fun hi=>a1o ⟨fun e=>⟨fun j j0 j1=>hx j j0 (by omega),e⟩,fun e=>e.2⟩⟩;obtain⟨a,b,c⟩:=e.1 x x0 hi;rcases h with(h|h)|h
 . exact h (z8.2 a)
 . exact h b
 . exact absurd (c h.1) (by omega)
def d3V(o:F3)(l:List E6)(y:E6):Q1 U:=⟨[o.c9.length<=1000,(l.length:Int)<=1000000],[],I4 (bo (a8J o.c9 l y))⟩
def cdt(a:List (SV U)):Option (Q1 U):=match a with|[.agg l_o,.sl 28 l,.agg l_y]=>(y38.bk (.agg l_o)).bind fun o=>(y28.bk (.agg l_y)).bind fun y=>some (d3V o l y)|_=>none
def Ndt:Env:=Nam.B3 82 cdt
def Ndt_ok:c8 Ndt:=Nam_ok.B3 Tryz.call82 fun(args:List (SV U)) (q:Q1 U) (h:cdt args=some q) ho=>by
 unfold cdt at h;split at h
 . rename_i l_o l l_y;obtain⟨o,hb_o,h⟩:=d5j.1 h;obtain⟨y,hb_y,h⟩:=d5j.1 h;cases h;refine A4.conv (E:=Nam) (args':=[.agg [.str o.Kind,.str o.UID,.sl 92 o.c9,.int .i64 o.Main.Start.Time.Day.Year,.int .i64 o.Main.Start.Time.Day.Month,.int .i64 o.Main.Start.Time.Day.Date,.int .i64 o.Main.Start.Time.Hour,.int .i64 o.Main.Start.Time.Min,.int .i64 o.Main.Start.Time.D8,I4 o.Main.Start.Time.o7,I4 o.Main.Start.Time.UTC,.str o.Main.Start.D9,.sl 28 o.Main.End,.sl 3 o.Main.Span,.sl 64 o.Main.b9,.sl 28 o.Main.o5,.sl 28 o.Main.l5,.sl 28 o.Main.p8,.sl 136 o.Main.w6,.sl 86 o.Main.Extra,.sl 35 o.Over,.sl 86 o.Extra],.sl 28 l,.agg [.int .i64 y.Time.Day.Year,.int .i64 y.Time.Day.Month,.int .i64 y.Time.Day.Date,.int .i64 y.Time.Hour,.int .i64 y.Time.Min,.int .i64 y.Time.D8,I4 y.Time.o7,I4 y.Time.UTC,.str y.D9]]) (I1 (an:=c8U 82) Nam_ok (inlHN_ok Nam_ok H0_ok c8U 2) Tryz.func82 (k:=.bool) trivial (kc (pdt o l y ho.1 ho.2.1) (by kernel_rfl)) 0) fun D w vs hr=>O3 [.agg l_o,.sl 28 l,.agg l_y] [.agg [.str o.Kind,.str o.UID,.sl (N:=U) 92 o.c9,.int .i64 o.Main.Start.Time.Day.Year,.int .i64 o.Main.Start.Time.Day.Month,.int .i64 o.Main.Start.Time.Day.Date,.int .i64 o.Main.Start.Time.Hour,.int .i64 o.Main.Start.Time.Min,.int .i64 o.Main.Start.Time.D8,I4 o.Main.Start.Time.o7,I4 o.Main.Start.Time.UTC,.str o.Main.Start.D9,.sl (N:=U) 28 o.Main.End,.sl (N:=U) 3 o.Main.Span,.sl (N:=U) 64 o.Main.b9,.sl (N:=U) 28 o.Main.o5,.sl (N:=U) 28 o.Main.l5,.sl (N:=U) 28 o.Main.p8,.sl (N:=U) 136 o.Main.w6,.sl (N:=U) 86 o.Main.Extra,.sl (N:=U) 35 o.Over,.sl (N:=U) 86 o.Extra],.sl (N:=U) 28 l,.agg [.int .i64 y.Time.Day.Year,.int .i64 y.Time.Day.Month,.int .i64 y.Time.Day.Date,.int .i64 y.Time.Hour,.int .i64 y.Time.Min,.int .i64 y.Time.D8,I4 y.Time.o7,I4 y.Time.UTC,.str y.D9]] _ ⟨fun _ h=>a7V hb_o h,fun _ h=>h,fun _ h=>a7p hb_y h,trivial⟩ hr
 . cases h
def d0j:Nat->D3:=fun|38=>⟨152,fun|28=>some ⟨[2,3,123,124],[.slot 125 (.int .i64)]⟩|22=>some ⟨[2,3,111,112],[.slot 113 (.int .i64)]⟩|16=>some ⟨[2,3,97,98],[.slot 99 (.int .i64)]⟩|10=>some ⟨[2,3,72,73],[.slot 74 (.int .i64)]⟩|4=>some ⟨[2,3,43,44],[.slot 45 (.int .i64)]⟩|_=>none,nn⟩|_=>⟨0,nn,nn⟩
def b7n(o:F3)(x:Q4):=a8J o.c9 x.o5 (W5 x.Start)
def Vim(o:F3)(x:Q4)(Q:Bool->Prop):Prop:=
o.c9.length<=1000/\(¬¬bo (S0 o.c9 (W5 x.Start))=true->c6 ((↑x.End.length:Int)+(↑x.Span.length:Int)))/\(bR (((¬bo (S0 o.c9 (W5 x.Start))=true∨1<(↑x.End.length:Int)+(↑x.Span.length:Int))∨1<(↑x.b9.length:Int))∨10<(↑x.w6.length:Int)) (Q false) (∃(I:Int->Prop),∃(m:Int->Nat),I 0/\∀(x_1:Int),I x_1->(bR (x_1<(↑x.End.length:Int)) (0<=x_1/\x_1<(↑x.End.length:Int)/\o.c9.length<=1000/\(bR ((¬bo (S0 o.c9 (W5 (ix x.End x_1)))=true∨¬P5 (W5 (ix x.End x_1)) (W5 x.Start)=true)∨b8 (j7 (ix x.End x_1).Time)<=b8 (j7 x.Start.Time)) (Q false) (c6 (x_1+1)/\I (x_1+1)/\m (x_1+1)<m x_1))) (∃(I:Int->Prop),∃(m:Int->Nat),I 0/\∀(x_2:Int),I x_2->(bR (x_2<(↑x.Span.length:Int)) (0<=x_2/\x_2<(↑x.Span.length:Int)/\(c6 (ix x.Span x_2)->(¬(ix x.Span x_2<1∨1000000000<ix x.Span x_2)/\x.Start.Time.o7=true->(86400:Int)≠0)/\(bR ((ix x.Span x_2<1∨1000000000<ix x.Span x_2)∨x.Start.Time.o7=true/\(ix x.Span x_2).tmod (86400:Int)≠0) (Q false) (c6 (x_2+1)/\I (x_2+1)/\m (x_2+1)<m x_2)))) (∃(I:Int->Prop),∃(m:Int->Nat),I 0/\∀(x_3:Int),I x_3->(bR (x_3<(↑x.b9.length:Int)) (0<=x_3/\x_3<(↑x.b9.length:Int)/\(c6 (ix x.b9 x_3).l6->c6 (ix x.b9 x_3).Interval->c6 (ix x.b9 x_3).Count->c6 (ix x.b9 x_3).v8->F9 (M1 (ix x.b9 x_3))=true/\(bR (¬G3 (j7 x.Start.Time) (M1 (ix x.b9 x_3))=true) (Q false) (c6 (x_3+1)/\I (x_3+1)/\m (x_3+1)<m x_3)))) (∃(I:Int->Prop),∃(m:Int->Nat),I 0/\∀(x_4:Int),I x_4->(bR (x_4<(↑x.p8.length:Int)) (0<=x_4/\x_4<(↑x.p8.length:Int)/\o.c9.length<=1000/\(bR (¬bo (S0 o.c9 (W5 (ix x.p8 x_4)))=true) (Q false) (c6 (x_4+1)/\I (x_4+1)/\m (x_4+1)<m x_4))) (∃(I:Int->Prop),∃(m:Int->Nat),I 0/\∀(x_5:Int),I x_5->(bR (x_5<(↑x.w6.length:Int)) (0<=x_5/\x_5<(↑x.w6.length:Int)/\(∀(p:K8),p∈(ix x.w6 x_5).Extra->A0 p)/\(↑(ix x.w6 x_5).Extra.length:Int)<=1000000/\(bR (¬bo (b86 (etA (ix x.w6 x_5)))=true) (Q false) (c6 (x_5+1)/\I (x_5+1)/\m (x_5+1)<m x_5))) (o.c9.length<=1000/\(↑x.o5.length:Int)<=1000000/\(bo (b7n o x)=true->o.c9.length<=1000)/\(bo (b7n o x)=true->(↑x.l5.length:Int)<=1000000)/\(bo (b7n o x)=true/\bo (a8J o.c9 x.l5 (W5 x.Start))=true->∀(p:K8),p∈x.Extra->A0 p)/\(bo (b7n o x)=true/\bo (a8J o.c9 x.l5 (W5 x.Start))=true->(↑x.Extra.length:Int)<=1000000)/\Q (decide ((bo (b7n o x)=true/\bo (a8J o.c9 x.l5 (W5 x.Start))=true)/\bo (a1J x.Extra a2e)=true))))))))))))))
def pim(o:F3)(x:Q4)(hz:o.c9.length<=1000)(hf:a2l x):Vim o x (fun y0=>y0=bo (S2 o.c9 x)):=by
 unfold Vim b7n;simp only[y8,A9,B5,C7,C6,C8,D0,C5,C3,D2,B9,d4Z];obtain⟨f1,f2,f3,f4,f5,f6,f7,f8,f9,f10,f11⟩:=hf;refine⟨hz,fun _=>⟨by omega,by omega⟩,fun h=>G6 fun e=>?_,fun h=>?_⟩
 . rcases h with((h|h)|h)|h
   . exact h (z8.2 e.1)
   . have:=e.2.1;omega
   . have:=e.2.2.1;omega
   . have:=e.2.2.2.1;omega
 have g1:S0 o.c9 x.Start:=z8.1 (d4S.1 fun e=>h (.inl (.inl (.inl e))));have g2:(x.End.length:Int)+x.Span.length<=1:=d5K.1 fun e=>h (.inl (.inl (.inr e)));have g3:(x.b9.length:Int)<=1:=d5K.1 fun e=>h (.inl (.inr e));have g4:(x.w6.length:Int)<=10:=d5K.1 fun e=>h (.inr e);clear h;refine⟨fun k=>0<=k/\k<=x.End.length/\s6 k fun j=>S0 o.c9 (ix x.End j)/\P5 (ix x.End j) x.Start=true/\b8 x.Start.Time<b8 (ix x.End j).Time,fun k=>((x.End.length:Int)-k).toNat,⟨by omega,by omega,s6.zero⟩,?_⟩;rintro k ⟨k0,k1,hk⟩;refine⟨fun hi=>⟨k0,hi,hz,fun h=>G6 fun e=>?_,fun h=>⟨⟨by omega,by omega⟩,⟨by omega,by omega,hk.succ ⟨z8.1 (d4S.1 fun e=>h (.inl (.inl e))),d4S.1 fun e=>h (.inl (.inr e)),d8K.1 fun e=>h (.inr e)⟩⟩,by dsimp only;omega⟩⟩,fun hi=>?_⟩
 . obtain⟨a,b,c⟩:=e.2.2.2.2.1 k k0 hi;rcases h with(h|h)|h
   . exact h (z8.2 a)
   . exact h b
   . omega
 have g5:s6 x.End.length fun j=>S0 o.c9 (ix x.End j)/\P5 (ix x.End j) x.Start=true/\b8 x.Start.Time<b8 (ix x.End j).Time:=hk.le (by omega);clear hk k0 k1 hi k;refine⟨fun k=>0<=k/\k<=x.Span.length/\s6 k fun j=>1<=ix x.Span j/\ix x.Span j<=1000000000/\(x.Start.Time.o7=true->(ix x.Span j).tmod 86400=0),fun k=>((x.Span.length:Int)-k).toNat,⟨by omega,by omega,s6.zero⟩,?_⟩;rintro k ⟨k0,k1,hk⟩;refine⟨fun hi=>⟨k0,hi,fun _=>⟨fun _=>by decide,fun h=>G6 fun e=>?_,fun h=>⟨⟨by omega,by omega⟩,⟨by omega,by omega,hk.succ ⟨d5K.1 fun e=>h (.inl (.inl e)),d5K.1 fun e=>h (.inl (.inr e)),fun p=>d4S.1 fun e=>h (.inr ⟨p,e⟩)⟩⟩,by dsimp only;omega⟩⟩⟩,fun hi=>?_⟩
 . obtain⟨a,b,c⟩:=e.2.2.2.2.2.1 k k0 hi;rcases h with(h|h)|h
   . omega
   . omega
   . exact h.2 (c h.1)
 have g6:s6 x.Span.length fun j=>1<=ix x.Span j/\ix x.Span j<=1000000000/\(x.Start.Time.o7=true->(ix x.Span j).tmod 86400=0):=hk.le (by omega);clear hk k0 k1 hi k;refine⟨fun k=>0<=k/\k<=x.b9.length/\s6 k fun j=>G3 x.Start.Time (ix x.b9 j)=true,fun k=>((x.b9.length:Int)-k).toNat,⟨by omega,by omega,s6.zero⟩,?_⟩;rintro k ⟨k0,k1,hk⟩;refine⟨fun hi=>⟨k0,hi,fun _ _ _ _=>⟨f8 _ (w5 k0 hi),fun h=>G6 fun e=>?_,fun h=>⟨⟨by omega,by omega⟩,⟨by omega,by omega,hk.succ (d4S.1 h)⟩,by dsimp only;omega⟩⟩⟩,fun hi=>?_⟩
 . exact h (e.2.2.2.2.2.2.1 k k0 hi)
 have g7:s6 x.b9.length fun j=>G3 x.Start.Time (ix x.b9 j)=true:=hk.le (by omega);clear hk k0 k1 hi k;refine⟨fun k=>0<=k/\k<=x.p8.length/\s6 k fun j=>S0 o.c9 (ix x.p8 j),fun k=>((x.p8.length:Int)-k).toNat,⟨by omega,by omega,s6.zero⟩,?_⟩;rintro k ⟨k0,k1,hk⟩;refine⟨fun hi=>⟨k0,hi,hz,fun h=>G6 fun e=>?_,fun h=>⟨⟨by omega,by omega⟩,⟨by omega,by omega,hk.succ (z8.1 (d4S.1 h))⟩,by dsimp only;omega⟩⟩,fun hi=>?_⟩
 . exact h (z8.2 (e.2.2.2.2.2.2.2.1 k k0 hi))
 have g8:s6 x.p8.length fun j=>S0 o.c9 (ix x.p8 j):=hk.le (by omega);clear hk k0 k1 hi k;refine⟨fun k=>0<=k/\k<=x.w6.length/\s6 k fun j=>b86 (ix x.w6 j),fun k=>((x.w6.length:Int)-k).toNat,⟨by omega,by omega,s6.zero⟩,?_⟩;rintro k ⟨k0,k1,hk⟩;refine⟨fun hi=>⟨k0,hi,(f9 _ (w5 k0 hi)).1,(f9 _ (w5 k0 hi)).2,fun h=>G6 fun e=>?_,fun h=>⟨⟨by omega,by omega⟩,⟨by omega,by omega,hk.succ (z8.1 (d4S.1 h))⟩,by dsimp only;omega⟩⟩,fun hi=>?_⟩
 . exact h (z8.2 (e.2.2.2.2.2.2.2.2.1 k k0 hi))
 have g9:s6 x.w6.length fun j=>b86 (ix x.w6 j):=hk.le (by omega);clear hk k0 k1 hi k;refine⟨hz,by omega,fun _=>hz,fun _=>by omega,fun _=>f10,fun _=>f11,a1o ?_⟩;rw[z8,z8,z8];exact⟨fun⟨⟨a,b⟩,c⟩=>⟨g1,g2,g3,g4,g5,g6,g7,g8,g9,a,b,c⟩,fun⟨_,_,_,_,_,_,_,_,_,a,b,c⟩=>⟨⟨a,b⟩,c⟩⟩
def Nim:Env:=Ndt.kL 38 (r38.c (r35.c .n)) (.bool) (fun y=>[y.1.c9.length<=1000,a2l y.2.1]) (fun y=>bo (S2 y.1.c9 y.2.1))
def Nim_ok:c8 Nim:=Ndt_ok.kL Tryz.call38 Tryz.func38 (inlHN_ok Ndt_ok H0_ok d0j 2) (an:=d0j 38) (fun _ _=>trivial) fun y ho=>kc (pim y.1 y.2.1 ho.1 ho.2.1) (by kernel_rfl)
def c9c:Env:=Nim.z7 41 Tryz.f41
def NI41_ok:c8 c9c:=Nim_ok.z7 Tryz.call41 Tryz.func41
def c9a:Nat->D3:=fun|14=>⟨152,fun|13=>some ⟨[1,3,87,88],[.slot 89 (.int .i64)]⟩|7=>some ⟨[1,3,67,68],[.slot 69 (.int .i64)]⟩|_=>none,nn⟩|40=>⟨9,nn,nn⟩|88=>⟨19,fun|2=>some ⟨[0,1,7],[.slot 8 (.int .i64)]⟩|_=>none,nn⟩|41=>⟨9,nn,nn⟩|_=>⟨0,nn,nn⟩
def b59(o:F3):=K8.mk [] ([85,73,68]:List UInt8) [] o.UID
def Ver(o:F3)(Q:Bool->Prop):Prop:=
(bR (((((o.Kind≠([86,69,86,69,78,84]:List UInt8)/\o.Kind≠([86,84,79,68,79]:List UInt8)∨o.UID=[])∨100<(↑(List.length o.UID):Int))∨5<(↑o.c9.length:Int))∨50<(↑o.Over.length:Int))∨0<(↑o.Main.p8.length:Int)) (Q false) (A0 (b59 o)/\(¬¬Li.D6 (b59 o)=true->∀(p:K8),p∈o.Extra->A0 p)/\(¬¬Li.D6 (b59 o)=true->(↑o.Extra.length:Int)<=1000000)/\(¬(¬Li.D6 (b59 o)=true∨¬bo (a1J o.Extra a18)=true)->o.c9.length<=1000)/\(¬(¬Li.D6 (b59 o)=true∨¬bo (a1J o.Extra a18)=true)->a2l (etI o.Main))/\(bR ((¬Li.D6 (b59 o)=true∨¬bo (a1J o.Extra a18)=true)∨¬bo (S2 o.c9 (etI o.Main))=true) (Q false) (∃(I:Int->Prop),∃(m:Int->Nat),I 0/\∀(x:Int),I x->(bR (x<(↑o.c9.length:Int)) (0<=x/\x<(↑o.c9.length:Int)/\X9 (etZ (ix o.c9 x))/\(bR (¬bo (a4M (etZ (ix o.c9 x)))=true) (Q false) (0<=x/\x<=(↑o.c9.length:Int)/\∃(I_1:Int->Prop),∃(m_1:Int->Nat),I_1 0/\∀(x_1:Int),I_1 x_1->(bR (x_1<(↑(List.take x.toNat o.c9).length:Int)) (0<=x_1/\x_1<(↑(List.take x.toNat o.c9).length:Int)/\(bR ((ix (List.take x.toNat o.c9) x_1).ID=(ix o.c9 x).ID) ((bR (0<=x_1) (Q false) (c6 (x+1)/\I (x+1)/\m (x+1)<m x))) (c6 (x_1+1)/\I_1 (x_1+1)/\m_1 (x_1+1)<m_1 x_1))) ((bR ((0:Int)<=(-1:Int)) (Q false) (c6 (x+1)/\I (x+1)/\m (x+1)<m x))))))) (∃(I:Int->Prop),∃(m:Int->Nat),I 0/\∀(x:Int),I x->(bR (x<(↑o.Over.length:Int)) (0<=x/\x<(↑o.Over.length:Int)/\(¬(↑(ix o.Over x).p8.length:Int)≠1->c6 ((↑(ix o.Over x).b9.length:Int)+(↑(ix o.Over x).o5.length:Int)))/\(¬(↑(ix o.Over x).p8.length:Int)≠1->c6 ((↑(ix o.Over x).b9.length:Int)+(↑(ix o.Over x).o5.length:Int)+(↑(ix o.Over x).l5.length:Int)))/\((¬((↑(ix o.Over x).p8.length:Int)≠1∨0<(↑(ix o.Over x).b9.length:Int)+(↑(ix o.Over x).o5.length:Int)+(↑(ix o.Over x).l5.length:Int))->o.c9.length<=1000)/\(¬((↑(ix o.Over x).p8.length:Int)≠1∨0<(↑(ix o.Over x).b9.length:Int)+(↑(ix o.Over x).o5.length:Int)+(↑(ix o.Over x).l5.length:Int))->a2l (etI (ix o.Over x))))/\((¬(((↑(ix o.Over x).p8.length:Int)≠1∨0<(↑(ix o.Over x).b9.length:Int)+(↑(ix o.Over x).o5.length:Int)+(↑(ix o.Over x).l5.length:Int))∨¬bo (S2 o.c9 (etI (ix o.Over x)))=true)->(0:Int)<=0)/\(¬(((↑(ix o.Over x).p8.length:Int)≠1∨0<(↑(ix o.Over x).b9.length:Int)+(↑(ix o.Over x).o5.length:Int)+(↑(ix o.Over x).l5.length:Int))∨¬bo (S2 o.c9 (etI (ix o.Over x)))=true)->0<(↑(ix o.Over x).p8.length:Int)))/\(bR ((((↑(ix o.Over x).p8.length:Int)≠1∨0<(↑(ix o.Over x).b9.length:Int)+(↑(ix o.Over x).o5.length:Int)+(↑(ix o.Over x).l5.length:Int))∨¬bo (S2 o.c9 (etI (ix o.Over x)))=true)∨¬P5 (W5 (ix (ix o.Over x).p8 0)) (W5 o.Main.Start)=true) (Q false) ((0<x->c6 (x-1))/\((0<x->0<=x-1)/\(0<x->x-1<(↑o.Over.length:Int)))/\((0<x->(0:Int)<=0)/\(0<x->0<(↑(ix o.Over (x-1)).p8.length:Int)))/\((0<x->(0:Int)<=0)/\(0<x->0<(↑(ix o.Over x).p8.length:Int)))/\(bR (0<x/\b8 (j7 (ix (ix o.Over x).p8 0).Time)<=b8 (j7 (ix (ix o.Over (x-1)).p8 0).Time)) (Q false) (c6 (x+1)/\I (x+1)/\m (x+1)<m x))))) (Q true))))))))
def c8O{α:Type}[Inhabited α]{l:List α}{n:Nat}{i:Int}(h0:0<=i)(h1:i<n)(h2:i<l.length):ix (l.take n) i=ix l i:=by rw[s8 (by rw[d5n];omega),s8 (by omega),d7k]
def c0s(o:F3)(j:Int):Prop:=((ix o.Over j).p8.length:Int)=1/\((ix o.Over j).b9.length:Int)+(ix o.Over j).o5.length+(ix o.Over j).l5.length<=0/\S2 o.c9 (ix o.Over j)/\P5 (ix (ix o.Over j).p8 0) o.Main.Start=true/\(0<j->b8 (ix (ix o.Over (j-1)).p8 0).Time<b8 (ix (ix o.Over j).p8 0).Time)
def per(o:F3)(hf:a11 o):Ver o (fun y0=>y0=bo (V8 o)):=by
 unfold Ver b59;simp only[y8,A9,B5,C7,C6,C8,D0,C5,C3,D2,B9,d4Z];obtain⟨k1,k2,k3,k4,k5,k6,k7,k8,k9⟩:=hf;have sp:A0 ⟨[],c7y,[],o.UID⟩:=⟨by show 3<=100000;decide,d6B _,by show o.UID.length<=5000;omega,d6B _,fun x hx=>by cases hx⟩;refine⟨fun h=>G6 fun e=>?_,fun h=>?_⟩
 . rcases h with((((h|h)|h)|h)|h)|h
   . exact e.1.1.elim h.1 h.2
   . exact e.1.2.1 h
   . have:=e.1.2.2.1;omega
   . have:=e.1.2.2.2.1;omega
   . have:=e.1.2.2.2.2.1;omega
   . have:=e.1.2.2.2.2.2;omega
 have hk:o.Kind=evN∨o.Kind=tdN:=d6i fun e=>h (.inl (.inl (.inl (.inl (.inl ⟨fun a=>e (.inl a),fun a=>e (.inr a)⟩)))));have g1:(o.Kind=evN∨o.Kind=tdN)/\o.UID≠[]/\(o.UID.length:Int)<=100/\(o.c9.length:Int)<=5/\(o.Over.length:Int)<=50/\(o.Main.p8.length:Int)<=0:=⟨hk,fun e=>h (.inl (.inl (.inl (.inl (.inr e))))),d5K.1 fun e=>h (.inl (.inl (.inl (.inr e)))),d5K.1 fun e=>h (.inl (.inl (.inr e))),d5K.1 fun e=>h (.inl (.inr e)),d5K.1 fun e=>h (.inr e)⟩;clear h;refine⟨sp,fun _=>k5,fun _=>k6,fun _=>by omega,fun _=>k7,fun h=>G6 fun e=>?_,fun h=>?_⟩
 . rcases h with(h|h)|h
   . exact h e.2.1
   . exact h (z8.2 e.2.2.1)
   . exact h (z8.2 e.2.2.2.1)
 have g2:D6 ⟨[],c7y,[],o.UID⟩=true:=d4S.1 fun e=>h (.inl (.inl e));have g3:a1J o.Extra a18:=z8.1 (d4S.1 fun e=>h (.inl (.inr e)));have g4:S2 o.c9 o.Main:=z8.1 (d4S.1 fun e=>h (.inr e));clear h;refine⟨fun x=>0<=x/\x<=o.c9.length/\s6 x fun j=>a4M (ix o.c9 j)/\s6 j fun k=>(ix o.c9 k).ID≠(ix o.c9 j).ID,fun x=>((o.c9.length:Int)-x).toNat,⟨by omega,by omega,s6.zero⟩,?_⟩;rintro x ⟨x0,x1,hx⟩;refine⟨fun hi=>⟨x0,hi,k8 _ (w5 x0 hi),fun h=>G6 fun e=>h (z8.2 (e.2.2.2.2.1 x x0 hi).1),fun h=>⟨x0,x1,?_⟩⟩,fun hi=>?_⟩
 . have hz:a4M (ix o.c9 x):=z8.1 (d4S.1 h);have lt:((o.c9.take x.toNat).length:Int)=x:=by rw[d5n];omega
   refine⟨fun k=>0<=k/\k<=x/\s6 k fun j=>(ix o.c9 j).ID≠(ix o.c9 x).ID,fun k=>(x-k).toNat,⟨by omega,by omega,s6.zero⟩,?_⟩;rintro k ⟨j0,j1,hk'⟩;rw[lt];refine⟨fun hi2=>⟨j0,hi2,?_⟩,fun hi2=>⟨fun h=>by omega,fun _=>⟨⟨by omega,by omega⟩,⟨by omega,by omega,hx.succ ⟨hz,hk'.le (by omega)⟩⟩,by dsimp only;omega⟩⟩⟩;rw[c8O j0 (by omega) (by omega)];exact⟨fun hd=>⟨fun _=>G6 fun e=>(e.2.2.2.2.1 x x0 hi).2 k j0 hi2 hd,fun h=>absurd j0 h⟩,fun hd=>⟨⟨by omega,by omega⟩,⟨by omega,by omega,hk'.succ hd⟩,by dsimp only;omega⟩⟩
 have g5:s6 o.c9.length fun j=>a4M (ix o.c9 j)/\s6 j fun k=>(ix o.c9 k).ID≠(ix o.c9 j).ID:=hx.le (by omega);clear hx x0 x1 hi x;refine⟨fun x=>0<=x/\x<=o.Over.length/\s6 x (c0s o),fun x=>((o.Over.length:Int)-x).toNat,⟨by omega,by omega,s6.zero⟩,?_⟩;rintro x ⟨x0,x1,hx⟩;refine⟨fun hi=>?_,fun hi=>a1p ⟨g1,g2,g3,g4,g5,fun j j0 j1=>hx j j0 (by omega)⟩⟩;have fi:=k9 _ (w5 x0 hi);have l1:=fi.2.2.1;have l2:=fi.2.2.2.1;have l3:=fi.2.2.2.2.1;refine⟨x0,hi,fun _=>⟨by omega,by omega⟩,fun _=>⟨by omega,by omega⟩,⟨fun _=>by omega,fun _=>fi⟩,⟨fun _=>d5o 0,fun h=>?_⟩,fun h=>G6 fun e=>?_,fun h=>?_⟩
 . have:((ix o.Over x).p8.length:Int)=1:=d4S.1 fun e=>h (.inl (.inl e));omega
 . obtain⟨a,b,c,d,_⟩:c0s o x:=e.2.2.2.2.2 x x0 hi;rcases h with((h|h)|h)|h
   . exact h a
   . omega
   . exact h (z8.2 c)
   . exact h d
 . have a:((ix o.Over x).p8.length:Int)=1:=d4S.1 fun e=>h (.inl (.inl (.inl e)));have b:((ix o.Over x).b9.length:Int)+(ix o.Over x).o5.length+(ix o.Over x).l5.length<=0:=d5K.1 fun e=>h (.inl (.inl (.inr e)));have c:S2 o.c9 (ix o.Over x):=z8.1 (d4S.1 fun e=>h (.inl (.inr e)));have d:=d4S.1 fun e=>h (.inr e);have pv:0<x->((ix o.Over (x-1)).p8.length:Int)=1:=fun p=>(hx (x-1) (by omega) (by omega)).1;refine⟨fun _=>⟨by omega,by omega⟩,⟨fun _=>by omega,fun _=>by omega⟩,⟨fun _=>d5o 0,fun p=>by have:=pv p;omega⟩,⟨fun _=>d5o 0,fun _=>by omega⟩,fun h=>G6 fun e=>?_,fun h=>⟨⟨by omega,by omega⟩,⟨by omega,by omega,hx.succ ⟨a,b,c,d,fun p=>d8K.1 fun e=>h ⟨p,e⟩⟩⟩,by dsimp only;omega⟩⟩;have ov:c0s o x:=e.2.2.2.2.2 x x0 hi;exact absurd (ov.2.2.2.2 h.1) (by omega)
def Ner:Env:=c9c.kL 14 (r38.c .n) (.bool) (fun y=>[a11 y.1]) (fun y=>bo (V8 y.1))
def Ner_ok:c8 Ner:=NI41_ok.kL Tryz.call14 Tryz.func14 (inlHN_ok NI41_ok H0_ok c9a 4) (an:=c9a 14) (fun _ _=>trivial) fun y ho=>kc (per y.1 ho.1) (by kernel_rfl)
end Go.Proofs.YtapnoejokajcoaaGreatDoor
namespace Go.Qu
open Go Go.Wk Go.Wl Go.Rx Go.Re Go.Li Go.Fo
noncomputable section
def D4(x:Q4):Int:=
 if 0<(x.Span.length:Int)/\0<ix x.Span 0 then ix x.Span 0 else
 if 0<(x.End.length:Int)/\b8 x.Start.Time<b8 (ix x.End 0).Time then b8 (ix x.End 0).Time-b8 x.Start.Time else
 if x.Start.Time.o7=true then 86400 else 0
def a1d(qa:Nat)(m:E6):List V7->Tm×o6
 |[]=>(L4 (b8 m.Time) tmU,.nil)
 |z::r=>if m.D9≠[]/\z.ID=m.D9 then(if(X0 z m.Time).2=.nil then((X0 z m.Time).1,.nil)else((X0 z m.Time).1,.p qa z.ID ((X0 z m.Time).2.num.getD 0)))else a1d qa m r
def A2(qa:Nat)(o:F3)(m:E6):Tm×o6:=a1d qa m o.c9
def Y5(n:Int)(y:Tm):Tm:=L4 (if y.o7=true then(max 0 (min n 315537897599)).tdiv 86400*86400 else max 0 (min n 315537897599)) y
open Classical in
def b7v(o:F3)(x:Q4):Int:=if V8 o/\p9 x.Start.Time=true then D4 x else 0
open Classical in
def a7i(qa:Nat)(o:F3)(m:E6):Tm×o6:=if V8 o/\S0 o.c9 m then((A2 qa o m).1,V9 (A2 qa o m).2)else(tmZ,.no 2)
def L7(o:F3)(t:Tm):Bool:=o.Main.l5.any fun m=>decide (m.Time=t)
def isN:z6:=[105,115]
def a4J(qa:Nat)(s t:Tm):Bool->List Rl->Bool×o6
 |b,[]=>(b,.nil)
 |_,r::l=>if(isP s r t).2=.nil then a4J qa s t (isP s r t).1 l else(false,.p qa isN ((isP s r t).2.num.getD 0))
def N7(qa:Nat)(o:F3)(t:Tm):Bool×o6:=
 let h:=a4J qa o.Main.Start.Time t (decide ((o.Main.b9.length:Int)=0/\t=o.Main.Start.Time)) o.Main.b9
 if h.2=.nil then((h.1 || o.Main.o5.any fun m=>decide (m.Time=t)) && !L7 o t,.nil)else(false,h.2)
def nrL:List Int:=[2500,2500,1200,500,40,3,1]
def c7E{i:Int}(i0:0<=i)(i1:i<=6):0<=ix nrL i/\ix nrL i<=2500:=by
 have h:∀x∈nrL,0<=x/\x<=2500:=by decide
 exact h _ (w5 i0 (by show i<7;omega))
def a4K(f:Int)(s t:Tm):Bool:=decide (p9 s=true->p9 t=true->b8 t-b8 s<=86400*ix nrL (max 0 (min f 6)))
def c8q(z:V7)(t:Tm)(k:Int):Prop:=0<((ix z.E2 k).b9.length:Int)->a4K (ix (ix z.E2 k).b9 0).l6 (ix z.E2 k).Start t=true
def c3M(o:F3)(t:Tm):Bool:=bo (s6 o.c9.length fun j=>s6 (ix o.c9 j).E2.length (c8q (ix o.c9 j) t))
def a4s(x:Q4):List Tm:=x.Start.Time::x.p8.map E6.Time
def a5J(o:F3)(t:Tm):List Tm:=[t,o.Main.Start.Time]++o.Main.o5.map E6.Time++o.Over.flatMap a4s
def lsN(a t:Tm):Tm:=if p9 t=true/\(¬p9 a=true∨b8 a<b8 t)then t else a
def b2F(o:F3)(t:Tm):Tm:=(a5J o t).foldl lsN t
def U5{α:Type}[Inhabited α]{l:List α}{i:Int}(i0:0<=i)(i1:i<l.length):l.take (i+1).toNat=l.take i.toNat++[ix l i]:=by rw[show(i+1).toNat=i.toNat+1 by omega,d6u (by omega),s8 (by omega)]
def b6q(o:F3)(t:Tm):(a5J o t).length=2+o.Main.o5.length+(o.Over.flatMap a4s).length:=by unfold a5J;rw[d4Y,d4Y,d6h];rfl
def a9E(l:List Q4)(n:Nat):((l.take n).flatMap a4s).length<=(l.flatMap a4s).length:=by
 conv=>rhs;rw[<- d7j n l,d8t,d4Y]
 exact d8R _ _
def b1F:∀l:List Q4,l.length<=(l.flatMap a4s).length
 |[]=>d5m _
 |x::r=>by have:=b1F r;rw[d7l,d4Y,d5h];unfold a4s at *;rw[d5h];omega
def teq{a t:Tm}:((a.Day.Year=t.Day.Year/\a.Day.Month=t.Day.Month/\a.Day.Date=t.Day.Date/\True)/\a.Hour=t.Hour/\a.Min=t.Min/\a.D8=t.D8/\(a.o7=true↔t.o7=true)/\(a.UTC=true↔t.UTC=true)/\True)↔a=t:=by
 constructor
 . obtain⟨⟨a1,a2,a3⟩,a4,a5,a6,a7,a8⟩:=a;obtain⟨⟨t1,t2,t3⟩,t4,t5,t6,t7,t8⟩:=t;rintro⟨⟨rfl,rfl,rfl,-⟩,rfl,rfl,rfl,h1,h2,-⟩;obtain rfl:a7=t7:=d6L.2 h1;obtain rfl:a8=t8:=d6L.2 h2;rfl
 . rintro rfl;exact⟨⟨rfl,rfl,rfl,trivial⟩,rfl,rfl,rfl,d7A,d7A,trivial⟩
def b0A{α:Type}[Inhabited α]{l:List α}{p:α->Bool}{j:Int}(j0:0<=j)(j1:j<l.length)(h:p (ix l j)=true):l.any p=true:=d6P.2 ⟨_,w5 j0 j1,h⟩
def b4p{α:Type}[Inhabited α]{l:List α}{p:α->Bool}(h:s6 l.length fun j=>p (ix l j)=false):l.any p=false:=by rw[d8J];intro x hx;rw[(s6.list (p:=fun y=>p y=false)).1 h x hx];exact d5R
def ieq{a t:Ins}:(a.Start=t.Start/\a.End=t.End/\a.l7=t.l7/\(a.Over=true↔t.Over=true)/\True)↔a=t:=by
 constructor
 . obtain⟨a1,a2,a3,a4⟩:=a;obtain⟨t1,t2,t3,t4⟩:=t;rintro⟨rfl,rfl,rfl,h,-⟩;obtain rfl:a4=t4:=d6L.2 h;rfl
 . rintro rfl;exact⟨rfl,rfl,rfl,d7A,trivial⟩
def inB(l:List Ins)(x:Ins):Bool:=l.any fun y=>decide (x=y)
def c7x{α:Type}[Inhabited α]{a b:List α}(hl:a.length=b.length)(h:s6 a.length fun j=>ix a j=ix b j):a=b:=by
 refine d8Q hl fun i h1 h2=>?_;have this:ix a i=ix b i:=h i (by omega) (by omega)
 rwa [s8 (by omega),s8 (by omega)]at this
end
end Go.Qu
namespace Go.Proofs.YtapnoejokajcoaaGreatDoor
open Go Go.Wk Go.Wl Go.Rx Go.Re Go.Li Go.Qu Go.Fo 
attribute [local irreducible] j4
def d0u:Nat->D3:=fun|27=>⟨10,nn,nn⟩|_=>⟨0,nn,nn⟩
def Vqt(e:o6)(Q:o6->Prop):Prop:=
Proofs.YtapnoejokajcoaaGreatDoor.asB e=true/\(bR (e.num.isSome=true) (Q (o6.no (e.num.getD 0))) (Q e))
def pqt(e:o6)(he:asB e=true):Vqt e (fun y0=>y0=V9 e):=by unfold Vqt;exact⟨he,b22,a95⟩
def Nqt:Env:=Ner.kL 27 (rE.c .n) (.err) (fun y=>[asB y.1=true]) (fun y=>V9 y.1)
def Nqt_ok:c8 Nqt:=Ner_ok.kL Tryz.call27 Tryz.func27 (inlHN_ok Ner_ok H0_ok d0u 2) (an:=d0u 27) (fun y ho=>(a9M ho.1)) fun y ho=>kc (pqt y.1 ho.1) (by kernel_rfl)
def c4V:Nat->D3:=fun|47=>⟨53,nn,nn⟩|_=>⟨0,nn,nn⟩
def b26(x:Q4):=b8 (j7 (ix x.End 0).Time)-b8 (j7 x.Start.Time)
def c9m(x:Q4)(Q:Int->Prop):Prop:=
(bR (0<(↑x.Span.length:Int)) ((0:Int)<=0/\0<(↑x.Span.length:Int)/\(c6 (ix x.Span 0)->(bR (0<ix x.Span 0) ((0:Int)<=0/\0<(↑x.Span.length:Int)/\(c6 (ix x.Span 0)->Q (ix x.Span 0))) ((0<(↑x.End.length:Int)->(0:Int)<=0)/\(0<(↑x.End.length:Int)->0<(↑x.End.length:Int))/\(bR (0<(↑x.End.length:Int)/\b8 (j7 x.Start.Time)<b8 (j7 (ix x.End 0).Time)) ((0:Int)<=0/\0<(↑x.End.length:Int)/\c6 (b26 x)/\Q (b26 x)) ((bR (x.Start.Time.o7=true) (Q 86400) (Q 0)))))))) ((bR (0<(↑x.End.length:Int)) ((0<(↑x.End.length:Int)->(0:Int)<=0)/\(0<(↑x.End.length:Int)->0<(↑x.End.length:Int))/\(bR (0<(↑x.End.length:Int)/\b8 (j7 x.Start.Time)<b8 (j7 (ix x.End 0).Time)) ((0:Int)<=0/\0<(↑x.End.length:Int)/\c6 (b26 x)/\Q (b26 x)) ((bR (x.Start.Time.o7=true) (Q 86400) (Q 0))))) ((bR (x.Start.Time.o7=true) (Q 86400) (Q 0))))))
def d4j(x:Q4)  : c9m x (fun y0=>y0=D4 x):=by
 unfold c9m b26;simp only[y8,A9,B5,C7,C6,C8,D0,C5,C3,D2,B9,d4Z];have r0:=y7 x.Start.Time;have r1:=y7 (ix x.End 0).Time;have D:¬(0<(x.Span.length:Int)/\0<ix x.Span 0)->¬(0<(x.End.length:Int)/\b8 x.Start.Time<b8 (ix x.End 0).Time)->(x.Start.Time.o7=true->86400=D4 x)/\(¬x.Start.Time.o7=true->0=D4 x):=fun a b=>⟨fun c=>by unfold D4;rw[if_neg a,if_neg b,if_pos c],fun c=>by unfold D4;rw[if_neg a,if_neg b,if_neg c]⟩;have E:¬(0<(x.Span.length:Int)/\0<ix x.Span 0)->(0<(x.End.length:Int)/\b8 x.Start.Time<b8 (ix x.End 0).Time)->b8 (ix x.End 0).Time-b8 x.Start.Time=D4 x:=fun a b=>by unfold D4;rw[if_neg a,if_pos b]
 refine⟨fun s=>⟨d5o 0,s,fun _=>⟨fun p=>⟨d5o 0,s,fun _=>by unfold D4;rw[if_pos ⟨s,p⟩]⟩,fun p=>?_⟩⟩,fun s=>?_⟩
 . have a:¬(0<(x.Span.length:Int)/\0<ix x.Span 0):=fun e=>p e.2;exact⟨fun _=>d5o 0,fun e=>e,fun b=>⟨d5o 0,b.1,⟨by omega,by omega⟩,E a b⟩,fun b=>D a b⟩
 . have a:¬(0<(x.Span.length:Int)/\0<ix x.Span 0):=fun e=>s e.1;exact⟨fun e=>⟨fun _=>d5o 0,fun e=>e,fun b=>⟨d5o 0,b.1,⟨by omega,by omega⟩,E a b⟩,fun b=>D a b⟩,fun e=>D a fun b=>e b.1⟩
def c7i:Env:=Nqt.kL 47 (r35.c .n) (.int .i64) (fun _=>[]) (fun y=>D4 y.1)
def Nqlo_ok:c8 c7i:=Nqt_ok.kL Tryz.call47 Tryz.func47 (inlHN_ok Nqt_ok H0_ok c4V 2) (an:=c4V 47) (fun _ _=>trivial) fun y ho=>kc (d4j y.1 ) (by kernel_rfl)
def c4U:Nat->D3:=fun|55=>⟨23,nn,nn⟩|_=>⟨0,nn,nn⟩
def a71(n:Int):=bif true then max (0:Int) (bif false then max n (b8 (Tm.mk (Dy.mk 9999 12 31) 0 0 0 false false)+86400-1)else min n (b8 (Tm.mk (Dy.mk 9999 12 31) 0 0 0 false false)+86400-1))else min (0:Int) (bif false then max n (b8 (Tm.mk (Dy.mk 9999 12 31) 0 0 0 false false)+86400-1)else min n (b8 (Tm.mk (Dy.mk 9999 12 31) 0 0 0 false false)+86400-1))
def d0n(n:Int)(y:Tm)(Q:Tm->Prop):Prop:=
c6 (b8 (Tm.mk (Dy.mk 9999 12 31) 0 0 0 false false)+86400)/\c6 (b8 (Tm.mk (Dy.mk 9999 12 31) 0 0 0 false false)+86400-1)/\(bR (y.o7=true) ((86400:Int)≠0/\c6 ((a71 n).tdiv 86400)/\c6 ((a71 n).tdiv (86400:Int)*86400)/\(a71 n).tdiv (86400:Int)*86400<=9000000000000000000/\Q (j7 (L4 ((a71 n).tdiv (86400:Int)*86400) (j7 y)))) ((a71 n)<=9000000000000000000/\Q (j7 (L4 (a71 n) (j7 y)))))
def b7M:b8 (Tm.mk (Dy.mk 9999 12 31) 0 0 0 false false)=315537811200:=by kernel_rfl
def d3j(n:Int)(y:Tm)  : d0n n y (fun y0=>y0=Y5 n y):=by
 unfold d0n a71;simp only[y8,A9,B5,C7,C6,C8,D0,C5,C3,D2,B9,d4Z,b7M,d5r,d5y];have e:(315537811200:Int)+86400-1=315537897599:=by decide
 simp only[e];unfold Y5;have b0:0<=max 0 (min n 315537897599):=by omega
 have b1:max 0 (min n 315537897599)<=315537897599:=by omega
 generalize max 0 (min n 315537897599)=k at *;rw[d5b b0];refine⟨⟨by omega,by omega⟩,⟨by omega,by omega⟩,fun h=>⟨by decide,⟨by omega,by omega⟩,⟨by omega,by omega⟩,by omega,?_⟩,fun h=>⟨by omega,?_⟩⟩
 . rw[if_pos h]
 . rw[if_neg h]
def d1n(n:Int)(y:Tm):Q1 U:=⟨[],[],.agg [.int .i64 (Y5 n y).Day.Year,.int .i64 (Y5 n y).Day.Month,.int .i64 (Y5 n y).Day.Date,.int .i64 (Y5 n y).Hour,.int .i64 (Y5 n y).Min,.int .i64 (Y5 n y).D8,I4 (Y5 n y).o7,I4 (Y5 n y).UTC]⟩
def c7q(a:List (SV U)):Option (Q1 U):=match a with|[.int .i64 n,.agg l_y]=>(y26.bk (.agg l_y)).bind fun y=>some (d1n n y)|_=>none
def d1E:Env:=c7i.B3 55 c7q
def Nqed_ok:c8 d1E:=Nqlo_ok.B3 Tryz.call55 fun(args:List (SV U)) (q:Q1 U) (h:c7q args=some q) ho=>by
 unfold c7q at h;split at h
 . rename_i n l_y;obtain⟨y,hb_y,h⟩:=d5j.1 h;cases h;refine A4.conv (E:=c7i) (args':=[.int .i64 n,.agg [.int .i64 y.Day.Year,.int .i64 y.Day.Month,.int .i64 y.Day.Date,.int .i64 y.Hour,.int .i64 y.Min,.int .i64 y.D8,I4 y.o7,I4 y.UTC]]) (I1 (an:=c4U 55) Nqlo_ok (inlHN_ok Nqlo_ok H0_ok c4U 2) Tryz.func55 (k:=.val 26) ⟨_,_,rfl,rfl,rfl⟩ (kc (d3j n y ) (by kernel_rfl)) 0) fun D w vs hr=>O3 [.int .i64 n,.agg l_y] [.int .i64 n,.agg [.int .i64 y.Day.Year,.int .i64 y.Day.Month,.int .i64 y.Day.Date,.int .i64 y.Hour,.int .i64 y.Min,.int .i64 y.D8,I4 y.o7,I4 y.UTC]] _ ⟨fun _ h=>h,fun _ h=>a1r hb_y h,trivial⟩ hr
 . cases h
def c5Q:Env:=d1E.z7 101 Tryz.f101
def NI101_ok:c8 c5Q:=Nqed_ok.z7 Tryz.call101 Tryz.func101
def c57:Env:=c5Q.z7 141 Tryz.f141
def NI141_ok:c8 c57:=NI101_ok.z7 Tryz.call141 Tryz.func141
def c5C:Env:=c57.z7 102 Tryz.f102
def NI102_ok:c8 c5C:=NI141_ok.z7 Tryz.call102 Tryz.func102
def c4Y:Nat->D3:=fun|59=>⟨10,nn,nn⟩|101=>⟨9,nn,nn⟩|141=>⟨19,fun|2=>some ⟨[0,1,7],[.slot 8 (.int .i64)]⟩|_=>none,nn⟩|102=>⟨8,nn,nn⟩|_=>⟨0,nn,nn⟩
def d1r(o:F3)(t:Tm)(Q:Bool->Prop):Prop:=
∃(I:Int->Prop),∃(m:Int->Nat),I 0/\∀(x:Int),I x->(bR (x<(↑o.Main.l5.length:Int)) (0<=x/\x<(↑o.Main.l5.length:Int)/\(bR (((ix o.Main.l5 x).Time.Day.Year=t.Day.Year/\(ix o.Main.l5 x).Time.Day.Month=t.Day.Month/\(ix o.Main.l5 x).Time.Day.Date=t.Day.Date/\True)/\(ix o.Main.l5 x).Time.Hour=t.Hour/\(ix o.Main.l5 x).Time.Min=t.Min/\(ix o.Main.l5 x).Time.D8=t.D8/\((ix o.Main.l5 x).Time.o7=true↔t.o7=true)/\((ix o.Main.l5 x).Time.UTC=true↔t.UTC=true)/\True) (Q (decide (0<=x))) (c6 (x+1)/\I (x+1)/\m (x+1)<m x))) (Q (decide ((0:Int)<=(-1:Int)))))
def d3S(o:F3)(t:Tm)(hl:(o.Main.l5.length:Int)<=1000000):d1r o t (fun y0=>y0=L7 o t):=by
 unfold d1r;refine⟨fun x=>0<=x/\x<=o.Main.l5.length/\s6 x fun j=>decide ((ix o.Main.l5 j).Time=t)=false,fun x=>((o.Main.l5.length:Int)-x).toNat,⟨by omega,by omega,s6.zero⟩,?_⟩;rintro x ⟨x0,x1,hx⟩;rw[teq];refine⟨fun hi=>⟨x0,hi,fun hd=>?_,fun hd=>⟨⟨by omega,by omega⟩,⟨by omega,by omega,hx.succ (d5q hd)⟩,by dsimp only;omega⟩⟩,fun hi=>?_⟩
 . rw[d5e x0];exact(b0A x0 hi (d5e hd)).symm
 . exact(b4p (l:=o.Main.l5) (p:=fun m:E6=>decide (m.Time=t)) fun j j0 j1=>hx j j0 (by omega)).symm
def d3a:Env:=c5C.kL 59 (r38.c (r26.c .n)) (.bool) (fun y=>[(y.1.Main.l5.length:Int)<=1000000]) (fun y=>L7 y.1 y.2.1)
def Nqou_ok:c8 d3a:=NI102_ok.kL Tryz.call59 Tryz.func59 (inlHN_ok NI102_ok H0_ok c4Y 4) (an:=c4Y 59) (fun _ _=>trivial) fun y ho=>kc (d3S y.1 y.2.1 ho.1) (by kernel_rfl)
def J2(o:F3)(m:E6)(x:Int)(Q:Tm->o6->Prop):Prop:=(X0 (etZ (ix o.c9 x)) (j7 m.Time)).snd=o6.no (X0 (etZ (ix o.c9 x)) (j7 m.Time)).snd.n0/\Q (j7 (X0 (etZ (ix o.c9 x)) (j7 m.Time)).fst) (o6.p 105 (ix o.c9 x).ID (X0 (etZ (ix o.c9 x)) (j7 m.Time)).snd.n0)
def c5y:Nat->D3:=fun|46=>⟨50,fun|2=>some ⟨[3,4,11,12],[.slot 13 (.int .i64),.own 4 [(.int .i64),(.int .i64),(.int .i64),(.int .i64),(.int .i64),(.int .i64),.bool,.bool]]⟩|_=>none,fun|3000007=>some ⟨[],[]⟩|_=>none⟩|_=>⟨0,nn,nn⟩
def d0s(o:F3)(m:E6)(Q:Tm->o6->Prop):Prop:=
∃(I:Int->Int->Int->Int->Int->Int->Int->Bool->Bool->Prop),∃(m_1:Int->Int->Int->Int->Int->Int->Int->Bool->Bool->Nat),I 0 0 0 0 0 0 0 false false/\∀(x x_1 x_2 x_3 x_4 x_5 x_6:Int)(x_7 x_8:Bool),I x x_1 x_2 x_3 x_4 x_5 x_6 x_7 x_8->(bR (x<(↑o.c9.length:Int)) (0<=x/\x<(↑o.c9.length:Int)/\(bR (m.D9≠[]/\(ix o.c9 x).ID=m.D9) (X9 (etZ (ix o.c9 x))/\(bR ((X0 (etZ (ix o.c9 x)) (j7 m.Time)).snd≠o6.nil) ((((((((J2 o m x Q)/\J2 o m x Q)/\J2 o m x Q)/\J2 o m x Q)/\J2 o m x Q)/\(((((J2 o m x Q)/\J2 o m x Q)/\J2 o m x Q)/\J2 o m x Q)/\J2 o m x Q)/\(J2 o m x Q)/\J2 o m x Q)/\((((((J2 o m x Q)/\J2 o m x Q)/\J2 o m x Q)/\J2 o m x Q)/\J2 o m x Q)/\J2 o m x Q)/\((J2 o m x Q)/\J2 o m x Q)/\J2 o m x Q)/\(((((((J2 o m x Q)/\J2 o m x Q)/\J2 o m x Q)/\J2 o m x Q)/\J2 o m x Q)/\(((((J2 o m x Q)/\J2 o m x Q)/\J2 o m x Q)/\J2 o m x Q)/\J2 o m x Q)/\(J2 o m x Q)/\J2 o m x Q)/\((((((J2 o m x Q)/\J2 o m x Q)/\J2 o m x Q)/\J2 o m x Q)/\J2 o m x Q)/\((((J2 o m x Q)/\J2 o m x Q)/\J2 o m x Q)/\J2 o m x Q)/\(((J2 o m x Q)/\J2 o m x Q)/\J2 o m x Q)/\((J2 o m x Q)/\J2 o m x Q)/\J2 o m x Q)/\(((((J2 o m x Q)/\J2 o m x Q)/\J2 o m x Q)/\J2 o m x Q)/\J2 o m x Q)/\((((J2 o m x Q)/\J2 o m x Q)/\J2 o m x Q)/\J2 o m x Q)/\(((J2 o m x Q)/\J2 o m x Q)/\J2 o m x Q)/\((J2 o m x Q)/\J2 o m x Q)/\J2 o m x Q)/\((((((J2 o m x Q)/\J2 o m x Q)/\J2 o m x Q)/\J2 o m x Q)/\J2 o m x Q)/\J2 o m x Q)/\(((((J2 o m x Q)/\J2 o m x Q)/\J2 o m x Q)/\J2 o m x Q)/\J2 o m x Q)/\((((J2 o m x Q)/\J2 o m x Q)/\J2 o m x Q)/\J2 o m x Q)/\(((J2 o m x Q)/\J2 o m x Q)/\J2 o m x Q)/\((J2 o m x Q)/\J2 o m x Q)/\J2 o m x Q) (Q (j7 (X0 (etZ (ix o.c9 x)) (j7 m.Time)).fst) o6.nil))) (c6 (x+1)/\I (x+1) x_1 x_2 x_3 x_4 x_5 x_6 (decide (x_7=true)) (decide (x_8=true))/\m_1 (x+1) x_1 x_2 x_3 x_4 x_5 x_6 (decide (x_7=true)) (decide (x_8=true))<m_1 x x_1 x_2 x_3 x_4 x_5 x_6 x_7 x_8))) (b8 (j7 m.Time)<=9000000000000000000/\Q (j7 (L4 (b8 (j7 m.Time)) (Tm.mk (Dy.mk 0 0 0) 0 0 0 false true))) o6.nil))
def d3g(o:F3)(m:E6)(hf:∀z∈o.c9,X9 z)(hl:(o.c9.length:Int)<=1000000):d0s o m (fun y0 y1=>y0=(A2 105 o m).1/\y1=(A2 105 o m).2):=by
 unfold d0s;refine⟨fun x _ _ _ _ _ _ _ _=>0<=x/\x<=o.c9.length/\a1d 105 m o.c9=a1d 105 m (o.c9.drop x.toNat),fun x _ _ _ _ _ _ _ _=>((o.c9.length:Int)-x).toNat,⟨by omega,by omega,rfl⟩,?_⟩;rintro x _ _ _ _ _ _ _ _ ⟨x0,x1,hx⟩;have rg:=y7 m.Time;simp only[y8,A9,B5,C7,C6,C8,D0,C5,C3,D2,B9,d4Z];have hd:x<o.c9.length->o.c9.drop x.toNat=ix o.c9 x::o.c9.drop (x+1).toNat:=fun hi=>by rw[show(x+1).toNat=x.toNat+1 by omega,s8 (by omega)];exact d6E (by omega)
 have ms:A2 105 o m=a1d 105 m (o.c9.drop x.toNat):=hx;rw[ms];refine⟨fun hi=>⟨x0,hi,fun hc=>⟨hf _ (w5 x0 hi),fun he=>?_,fun he=>?_⟩,fun hc=>⟨⟨by omega,by omega⟩,⟨by omega,by omega,?_⟩,by omega⟩⟩,fun hi=>⟨by omega,?_⟩⟩
 . have T:J2 o m x (fun y0 y1=>y0=(a1d 105 m (o.c9.drop x.toNat)).1/\y1=(a1d 105 m (o.c9.drop x.toNat)).2):=by
     unfold J2;simp only[y8,A9,B5,C7,C6,C8,D0,C5,C3,D2,B9,d4Z];obtain⟨k,hk⟩:=(b1i (ix o.c9 x) m.Time).resolve_left he;rw[hd hi];unfold a1d;rw[if_pos hc,if_neg he,hk];exact⟨rfl,rfl,rfl⟩
   simp only[and_self];exact T
 . have he:=d4S.1 he;rw[hd hi];unfold a1d;rw[if_pos hc,if_pos he];exact⟨rfl,rfl⟩
 . rw[hx,hd hi,a1d,if_neg hc]
 . rw[d6t (by omega),a1d];exact⟨rfl,rfl⟩
def c9X(o:F3)(m:E6)(nx:Nat):CR U:=⟨[(∀z∈o.c9,X9 z),(o.c9.length:Int)<=1000000],[],.F5 [.agg [.int .i64 ((A2 105 o m).1).Day.Year,.int .i64 ((A2 105 o m).1).Day.Month,.int .i64 ((A2 105 o m).1).Day.Date,.int .i64 ((A2 105 o m).1).Hour,.int .i64 ((A2 105 o m).1).Min,.int .i64 ((A2 105 o m).1).D8,I4 ((A2 105 o m).1).o7,I4 ((A2 105 o m).1).UTC],.err ((A2 105 o m).2)],[]⟩
def c70(a:List (SV U))(nx:Nat):Option (CR U):=match a with|[.agg l_o,.agg l_m]=>(y38.bk (.agg l_o)).bind fun o=>(y28.bk (.agg l_m)).bind fun m=>some (c9X o m nx)|_=>none
def d2P:Env:=d3a.a0K 46 c70
def Nqmo_ok:c8 d2P:=Nqou_ok.a0K Tryz.call46 fun(args:List (SV U)) nx (c:CR U) (h:c70 args nx=some c) hp ho=>by
 unfold c70 at h;split at h
 . rename_i l_o l_m;obtain⟨o,hb_o,h⟩:=d5j.1 h;obtain⟨m,hb_m,h⟩:=d5j.1 h;cases h;exact P8.a3O (b:=[.agg [.str o.Kind,.str o.UID,.sl (N:=U) 92 o.c9,.int .i64 o.Main.Start.Time.Day.Year,.int .i64 o.Main.Start.Time.Day.Month,.int .i64 o.Main.Start.Time.Day.Date,.int .i64 o.Main.Start.Time.Hour,.int .i64 o.Main.Start.Time.Min,.int .i64 o.Main.Start.Time.D8,I4 o.Main.Start.Time.o7,I4 o.Main.Start.Time.UTC,.str o.Main.Start.D9,.sl (N:=U) 28 o.Main.End,.sl (N:=U) 3 o.Main.Span,.sl (N:=U) 64 o.Main.b9,.sl (N:=U) 28 o.Main.o5,.sl (N:=U) 28 o.Main.l5,.sl (N:=U) 28 o.Main.p8,.sl (N:=U) 136 o.Main.w6,.sl (N:=U) 86 o.Main.Extra,.sl (N:=U) 35 o.Over,.sl (N:=U) 86 o.Extra],.agg [.int .i64 m.Time.Day.Year,.int .i64 m.Time.Day.Month,.int .i64 m.Time.Day.Date,.int .i64 m.Time.Hour,.int .i64 m.Time.Min,.int .i64 m.Time.D8,I4 m.Time.o7,I4 m.Time.UTC,.str m.D9]]) (c7u (an:=c5y 46) Nqou_ok (inlHN_ok Nqou_ok H0_ok c5y 2) Tryz.func46 (k1:=.val 26) (k2:=.err) rfl rfl (kc (d3g o m ho.1 ho.2.1) (by kernel_rfl))) fun ρ Z w v hr=>O3 [.agg l_o,.agg l_m] [.agg [.str o.Kind,.str o.UID,.sl (N:=U) 92 o.c9,.int .i64 o.Main.Start.Time.Day.Year,.int .i64 o.Main.Start.Time.Day.Month,.int .i64 o.Main.Start.Time.Day.Date,.int .i64 o.Main.Start.Time.Hour,.int .i64 o.Main.Start.Time.Min,.int .i64 o.Main.Start.Time.D8,I4 o.Main.Start.Time.o7,I4 o.Main.Start.Time.UTC,.str o.Main.Start.D9,.sl (N:=U) 28 o.Main.End,.sl (N:=U) 3 o.Main.Span,.sl (N:=U) 64 o.Main.b9,.sl (N:=U) 28 o.Main.o5,.sl (N:=U) 28 o.Main.l5,.sl (N:=U) 28 o.Main.p8,.sl (N:=U) 136 o.Main.w6,.sl (N:=U) 86 o.Main.Extra,.sl (N:=U) 35 o.Over,.sl (N:=U) 86 o.Extra],.agg [.int .i64 m.Time.Day.Year,.int .i64 m.Time.Day.Month,.int .i64 m.Time.Day.Date,.int .i64 m.Time.Hour,.int .i64 m.Time.Min,.int .i64 m.Time.D8,I4 m.Time.o7,I4 m.Time.UTC,.str m.D9]] _ ⟨fun _ h=>a7V hb_o h,fun _ h=>a7p hb_m h,trivial⟩ hr
 . cases h
def c6i:Nat->D3:=fun|17=>⟨17,nn,nn⟩|_=>⟨0,nn,nn⟩
def c9q(o:F3)(x:Q4)(Q:Int->Prop):Prop:=
a11 (Y7 o)/\(bR (¬bo (V8 (Y7 o))=true∨¬p9 (j7 x.Start.Time)=true) (Q 0) (Q (D4 (etI x))))
def d3Z(o:F3)(x:Q4)(hf:a11 o):c9q o x (fun y0=>y0=b7v o x):=by
 unfold c9q;simp only[y8,A9,B5,C7,C6,C8,D0,C5,C3,D2,B9,d4Z];unfold b7v;refine⟨hf,fun h=>?_,fun h=>?_⟩
 . rw[if_neg fun e=>h.elim (fun n=>n (z8.2 e.1)) (fun n=>n e.2)]
 . rw[if_pos ⟨z8.1 (d4S.1 fun e=>h (.inl e)),d4S.1 fun e=>h (.inr e)⟩]
def c9r:Env:=d2P.kL 17 (r38.c (r35.c .n)) (.int .i64) (fun y=>[a11 y.1]) (fun y=>b7v y.1 y.2.1)
def Nqlg_ok:c8 c9r:=Nqmo_ok.kL Tryz.call17 Tryz.func17 (inlHN_ok Nqmo_ok H0_ok c6i 2) (an:=c6i 17) (fun _ _=>trivial) fun y ho=>kc (d3Z y.1 y.2.1 ho.1) (by kernel_rfl)
def d1c:Env:=c9r.z7 45 Tryz.f45
def NI45_ok:c8 d1c:=Nqlg_ok.z7 Tryz.call45 Tryz.func45
def c5g:Nat->D3:=fun|16=>⟨50,nn,nn⟩|40=>⟨9,nn,nn⟩|88=>⟨19,fun|2=>some ⟨[0,1,7],[.slot 8 (.int .i64)]⟩|_=>none,nn⟩|45=>⟨9,nn,nn⟩|_=>⟨0,nn,nn⟩
def a3t(o:F3)(m:E6):=A2 (105:Nat) (Y7 o) (W5 m)
def b1c  := Tm.mk (Dy.mk 0 0 0) 0 0 0 false false
def d2l(o:F3)(m:E6)(Q:Tm->o6->Prop):Prop:=
a11 (Y7 o)/\(bR (¬bo (V8 (Y7 o))=true∨¬p9 (j7 m.Time)=true) (Q b1c (o6.no 2)) ((bR (m.D9≠[]) ((bR (m.Time.o7=true∨m.Time.UTC=true) (Q b1c (o6.no 2)) (∃(I:Int->Prop),∃(m_1:Int->Nat),I 0/\∀(x:Int),I x->(bR (x<(↑o.c9.length:Int)) (0<=x/\x<(↑o.c9.length:Int)/\(bR ((ix o.c9 x).ID=m.D9) ((bR (¬0<=x) (Q b1c (o6.no 2)) ((∀(z:V7),z∈o.c9->X9 z)/\(↑o.c9.length:Int)<=1000000/\asB (a3t o m).snd=true/\Q (j7 (a3t o m).fst) (V9 (a3t o m).snd)))) (c6 (x+1)/\I (x+1)/\m_1 (x+1)<m_1 x))) ((bR (¬(0:Int)<=(-1:Int)) (Q b1c (o6.no 2)) ((∀(z:V7),z∈o.c9->X9 z)/\(↑o.c9.length:Int)<=1000000/\asB (a3t o m).snd=true/\Q (j7 (a3t o m).fst) (V9 (a3t o m).snd)))))))) ((∀(z:V7),z∈o.c9->X9 z)/\(↑o.c9.length:Int)<=1000000/\asB (a3t o m).snd=true/\Q (j7 (a3t o m).fst) (V9 (a3t o m).snd)))))
def b0G(m:E6):∀l:List V7,asB (a1d 105 m l).2=true
 |[]=>rfl
 |z::r=>by
  unfold a1d;split
  . split <;> rfl
  . exact b0G m r
def d3W(o:F3)(m:E6)(hf:a11 o):d2l o m (fun y0 y1=>y0=(a7i 105 o m).1/\y1=(a7i 105 o m).2):=by
 unfold d2l b1c a3t;simp only[y8,A9,B5,C7,C6,C8,D0,C5,C3,D2,B9,d4Z];have hz:=hf.2.2.2.2.2.2.2.1;have hl:=hf.2.2.1;have F:¬(V8 o/\S0 o.c9 m)->tmZ=(a7i 105 o m).1/\o6.no 2=(a7i 105 o m).2:=fun h=>by unfold a7i;rw[if_neg h];exact⟨rfl,rfl⟩
 have G:V8 o/\S0 o.c9 m->(∀z∈o.c9,X9 z)/\(o.c9.length:Int)<=1000000/\asB (A2 105 o m).2=true/\(A2 105 o m).1=(a7i 105 o m).1/\V9 (A2 105 o m).2=(a7i 105 o m).2:=fun h=>⟨hz,by omega,b0G _ _,by unfold a7i;rw[if_pos h],by unfold a7i;rw[if_pos h]⟩;refine⟨hf,fun h=>F fun e=>h.elim (fun n=>n (z8.2 e.1)) (fun n=>n e.2.1),fun h=>?_⟩;have ho:V8 o:=z8.1 (d4S.1 fun e=>h (.inl e));have hr:p9 m.Time=true:=d4S.1 fun e=>h (.inr e);refine⟨fun hn=>⟨fun hb=>F fun e=>?_,fun hb=>?_⟩,fun hn=>G ⟨ho,hr,fun e=>absurd e hn⟩⟩
 . rcases hb with hb|hb
   . rw[(e.2.2 hn).1]at hb;cases hb
   . rw[(e.2.2 hn).2.1]at hb;cases hb
 refine⟨fun x=>0<=x/\x<=o.c9.length/\s6 x fun j=>(ix o.c9 j).ID≠m.D9,fun x=>((o.c9.length:Int)-x).toNat,⟨by omega,by omega,s6.zero⟩,?_⟩;rintro x ⟨x0,x1,hx⟩;refine⟨fun hi=>⟨x0,hi,fun hd=>⟨fun h=>absurd x0 h,fun _=>G ⟨ho,hr,fun _=>⟨d5E _ ▸ fun e=>hb (.inl e),d5E _ ▸ fun e=>hb (.inr e),x,x0,hi,hd⟩⟩⟩,fun hd=>⟨⟨by omega,by omega⟩,⟨by omega,by omega,hx.succ hd⟩,by dsimp only;omega⟩⟩,fun hi=>⟨fun _=>F fun e=>?_,fun h=>absurd (d4S.1 h) (by decide)⟩⟩;obtain⟨j,j0,j1,hj⟩:=(e.2.2 hn).2.2;exact hx j j0 (by omega) hj
def c9z:Env:=d1c.kD 16 (r38.c (r28.c .n)) (.val 26) (.err) (fun y=>[a11 y.1]) (fun y=>((a7i 105 y.1 y.2.1).1:Tm)) (fun y=>((a7i 105 y.1 y.2.1).2:o6))
def Nqmm_ok:c8 c9z:=NI45_ok.kD Tryz.call16 Tryz.func16 (inlHN_ok NI45_ok H0_ok c5g 4) (an:=c5g 16) (fun _=>rfl) fun y ho=>kc (d3W y.1 y.2.1 ho.1) (by kernel_rfl)
def c5S:Env:=c9z.z7 109 Tryz.f109
def NI109_ok:c8 c5S:=Nqmm_ok.z7 Tryz.call109 Tryz.func109
def c5Z:Nat->D3:=fun|64=>⟨63,fun|3=>some ⟨[2,3,25,26],[.slot 6 .bool,.slot 27 (.int .i64)]⟩|_=>none,nn⟩|101=>⟨9,nn,nn⟩|141=>⟨19,fun|2=>some ⟨[0,1,7],[.slot 8 (.int .i64)]⟩|_=>none,nn⟩|109=>⟨8,nn,nn⟩|_=>⟨0,nn,nn⟩
def a6t(o:F3)(x_1:Int)(t:Tm):=isP (j7 o.Main.Start.Time) (M1 (ix o.Main.b9 x_1)) (j7 t)
def d1b(o:F3)(t:Tm)(Q:Bool->o6->Prop):Prop:=
∃(I:Bool->Int->Prop),∃(m:Bool->Int->Nat),I (decide ((↑o.Main.b9.length:Int)=0/\(t.Day.Year=o.Main.Start.Time.Day.Year/\t.Day.Month=o.Main.Start.Time.Day.Month/\t.Day.Date=o.Main.Start.Time.Day.Date/\True)/\t.Hour=o.Main.Start.Time.Hour/\t.Min=o.Main.Start.Time.Min/\t.D8=o.Main.Start.Time.D8/\(t.o7=true↔o.Main.Start.Time.o7=true)/\(t.UTC=true↔o.Main.Start.Time.UTC=true)/\True)) 0/\∀(x:Bool)(x_1:Int),I x x_1->(bR (x_1<(↑o.Main.b9.length:Int)) (0<=x_1/\x_1<(↑o.Main.b9.length:Int)/\(c6 (ix o.Main.b9 x_1).l6->c6 (ix o.Main.b9 x_1).Interval->c6 (ix o.Main.b9 x_1).Count->c6 (ix o.Main.b9 x_1).v8->F9 (M1 (ix o.Main.b9 x_1))=true/\(bR ((a6t o x_1 t).snd≠o6.nil) ((a6t o x_1 t).snd=o6.no (a6t o x_1 t).snd.n0/\Q false (o6.p (105:Nat) ([105,115]:List UInt8) (a6t o x_1 t).snd.n0)) (c6 (x_1+1)/\I (decide ((a6t o x_1 t).fst=true)) (x_1+1)/\m (decide ((a6t o x_1 t).fst=true)) (x_1+1)<m x x_1)))) ((bR (x=true) ((↑o.Main.l5.length:Int)<=1000000/\Q (decide ¬L7 (Y7 o) (j7 t)=true) o6.nil) (∃(I:Int->Prop),∃(m:Int->Nat),I 0/\∀(x:Int),I x->(bR (x<(↑o.Main.o5.length:Int)) (0<=x/\x<(↑o.Main.o5.length:Int)/\(bR (((ix o.Main.o5 x).Time.Day.Year=t.Day.Year/\(ix o.Main.o5 x).Time.Day.Month=t.Day.Month/\(ix o.Main.o5 x).Time.Day.Date=t.Day.Date/\True)/\(ix o.Main.o5 x).Time.Hour=t.Hour/\(ix o.Main.o5 x).Time.Min=t.Min/\(ix o.Main.o5 x).Time.D8=t.D8/\((ix o.Main.o5 x).Time.o7=true↔t.o7=true)/\((ix o.Main.o5 x).Time.UTC=true↔t.UTC=true)/\True) ((0<=x->(↑o.Main.l5.length:Int)<=1000000)/\Q (decide (0<=x/\¬L7 (Y7 o) (j7 t)=true)) o6.nil) (c6 (x+1)/\I (x+1)/\m (x+1)<m x))) (((0:Int)<=(-1:Int)->(↑o.Main.l5.length:Int)<=1000000)/\Q (decide ((0:Int)<=(-1:Int)/\¬L7 (Y7 o) (j7 t)=true)) o6.nil))))))
def d4x(o:F3)(t:Tm)(hf:a2l o.Main):d1b o t (fun y0 y1=>y0=(N7 105 o t).1/\y1=(N7 105 o t).2):=by
 unfold d1b a6t;simp only[y8,A9,B5,C7,C6,C8,D0,C5,C3,D2,B9,d4Z,teq];obtain⟨f1,f2,f3,f4,f5,f6,f7,f8,f9,f10,f11⟩:=hf;have hd:∀i:Int,0<=i->i<o.Main.b9.length->o.Main.b9.drop i.toNat=ix o.Main.b9 i::o.Main.b9.drop (i+1).toNat:=fun i i0 hi=>by rw[show(i+1).toNat=i.toNat+1 by omega,s8 (by omega)];exact d6E (by omega)
 refine⟨fun b i=>0<=i/\i<=o.Main.b9.length/\a4J 105 o.Main.Start.Time t (decide ((o.Main.b9.length:Int)=0/\t=o.Main.Start.Time)) o.Main.b9=a4J 105 o.Main.Start.Time t b (o.Main.b9.drop i.toNat),fun _ i=>((o.Main.b9.length:Int)-i).toNat,⟨by omega,by omega,rfl⟩,?_⟩;rintro b i ⟨i0,i1,hb⟩;refine⟨fun hi=>⟨i0,hi,fun _ _ _ _=>⟨f8 _ (w5 i0 hi),fun he=>?_,fun he=>⟨⟨by omega,by omega⟩,⟨by omega,by omega,?_⟩,by dsimp only;omega⟩⟩⟩,fun hi=>?_⟩
 . obtain⟨k,hk⟩:=(b6A o.Main.Start.Time (ix o.Main.b9 i) t).resolve_left he;have hL:a4J 105 o.Main.Start.Time t (decide ((o.Main.b9.length:Int)=0/\t=o.Main.Start.Time)) o.Main.b9=(false,.p 105 isN k):=by
    rw[hb,hd i i0 hi,a4J,if_neg he,hk];rfl
   have H:N7 105 o t=(false,.p 105 isN k):=by unfold N7;dsimp only;rw[hL,if_neg (fun e=>by cases e)]
   rw[H,hk];exact⟨rfl,rfl,rfl⟩
 . rw[hb,hd i i0 hi,a4J,if_pos (d4S.1 he)]
 . have hL:a4J 105 o.Main.Start.Time t (decide ((o.Main.b9.length:Int)=0/\t=o.Main.Start.Time)) o.Main.b9=(b,.nil):=by
     rw[hb,d6t (by omega)];rfl
   have H:N7 105 o t=((b || o.Main.o5.any fun m=>decide (m.Time=t)) && !L7 o t,.nil):=by unfold N7;dsimp only;rw[hL,if_pos rfl]
   rw[H];refine⟨fun hx=>⟨by omega,?_,rfl⟩,fun hx=>⟨fun x=>0<=x/\x<=o.Main.o5.length/\s6 x fun j=>decide ((ix o.Main.o5 j).Time=t)=false,fun x=>((o.Main.o5.length:Int)-x).toNat,⟨by omega,by omega,s6.zero⟩,?_⟩⟩
   . rw[hx,Bool.true_or,Bool.true_and];cases L7 o t <;> rfl
   rintro x ⟨x0,x1,hx'⟩;refine⟨fun hi2=>⟨x0,hi2,fun hd=>⟨fun _=>by omega,?_,rfl⟩,fun hd=>⟨⟨by omega,by omega⟩,⟨by omega,by omega,hx'.succ (d5q hd)⟩,by dsimp only;omega⟩⟩,fun hi2=>⟨fun h=>by omega,?_,rfl⟩⟩
   . rw[b0A (p:=fun m:E6=>decide (m.Time=t)) x0 hi2 (d5e hd),Bool.or_true,Bool.true_and];cases L7 o t <;> simp[x0]
   . rw[b4p (l:=o.Main.o5) (p:=fun m:E6=>decide (m.Time=t)) fun j j0 j1=>hx' j j0 (by omega),d8G.2 hx];exact d5q fun e=>absurd e.1 (by decide)
def c9u:Env:=c5S.kD 64 (r38.c (r26.c .n)) (.bool) (.err) (fun y=>[a2l y.1.Main]) (fun y=>((N7 105 y.1 y.2.1).1:Bool)) (fun y=>((N7 105 y.1 y.2.1).2:o6))
def Nqha_ok:c8 c9u:=NI109_ok.kD Tryz.call64 Tryz.func64 (inlHN_ok NI109_ok H0_ok c5Z 4) (an:=c5Z 64) (fun _=>rfl) fun y ho=>kc (d4x y.1 y.2.1 ho.1) (by kernel_rfl)
end Go.Proofs.YtapnoejokajcoaaGreatDoor
section
namespace Go.Proofs.YtapnoejokajcoaaGreatDoor
open Go Go.Wk Go.Wl Go.Rx Go.Re Go.Li Go.Qu Go.Fo 
def a9p{p:K8}(h:b3o p=true):A0 p:=by unfold b3o at h;obtain⟨h1,h2⟩:=d5Q h;unfold c6Z at h2;have a1:=K3 p.Value.length;have a2:=K3 p.Name.length;have a3:=K3 p.E4.length;have a4:=a6s (p.Params.take 31);have e:p.Params.take 31=p.Params:=d5z (by omega);rw[e]at h2 a4;have b1:=S4 (n:=p.Value.length) (k:=5000) (by omega) (by decide);have b2:=S4 (n:=p.Name.length) (k:=5000) (by omega) (by decide);have b3:=S4 (n:=p.E4.length) (k:=5000) (by omega) (by decide);refine⟨by omega,by omega,by omega,by omega,fun x hx=>?_⟩;have c:=c29 hx;unfold a8A at c;have c1:=K3 x.Name.length;have c2:=K3 x.p6.length;have c3:=a4D (x.p6.take 31);have d1:=S4 (n:=x.Name.length) (k:=5000) (by omega) (by decide);have d2:=S4 (n:=x.p6.length) (k:=5000) (by omega) (by decide);refine⟨by omega,by omega,fun v hv=>?_⟩;have c4:=b9H hv;have d3:=S4 (n:=v.length) (k:=5000) (by omega) (by decide);omega
attribute [local irreducible] j4
def prS(l:List K8):Nat->Int
 |0=>0
 |n+1=>prS l n+10+(ix l n).Value.length
def a3u(l:List K8):Bool:=bo ((l.length:Int)<=110/\(s6 l.length fun j=>b3o (ix l j)=true)/\prS l l.length<=6000)
def c6g:Nat->D3:=fun|48=>⟨31,fun|5=>some ⟨[0,9],[.slot 3 (.int .i64),.slot 10 (.int .i64)]⟩|_=>none,nn⟩|_=>⟨0,nn,nn⟩
def d1p(l:List K8)(Q:Bool->Prop):Prop:=
(bR (110<(↑l.length:Int)) (Q false) (∃(I:Int->Int->Prop),∃(m:Int->Int->Nat),I 0 0/\∀(x x_1:Int),I x x_1->(bR (x_1<(↑l.length:Int)) (0<=x_1/\x_1<(↑l.length:Int)/\(bR (¬b3o (etP (ix l x_1))=true) (Q false) (c6 (x+10)/\0<=x_1/\x_1<(↑l.length:Int)/\c6 (x+10+(↑(List.length (ix l x_1).Value):Int))/\c6 (x_1+1)/\I (x+10+(↑(List.length (ix l x_1).Value):Int)) (x_1+1)/\m (x+10+(↑(List.length (ix l x_1).Value):Int)) (x_1+1)<m x x_1))) (Q (decide (x<=6000))))))
def d4y(l:List K8)  : d1p l (fun y0=>y0=a3u l):=by
 unfold d1p;simp only[y8,A9,B5,C7,C6,C8,D0,C5,C3,D2,B9,d4Z];refine⟨fun h=>G6 fun e=>by omega,fun h=>?_⟩;refine⟨fun x i=>0<=i/\i<=l.length/\(s6 i fun j=>b3o (ix l j)=true)/\x=prS l i.toNat/\0<=x/\x<=5010*i,fun _ i=>((l.length:Int)-i).toNat,⟨by omega,by omega,s6.zero,rfl,by omega,by omega⟩,?_⟩;rintro x i ⟨i0,i1,hx,hs,s0,s1⟩;refine⟨fun hi=>⟨i0,hi,fun hf=>G6 fun e=>hf (e.2.1 i i0 hi),fun hf=>?_⟩,fun hi=>?_⟩
 . have hf:=d4S.1 hf;have v:=(a9p hf).value;refine⟨⟨by omega,by omega⟩,i0,hi,⟨by omega,by omega⟩,⟨by omega,by omega⟩,⟨by omega,by omega,hx.succ hf,?_,by omega,by omega⟩,by dsimp only;omega⟩;rw[show(i+1).toNat=i.toNat+1 by omega,prS,<- hs,show((i.toNat:Nat):Int)=i by omega]
 . have e:i.toNat=l.length:=by omega
   rw[hs,e];exact a1o ⟨fun q=>⟨by omega,fun j j0 j1=>hx j j0 (by omega),q⟩,fun q=>q.2.2⟩
def d1v:Env:=c9u.kL 48 ((rL 86).c .n) (.bool) (fun _=>[]) (fun y=>a3u y.1)
def Nl3p_ok:c8 d1v:=Nqha_ok.kL Tryz.call48 Tryz.func48 (inlHN_ok Nqha_ok H0_ok c6g 2) (an:=c6g 48) (fun _ _=>trivial) fun y ho=>kc (d4y y.1 ) (by kernel_rfl)
end Go.Proofs.YtapnoejokajcoaaGreatDoor
end
namespace Go.Proofs.YtapnoejokajcoaaGreatDoor
open Go Go.Wk Go.Wl Go.Rx Go.Re Go.Li Go.Qu Go.Fo 
attribute [local irreducible] j4
def c8a(x:Q4)(j:Int):Prop:=(((ix x.w6 j).Action.length:Nat):Int)<=2000/\((ix x.w6 j).Extra.length:Int)<=20/\a3u (ix x.w6 j).Extra=true
def c9R(x:Q4):Prop:=(x.End.length:Int)<=60/\(x.Span.length:Int)<=60/\(x.b9.length:Int)<=5/\(x.o5.length:Int)<=120/\(x.l5.length:Int)<=120/\(x.p8.length:Int)<=60/\(x.w6.length:Int)<=15/\a3u x.Extra=true
def a8x(x:Q4):Bool:=bo (c9R x/\(s6 x.b9.length fun j=>F9 (ix x.b9 j)=true)/\s6 x.w6.length (c8a x))
def c4Q:Nat->D3:=fun|49=>⟨100,fun|10=>some ⟨[1,67],[.slot 68 (.int .i64)]⟩|4=>some ⟨[1,53],[.slot 54 (.int .i64)]⟩|_=>none,nn⟩|_=>⟨0,nn,nn⟩
def c9T(x:Q4)(Q:Bool->Prop):Prop:=
(bR (((((((60<(↑x.End.length:Int)∨60<(↑x.Span.length:Int))∨5<(↑x.b9.length:Int))∨120<(↑x.o5.length:Int))∨120<(↑x.l5.length:Int))∨60<(↑x.p8.length:Int))∨15<(↑x.w6.length:Int))∨¬a3u x.Extra=true) (Q false) (∃(I:Int->Prop),∃(m:Int->Nat),I 0/\∀(x_1:Int),I x_1->(bR (x_1<(↑x.b9.length:Int)) (0<=x_1/\x_1<(↑x.b9.length:Int)/\(c6 (ix x.b9 x_1).l6->c6 (ix x.b9 x_1).Interval->c6 (ix x.b9 x_1).Count->c6 (ix x.b9 x_1).v8->(bR (¬F9 (M1 (ix x.b9 x_1))=true) (Q false) (c6 (x_1+1)/\I (x_1+1)/\m (x_1+1)<m x_1)))) (∃(I:Int->Prop),∃(m:Int->Nat),I 0/\∀(x_2:Int),I x_2->(bR (x_2<(↑x.w6.length:Int)) (0<=x_2/\x_2<(↑x.w6.length:Int)/\(¬2000<(↑(List.length (ix x.w6 x_2).Action):Int)->0<=x_2)/\(¬2000<(↑(List.length (ix x.w6 x_2).Action):Int)->x_2<(↑x.w6.length:Int))/\(¬(2000<(↑(List.length (ix x.w6 x_2).Action):Int)∨20<(↑(ix x.w6 x_2).Extra.length:Int))->0<=x_2)/\(¬(2000<(↑(List.length (ix x.w6 x_2).Action):Int)∨20<(↑(ix x.w6 x_2).Extra.length:Int))->x_2<(↑x.w6.length:Int))/\(bR ((2000<(↑(List.length (ix x.w6 x_2).Action):Int)∨20<(↑(ix x.w6 x_2).Extra.length:Int))∨¬a3u (ix x.w6 x_2).Extra=true) (Q false) (c6 (x_2+1)/\I (x_2+1)/\m (x_2+1)<m x_2))) (Q true))))))
def d3t(x:Q4)  : c9T x (fun y0=>y0=a8x x):=by
 unfold c9T;simp only[y8,A9,B5,C7,C6,C8,D0,C5,C3,D2,B9,d4Z];refine⟨fun h=>G6 fun⟨⟨a,b,c,d,e,f,g,p⟩,_⟩=>?_,fun h=>?_⟩
 . rcases h with((((((h|h)|h)|h)|h)|h)|h)|h
   . omega
   . omega
   . omega
   . omega
   . omega
   . omega
   . omega
   . exact h p
 have g1:c9R x:=⟨d5K.1 fun e=>h (.inl (.inl (.inl (.inl (.inl (.inl (.inl e))))))),d5K.1 fun e=>h (.inl (.inl (.inl (.inl (.inl (.inl (.inr e))))))),d5K.1 fun e=>h (.inl (.inl (.inl (.inl (.inl (.inr e)))))),d5K.1 fun e=>h (.inl (.inl (.inl (.inl (.inr e))))),d5K.1 fun e=>h (.inl (.inl (.inl (.inr e)))),d5K.1 fun e=>h (.inl (.inl (.inr e))),d5K.1 fun e=>h (.inl (.inr e)),d4S.1 fun e=>h (.inr e)⟩;clear h;have l1:=g1.2.2.1;have l2:=g1.2.2.2.2.2.2.1;refine⟨fun k=>0<=k/\k<=x.b9.length/\s6 k fun j=>F9 (ix x.b9 j)=true,fun k=>((x.b9.length:Int)-k).toNat,⟨by omega,by omega,s6.zero⟩,?_⟩;rintro k ⟨k0,k1,hk⟩;refine⟨fun hi=>⟨k0,hi,fun _ _ _ _=>⟨fun h=>G6 fun e=>?_,fun h=>⟨⟨by omega,by omega⟩,⟨by omega,by omega,hk.succ (d4S.1 h)⟩,by dsimp only;omega⟩⟩⟩,fun hi=>?_⟩
 . exact h (e.2.1 k k0 hi)
 have g2:s6 x.b9.length fun j=>F9 (ix x.b9 j)=true:=hk.le (by omega);clear hk k0 k1 hi k;refine⟨fun k=>0<=k/\k<=x.w6.length/\s6 k fun j=>c8a x j,fun k=>((x.w6.length:Int)-k).toNat,⟨by omega,by omega,s6.zero⟩,?_⟩;rintro k ⟨k0,k1,hk⟩;refine⟨fun hi=>⟨k0,hi,fun _=>k0,fun _=>hi,fun _=>k0,fun _=>hi,fun h=>G6 fun e=>?_,fun h=>⟨⟨by omega,by omega⟩,⟨by omega,by omega,hk.succ ⟨d5K.1 fun e=>h (.inl (.inl e)),d5K.1 fun e=>h (.inl (.inr e)),d4S.1 fun e=>h (.inr e)⟩⟩,by dsimp only;omega⟩⟩,fun hi=>?_⟩
 . obtain⟨a,b,c⟩:=e.2.2 k k0 hi;rcases h with(h|h)|h
   . omega
   . omega
   . exact h c
 have g3:s6 x.w6.length fun j=>c8a x j:=hk.le (by omega);clear hk k0 k1 hi k;exact a1p ⟨g1,g2,g3⟩
def d0P:Env:=d1v.kL 49 (r35.c .n) (.bool) (fun _=>[]) (fun y=>a8x y.1)
def Nl3i_ok:c8 d0P:=Nl3p_ok.kL Tryz.call49 Tryz.func49 (inlHN_ok Nl3p_ok H0_ok c4Q 2) (an:=c4Q 49) (fun _ _=>trivial) fun y ho=>kc (d3t y.1 ) (by kernel_rfl)
def c7k(z:V7)(k:Int):Prop:=((ix z.E2 k).b9.length:Int)<=3/\(((ix z.E2 k).Name.length:Nat):Int)<=2000/\(0<((ix z.E2 k).b9.length:Int)->F9 (ix (ix z.E2 k).b9 0)=true)
def b7V(o:F3)(j:Int):Prop:=((ix o.c9 j).E2.length:Int)<=25/\(((ix o.c9 j).ID.length:Nat):Int)<=2000/\s6 (ix o.c9 j).E2.length (c7k (ix o.c9 j))
def ovS(l:List Q4):Nat->Int
 |0=>0
 |n+1=>ovS l n+1+(ix l n).Extra.length+5*(ix l n).w6.length
def b0y(o:F3):Bool:=bo (((o.Kind.length:Int)+o.UID.length<=3000/\(o.c9.length:Int)<=8/\(o.Over.length:Int)<=60/\a3u o.Extra=true/\a8x o.Main=true)/\s6 o.c9.length (b7V o)/\(s6 o.Over.length fun j=>a8x (ix o.Over j)=true)/\ovS o.Over o.Over.length<=300)
def c2C{x:Q4}(h:a8x x=true):(x.Extra.length:Int)<=110/\(x.w6.length:Int)<=15:=by have r:=(z8.1 h).1;exact⟨(z8.1 r.2.2.2.2.2.2.2).1,r.2.2.2.2.2.2.1⟩
def c5T:Nat->D3:=fun|20=>⟨144,fun|18=>some ⟨[1,111],[.slot 6 (.int .i64),.slot 112 (.int .i64)]⟩|4=>some ⟨[1,42],[.slot 43 (.int .i64)]⟩|9=>some ⟨[1,3,42,43,70],[.slot 71 (.int .i64)]⟩|_=>none,nn⟩|_=>⟨0,nn,nn⟩
def N4(o:F3)(x:Int)(x_1:Int):=ix (ix o.c9 x).E2 x_1
def b6c(x:Int)(o:F3)(x_1:Int):=x+1+(↑(ix o.Over x_1).Extra.length:Int)+5*(↑(ix o.Over x_1).w6.length:Int)
def a5u(o:F3)(x:Int)(x_1:Int):=List.length (N4 o x x_1).Name
def c94(o:F3)(Q:Bool->Prop):Prop:=
c6 ((↑(List.length o.Kind):Int)+(↑(List.length o.UID):Int))/\(bR ((((3000<(↑(List.length o.Kind):Int)+(↑(List.length o.UID):Int)∨8<(↑o.c9.length:Int))∨60<(↑o.Over.length:Int))∨¬a3u o.Extra=true)∨¬a8x (etI o.Main)=true) (Q false) (∃(I:Int->Prop),∃(m:Int->Nat),I 0/\∀(x:Int),I x->(bR (x<(↑o.c9.length:Int)) (0<=x/\x<(↑o.c9.length:Int)/\(¬25<(↑(ix o.c9 x).E2.length:Int)->0<=x)/\(¬25<(↑(ix o.c9 x).E2.length:Int)->x<(↑o.c9.length:Int))/\(bR (25<(↑(ix o.c9 x).E2.length:Int)∨2000<(↑(List.length (ix o.c9 x).ID):Int)) (Q false) (0<=x/\x<(↑o.c9.length:Int)/\∃(I_1:Int->Prop),∃(m_1:Int->Nat),I_1 0/\∀(x_1:Int),I_1 x_1->(bR (x_1<(↑(ix o.c9 x).E2.length:Int)) (0<=x/\x<(↑o.c9.length:Int)/\0<=x_1/\x_1<(↑(ix o.c9 x).E2.length:Int)/\(¬(3<(↑(N4 o x x_1).b9.length:Int)∨2000<(↑(a5u o x x_1):Int))/\0<(↑(N4 o x x_1).b9.length:Int)->(0:Int)<=0)/\(¬(3<(↑(N4 o x x_1).b9.length:Int)∨2000<(↑(a5u o x x_1):Int))/\0<(↑(N4 o x x_1).b9.length:Int)->0<(↑(N4 o x x_1).b9.length:Int))/\((¬(3<(↑(N4 o x x_1).b9.length:Int)∨2000<(↑(a5u o x x_1):Int))/\0<(↑(N4 o x x_1).b9.length:Int)->c6 (ix (N4 o x x_1).b9 0).l6)->(¬(3<(↑(N4 o x x_1).b9.length:Int)∨2000<(↑(a5u o x x_1):Int))/\0<(↑(N4 o x x_1).b9.length:Int)->c6 (ix (N4 o x x_1).b9 0).Interval)->(¬(3<(↑(N4 o x x_1).b9.length:Int)∨2000<(↑(a5u o x x_1):Int))/\0<(↑(N4 o x x_1).b9.length:Int)->c6 (ix (N4 o x x_1).b9 0).Count)->(¬(3<(↑(N4 o x x_1).b9.length:Int)∨2000<(↑(a5u o x x_1):Int))/\0<(↑(N4 o x x_1).b9.length:Int)->c6 (ix (N4 o x x_1).b9 0).v8)->(bR ((3<(↑(N4 o x x_1).b9.length:Int)∨2000<(↑(a5u o x x_1):Int))∨0<(↑(N4 o x x_1).b9.length:Int)/\¬F9 (M1 (ix (N4 o x x_1).b9 0))=true) (Q false) (c6 (x_1+1)/\I_1 (x_1+1)/\m_1 (x_1+1)<m_1 x_1)))) (c6 (x+1)/\I (x+1)/\m (x+1)<m x))))) (∃(I:Int->Int->Prop),∃(m:Int->Int->Nat),I 0 0/\∀(x x_1:Int),I x x_1->(bR (x_1<(↑o.Over.length:Int)) (0<=x_1/\x_1<(↑o.Over.length:Int)/\(bR (¬a8x (etI (ix o.Over x_1))=true) (Q false) (c6 (x+1)/\0<=x_1/\x_1<(↑o.Over.length:Int)/\c6 (x+1+(↑(ix o.Over x_1).Extra.length:Int))/\0<=x_1/\x_1<(↑o.Over.length:Int)/\c6 ((5:Int)*(↑(ix o.Over x_1).w6.length:Int))/\c6 (b6c x o x_1)/\c6 (x_1+1)/\I (b6c x o x_1) (x_1+1)/\m (b6c x o x_1) (x_1+1)<m x x_1))) (Q (decide (x<=300))))))))
def d3C(o:F3)(hk:(o.Kind.length:Int)<=140737488355328)(hu:(o.UID.length:Int)<=140737488355328):c94 o (fun y0=>y0=b0y o):=by
 unfold c94 a5u b6c N4;simp only[y8,A9,B5,C7,C6,C8,D0,C5,C3,D2,B9,d4Z];refine⟨⟨by omega,by omega⟩,fun h=>G6 fun⟨⟨a,b,c,d,e⟩,_⟩=>?_,fun h=>?_⟩
 . rcases h with(((h|h)|h)|h)|h
   . omega
   . omega
   . omega
   . exact h d
   . exact h e
 have g1:(o.Kind.length:Int)+o.UID.length<=3000/\(o.c9.length:Int)<=8/\(o.Over.length:Int)<=60/\a3u o.Extra=true/\a8x o.Main=true:=⟨d5K.1 fun e=>h (.inl (.inl (.inl (.inl e)))),d5K.1 fun e=>h (.inl (.inl (.inl (.inr e)))),d5K.1 fun e=>h (.inl (.inl (.inr e))),d4S.1 fun e=>h (.inl (.inr e)),d4S.1 fun e=>h (.inr e)⟩;clear h;have l1:=g1.2.1;have l2:=g1.2.2.1;refine⟨fun x=>0<=x/\x<=o.c9.length/\s6 x (b7V o),fun x=>((o.c9.length:Int)-x).toNat,⟨by omega,by omega,s6.zero⟩,?_⟩;rintro x ⟨x0,x1,hx⟩;refine⟨fun hi=>⟨x0,hi,fun _=>x0,fun _=>hi,fun h=>G6 fun e=>?_,fun h=>⟨x0,hi,?_⟩⟩,fun hi=>?_⟩
 . have z:b7V o x:=e.2.1 x x0 hi;have z1:=z.1;have z2:=z.2.1;omega
 . have z1:((ix o.c9 x).E2.length:Int)<=25:=d5K.1 fun e=>h (.inl e);have z2:(((ix o.c9 x).ID.length:Nat):Int)<=2000:=d5K.1 fun e=>h (.inr e);refine⟨fun k=>0<=k/\k<=(ix o.c9 x).E2.length/\s6 k (c7k (ix o.c9 x)),fun k=>(((ix o.c9 x).E2.length:Int)-k).toNat,⟨by omega,by omega,s6.zero⟩,?_⟩;rintro k ⟨k0,k1,hk'⟩;refine⟨fun hj=>⟨x0,hi,k0,hj,fun _=>d5o 0,fun h=>h.2,fun _ _ _ _=>⟨fun h=>G6 fun e=>?_,fun h=>⟨⟨by omega,by omega⟩,⟨by omega,by omega,hk'.succ ⟨d5K.1 fun e=>h (.inl (.inl e)),d5K.1 fun e=>h (.inl (.inr e)),fun p=>d4S.1 fun e=>h (.inr ⟨p,e⟩)⟩⟩,by dsimp only;omega⟩⟩⟩,fun hj=>⟨⟨by omega,by omega⟩,⟨by omega,by omega,hx.succ ⟨z1,z2,hk'.le (by omega)⟩⟩,by dsimp only;omega⟩⟩;obtain⟨a,b,c⟩:c7k (ix o.c9 x) k:=(show b7V o x from e.2.1 x x0 hi).2.2 k k0 hj;rcases h with(h|h)|h
   . omega
   . omega
   . exact h.2 (c h.1)
 have g2:s6 o.c9.length (b7V o):=hx.le (by omega);clear hx x0 x1 hi x;refine⟨fun s x=>0<=x/\x<=o.Over.length/\(s6 x fun j=>a8x (ix o.Over j)=true)/\s=ovS o.Over x.toNat/\0<=s/\s<=186*x,fun _ x=>((o.Over.length:Int)-x).toNat,⟨by omega,by omega,s6.zero,rfl,by omega,by omega⟩,?_⟩;rintro s x ⟨x0,x1,hx,hs,s0,s1⟩;refine⟨fun hi=>⟨x0,hi,fun h=>G6 fun e=>h (e.2.2.1 x x0 hi),fun h=>?_⟩,fun hi=>?_⟩
 . have h:=d4S.1 h;have q:=c2C h;refine⟨⟨by omega,by omega⟩,x0,hi,⟨by omega,by omega⟩,x0,hi,⟨by omega,by omega⟩,⟨by omega,by omega⟩,⟨by omega,by omega⟩,⟨by omega,by omega,hx.succ h,?_,by omega,by omega⟩,by dsimp only;omega⟩;rw[show(x+1).toNat=x.toNat+1 by omega,ovS,<- hs,show((x.toNat:Nat):Int)=x by omega]
 . have e:x.toNat=o.Over.length:=by omega
   rw[hs,e];exact a1o ⟨fun q=>⟨g1,g2,fun j j0 j1=>hx j j0 (by omega),q⟩,fun q=>q.2.2.2⟩
def d1T:Env:=d0P.kL 20 (r38.c .n) (.bool) (fun y=>[(List.length (α:=UInt8) y.1.Kind:Int)<=140737488355328,(List.length (α:=UInt8) y.1.UID:Int)<=140737488355328]) (fun y=>b0y y.1)
def Nl3f_ok:c8 d1T:=Nl3i_ok.kL Tryz.call20 Tryz.func20 (inlHN_ok Nl3i_ok H0_ok c5T 2) (an:=c5T 20) (fun _ _=>trivial) fun y ho=>kc (d3C y.1 ho.1 ho.2.1) (by kernel_rfl)
def c6l:Nat->D3:=fun|19=>⟨30,nn,nn⟩|_=>⟨0,nn,nn⟩
def b39(f:Int):=bif true then max (0:Int) (bif false then max f 6 else min f 6)else min (0:Int) (bif false then max f 6 else min f 6)
def d2w(f:Int)(s:Tm)(t:Tm)(Q:Bool->Prop):Prop:=
(bR (¬p9 (j7 s)=true∨¬p9 (j7 t)=true) (Q true) ((0<=bif true then max (0:Int) (bif false then max f 6 else min f 6)else min (0:Int) (bif false then max f 6 else min f 6))/\(b39 f)<(↑[(2500:Int),(2500:Int),(1200:Int),(500:Int),(40:Int),(3:Int),(1:Int)].length:Int)/\(c6 (ix [(2500:Int),(2500:Int),(1200:Int),(500:Int),(40:Int),(3:Int),(1:Int)] (b39 f))->c6 (b8 (j7 t)-b8 (j7 s))/\c6 ((86400:Int)*ix [(2500:Int),(2500:Int),(1200:Int),(500:Int),(40:Int),(3:Int),(1:Int)] (b39 f))/\Q (decide (b8 (j7 t)-b8 (j7 s)<=(86400:Int)*ix [(2500:Int),(2500:Int),(1200:Int),(500:Int),(40:Int),(3:Int),(1:Int)] (b39 f))))))
def d4L(f:Int)(s:Tm)(t:Tm)  : d2w f s t (fun y0=>y0=a4K f s t):=by
 unfold d2w b39;simp only[y8,A9,B5,C7,C6,C8,D0,C5,C3,D2,B9,d4Z,d5r,d5y];have r0:=y7 s;have r1:=y7 t;have b0:0<=max 0 (min f 6):=by omega
 have b1:max 0 (min f 6)<=6:=by omega
 have b2:=c7E b0 b1;unfold a4K;refine⟨fun h=>?_,fun h=>⟨b0,by show _<(7:Int);omega,fun _=>⟨⟨by omega,by omega⟩,?_,?_⟩⟩⟩
 . exact(d5e fun a b=>absurd h fun e=>e.elim (fun n=>n a) (fun n=>n b)).symm
 . change c6 (86400*ix nrL _);exact⟨by omega,by omega⟩
 . have a:p9 s=true:=d4S.1 fun e=>h (.inl e);have b:p9 t=true:=d4S.1 fun e=>h (.inr e);exact d5N.2 ⟨fun q _ _=>q,fun q=>q a b⟩
def c9A:Env:=d1T.kL 19 (rI.c (r26.c (r26.c .n))) (.bool) (fun _=>[]) (fun y=>a4K y.1 y.2.1 y.2.2.1)
def Nl4n_ok:c8 c9A:=Nl3f_ok.kL Tryz.call19 Tryz.func19 (inlHN_ok Nl3f_ok H0_ok c6l 2) (an:=c6l 19) (fun _ _=>trivial) fun y ho=>kc (d4L y.1 y.2.1 y.2.2.1 ) (by kernel_rfl)
def c5K:Nat->D3:=fun|21=>⟨51,fun|2=>some ⟨[2,3,10],[.slot 11 (.int .i64)]⟩|5=>some ⟨[2,3,5,10,11,20],[.slot 21 (.int .i64)]⟩|_=>none,nn⟩|_=>⟨0,nn,nn⟩
def a0a(o:F3)(x:Int)(x_1:Int):=ix (ix o.c9 x).E2 x_1
def c9E(o:F3)(t:Tm)(Q:Bool->Prop):Prop:=
∃(I:Int->Prop),∃(m:Int->Nat),I 0/\∀(x:Int),I x->(bR (x<(↑o.c9.length:Int)) (0<=x/\x<(↑o.c9.length:Int)/\∃(I_1:Int->Prop),∃(m_1:Int->Nat),I_1 0/\∀(x_1:Int),I_1 x_1->(bR (x_1<(↑(ix o.c9 x).E2.length:Int)) (0<=x/\x<(↑o.c9.length:Int)/\0<=x_1/\x_1<(↑(ix o.c9 x).E2.length:Int)/\((0<(↑(a0a o x x_1).b9.length:Int)->(0:Int)<=0)/\(0<(↑(a0a o x x_1).b9.length:Int)->0<(↑(a0a o x x_1).b9.length:Int)))/\((0<(↑(a0a o x x_1).b9.length:Int)->c6 (ix (a0a o x x_1).b9 0).l6)->(0<(↑(a0a o x x_1).b9.length:Int)->c6 (ix (a0a o x x_1).b9 0).Interval)->(0<(↑(a0a o x x_1).b9.length:Int)->c6 (ix (a0a o x x_1).b9 0).Count)->(0<(↑(a0a o x x_1).b9.length:Int)->c6 (ix (a0a o x x_1).b9 0).v8)->(bR (0<(↑(a0a o x x_1).b9.length:Int)/\¬a4K (ix (a0a o x x_1).b9 0).l6 (j7 (a0a o x x_1).Start) (j7 t)=true) (Q false) (c6 (x_1+1)/\I_1 (x_1+1)/\m_1 (x_1+1)<m_1 x_1)))) (c6 (x+1)/\I (x+1)/\m (x+1)<m x))) (Q true))
def d3U(o:F3)(t:Tm)(hf:b0y o=true):c9E o t (fun y0=>y0=c3M o t):=by unfold c9E a0a;simp only[y8,A9,B5,C7,C6,C8,D0,C5,C3,D2,B9,d4Z];have fw:=z8.1 hf;have l1:=fw.1.2.1;refine⟨fun x=>0<=x/\x<=o.c9.length/\s6 x fun j=>s6 (ix o.c9 j).E2.length (c8q (ix o.c9 j) t),fun x=>((o.c9.length:Int)-x).toNat,⟨by omega,by omega,s6.zero⟩,?_⟩;rintro x ⟨x0,x1,hx⟩;refine⟨fun hi=>⟨x0,hi,?_⟩,fun hi=>a1p fun j j0 j1=>hx j j0 (by omega)⟩;have l2:((ix o.c9 x).E2.length:Int)<=25:=(show b7V o x from fw.2.1 x x0 hi).1;refine⟨fun k=>0<=k/\k<=(ix o.c9 x).E2.length/\s6 k (c8q (ix o.c9 x) t),fun k=>(((ix o.c9 x).E2.length:Int)-k).toNat,⟨by omega,by omega,s6.zero⟩,?_⟩;rintro k ⟨k0,k1,hk⟩;refine⟨fun hj=>⟨x0,hi,k0,hj,⟨fun _=>d5o 0,fun h=>h⟩,fun _ _ _ _=>⟨fun h=>G6 fun e=>h.2 (e x x0 hi k k0 hj h.1),fun h=>⟨⟨by omega,by omega⟩,⟨by omega,by omega,hk.succ fun p=>d4S.1 fun e=>h ⟨p,e⟩⟩,by dsimp only;omega⟩⟩⟩,fun hj=>⟨⟨by omega,by omega⟩,⟨by omega,by omega,hx.succ (hk.le (by omega))⟩,by dsimp only;omega⟩⟩
def d0S:Env:=c9A.kL 21 (r38.c (r26.c .n)) (.bool) (fun y=>[b0y y.1=true]) (fun y=>c3M y.1 y.2.1)
def Nl4z_ok:c8 d0S:=Nl4n_ok.kL Tryz.call21 Tryz.func21 (inlHN_ok Nl4n_ok H0_ok c5K 2) (an:=c5K 21) (fun _ _=>trivial) fun y ho=>kc (d3U y.1 y.2.1 ho.1) (by kernel_rfl)
def c5k:Nat->D3:=fun|22=>⟨6,nn,nn⟩|_=>⟨0,nn,nn⟩
def c9e(d:Int)(Q:Tm->Prop):Prop:=
Q (Tm.mk (Dy.mk 2000 1 d) 0 0 0 true false)
def d4I(d:Int)  : c9e d (fun y0=>y0=(Tm.mk (Dy.mk 2000 1 d) 0 0 0 true false)):=by unfold c9e;rfl
def c8N:Env:=d0S.kL 22 (rI.c .n) (.val 26) (fun _=>[]) (fun y=>((Tm.mk (Dy.mk 2000 1 y.1) 0 0 0 true false):Tm))
def Nl4d_ok:c8 c8N:=Nl4z_ok.kL Tryz.call22 Tryz.func22 (inlHN_ok Nl4z_ok H0_ok c5k 2) (an:=c5k 22) (fun y ho=>⟨_,_,rfl,rfl,rfl⟩) fun y ho=>kc (d4I y.1 ) (by kernel_rfl)
def c55:Nat->D3:=fun|23=>⟨6,nn,nn⟩|_=>⟨0,nn,nn⟩
def d2X(d:Int)(Q:Tm->Prop):Prop:=
Q (Tm.mk (Dy.mk 2000 1 d) 0 0 0 false true)
def d4D(d:Int)  : d2X d (fun y0=>y0=(Tm.mk (Dy.mk 2000 1 d) 0 0 0 false true)):=by unfold d2X;rfl
def d0C:Env:=c8N.kL 23 (rI.c .n) (.val 26) (fun _=>[]) (fun y=>((Tm.mk (Dy.mk 2000 1 y.1) 0 0 0 false true):Tm))
def Nl4u_ok:c8 d0C:=Nl4d_ok.kL Tryz.call23 Tryz.func23 (inlHN_ok Nl4d_ok H0_ok c55 2) (an:=c55 23) (fun y ho=>⟨_,_,rfl,rfl,rfl⟩) fun y ho=>kc (d4D y.1 ) (by kernel_rfl)
def c4B:Nat->D3:=fun|18=>⟨86,fun|19=>some ⟨[4,12,63,64],[.slot 65 (.int .i64),.own 12 [(.int .i64),(.int .i64),(.int .i64),(.int .i64),(.int .i64),(.int .i64),.bool,.bool]]⟩|8=>some ⟨[3,4,36,37],[.slot 5 (.acc 26),.slot 38 (.int .i64)]⟩|12=>some ⟨[3,4,36,37,38,49,50],[.slot 5 (.acc 26),.slot 51 (.int .i64)]⟩|3=>some ⟨[2,3,4,23,24],[.slot 5 (.acc 26),.slot 25 (.int .i64)]⟩|_=>none,nn⟩|_=>⟨0,nn,nn⟩
def c8X(o:F3)(t:Tm)(Q:Tm->Prop):Prop:=
∃(I:List Tm->Int->Prop),∃(m:List Tm->Int->Nat),I [j7 t,j7 o.Main.Start.Time] 0/\∀(x:List Tm)(x_1:Int),I x x_1->(bR (x_1<(↑o.Main.o5.length:Int)) (0<=x_1/\x_1<(↑o.Main.o5.length:Int)/\(x.length+[j7 (ix o.Main.o5 x_1).Time].length)*(some (56:Nat)).getD (0:Nat)<=140737488355328/\c6 (x_1+1)/\I (x++[j7 (ix o.Main.o5 x_1).Time]) (x_1+1)/\m (x++[j7 (ix o.Main.o5 x_1).Time]) (x_1+1)<m x x_1) (∃(I:List Tm->Int->Prop),∃(m:List Tm->Int->Nat),I x 0/\∀(x:List Tm)(x_2:Int),I x x_2->(bR (x_2<(↑o.Over.length:Int)) (0<=x_2/\x_2<(↑o.Over.length:Int)/\(x.length+[j7 (ix o.Over x_2).Start.Time].length)*(some (56:Nat)).getD (0:Nat)<=140737488355328/\∃(I_1:List Tm->Int->Prop),∃(m_1:List Tm->Int->Nat),I_1 (x++[j7 (ix o.Over x_2).Start.Time]) 0/\∀(x_3:List Tm)(x_4:Int),I_1 x_3 x_4->(bR (x_4<(↑(ix o.Over x_2).p8.length:Int)) (0<=x_4/\x_4<(↑(ix o.Over x_2).p8.length:Int)/\(x_3.length+[j7 (ix (ix o.Over x_2).p8 x_4).Time].length)*(some (56:Nat)).getD (0:Nat)<=140737488355328/\c6 (x_4+1)/\I_1 (x_3++[j7 (ix (ix o.Over x_2).p8 x_4).Time]) (x_4+1)/\m_1 (x_3++[j7 (ix (ix o.Over x_2).p8 x_4).Time]) (x_4+1)<m_1 x_3 x_4) (c6 (x_2+1)/\I x_3 (x_2+1)/\m x_3 (x_2+1)<m x x_2))) (∃(I:Int->Int->Int->Int->Int->Int->Int->Bool->Bool->Prop),∃(m:Int->Int->Int->Int->Int->Int->Int->Bool->Bool->Nat),I 0 t.Day.Year t.Day.Month t.Day.Date t.Hour t.Min t.D8 (decide (t.o7=true)) (decide (t.UTC=true))/\∀(x_3 x_4 x_5 x_6 x_7 x_8 x_9:Int)(x_10 x_11:Bool),I x_3 x_4 x_5 x_6 x_7 x_8 x_9 x_10 x_11->(bR (x_3<(↑x.length:Int)) (0<=x_3/\x_3<(↑x.length:Int)/\(c6 (ix x x_3).Day.Year->c6 (ix x x_3).Day.Month->c6 (ix x x_3).Day.Date->c6 (ix x x_3).Hour->c6 (ix x x_3).Min->c6 (ix x x_3).D8->(bR (p9 (j7 (ix x x_3))=true/\(¬p9 (Tm.mk (Dy.mk x_4 x_5 x_6) x_7 x_8 x_9 (decide (x_10=true)) (decide (x_11=true)))=true∨b8 (Tm.mk (Dy.mk x_4 x_5 x_6) x_7 x_8 x_9 (decide (x_10=true)) (decide (x_11=true)))<b8 (j7 (ix x x_3)))) (c6 (x_3+1)/\I (x_3+1) (ix x x_3).Day.Year (ix x x_3).Day.Month (ix x x_3).Day.Date (ix x x_3).Hour (ix x x_3).Min (ix x x_3).D8 (decide ((ix x x_3).o7=true)) (decide ((ix x x_3).UTC=true))/\m (x_3+1) (ix x x_3).Day.Year (ix x x_3).Day.Month (ix x x_3).Day.Date (ix x x_3).Hour (ix x x_3).Min (ix x x_3).D8 (decide ((ix x x_3).o7=true)) (decide ((ix x x_3).UTC=true))<m x_3 x_4 x_5 x_6 x_7 x_8 x_9 x_10 x_11) (c6 (x_3+1)/\I (x_3+1) x_4 x_5 x_6 x_7 x_8 x_9 (decide (x_10=true)) (decide (x_11=true))/\m (x_3+1) x_4 x_5 x_6 x_7 x_8 x_9 (decide (x_10=true)) (decide (x_11=true))<m x_3 x_4 x_5 x_6 x_7 x_8 x_9 x_10 x_11)))) (Q (Tm.mk (Dy.mk x_4 x_5 x_6) x_7 x_8 x_9 (decide (x_10=true)) (decide (x_11=true)))))))))
def d4q(o:F3)(t:Tm)(hf:((a5J o t).length:Int)<=1000000):c8X o t (fun y0=>y0=b2F o t):=by
 unfold c8X;simp only[y8,A9,B5,C7,C6,C8,D0,C5,C3,D2,B9,d4Z];have hT:=b6q o t;have hO:=b1F o.Over;refine⟨fun l i=>0<=i/\i<=o.Main.o5.length/\l=[t,o.Main.Start.Time]++(o.Main.o5.take i.toNat).map E6.Time/\(l.length:Int)=2+i,fun _ i=>((o.Main.o5.length:Int)-i).toNat,⟨by omega,by omega,rfl,rfl⟩,?_⟩;rintro l i ⟨i0,i1,hl,hn⟩;refine⟨fun hi=>⟨i0,hi,by show(_+1)*56<=_;omega,⟨by omega,by omega⟩,⟨by omega,by omega,?_,?_⟩,by dsimp only;omega⟩,fun hi=>?_⟩
 . rw[U5 i0 hi,d7v,hl,d5x];rfl
 . rw[d4Y];simp only[d6p];omega
 have hL:l=[t,o.Main.Start.Time]++o.Main.o5.map E6.Time:=by rw[hl,d5z (by omega)]
 have hn2:(l.length:Int)=2+o.Main.o5.length:=by omega
 clear hl hn i0 i1 hi i;refine⟨fun k i=>0<=i/\i<=o.Over.length/\k=l++(o.Over.take i.toNat).flatMap a4s,fun _ i=>((o.Over.length:Int)-i).toNat,⟨by omega,by omega,by simp⟩,?_⟩;rintro k i ⟨i0,i1,hk⟩;have hkl:k.length=l.length+((o.Over.take i.toNat).flatMap a4s).length:=by rw[hk,d4Y]
 have tf:=a9E o.Over i.toNat;refine⟨fun hi=>?_,fun hi=>?_⟩
 . have r:=a9E o.Over (i+1).toNat;have e:([ix o.Over i].flatMap a4s).length=1+(ix o.Over i).p8.length:=by simp[a4s];omega
   rw[U5 i0 hi,d8t,d4Y,e]at r;refine⟨i0,hi,by show(_+1)*56<=_;omega,fun q j=>0<=j/\j<=(ix o.Over i).p8.length/\q=(k++[(ix o.Over i).Start.Time])++((ix o.Over i).p8.take j.toNat).map E6.Time/\(q.length:Int)=k.length+1+j,fun _ j=>(((ix o.Over i).p8.length:Int)-j).toNat,⟨by omega,by omega,by simp,by simp⟩,?_⟩;rintro q j ⟨j0,j1,hq,hm⟩;refine⟨fun hj=>⟨j0,hj,by show(_+1)*56<=_;omega,⟨by omega,by omega⟩,⟨by omega,by omega,?_,?_⟩,by dsimp only;omega⟩,fun hj=>⟨⟨by omega,by omega⟩,⟨by omega,by omega,?_⟩,by dsimp only;omega⟩⟩
   . rw[U5 j0 hj,d7v,hq,d5x];rfl
   . rw[d4Y];simp only[d6p];omega
   . have tk:(ix o.Over i).p8.take j.toNat=(ix o.Over i).p8:=d5z (by omega);rw[U5 i0 hi,d8t,hq,hk,tk];simp[a4s]
 have hK:k=a5J o t:=by rw[hk,hL,d5z (by omega)];rfl
 refine⟨fun i a b c d e f g h=>0<=i/\i<=k.length/\Tm.mk (Dy.mk a b c) d e f g h=(k.take i.toNat).foldl lsN t,fun i _ _ _ _ _ _ _ _=>((k.length:Int)-i).toNat,⟨by omega,by omega,rfl⟩,?_⟩;rintro j a b c d e f g h ⟨j0,j1,hs⟩;rw[hs];refine⟨fun hj=>⟨j0,hj,fun _ _ _ _ _ _=>⟨fun hc=>⟨⟨by omega,by omega⟩,⟨by omega,by omega,?_⟩,by dsimp only;omega⟩,fun hc=>⟨⟨by omega,by omega⟩,⟨by omega,by omega,?_⟩,by dsimp only;omega⟩⟩⟩,fun hj=>?_⟩
 . rw[U5 j0 hj,d8H];exact(if_pos hc:lsN ((k.take j.toNat).foldl lsN t) (ix k j)=ix k j).symm
 . rw[U5 j0 hj,d8H,hs];exact(if_neg hc:lsN ((k.take j.toNat).foldl lsN t) (ix k j)=_).symm
 . rw[d5z (by omega),hK];rfl
def c8T:Env:=d0C.kC 18 (r38.c (r26.c .n)) (.val 26) (fun y=>[((a5J y.1 y.2.1).length:Int)<=1000000]) (fun y=>b2F y.1 y.2.1)
def Nl4l_ok:c8 c8T:=Nl4u_ok.kC Tryz.call18 Tryz.func18 (inlHN_ok Nl4u_ok H0_ok c4B 2) (an:=c4B 18) fun y ho=>kc (d4q y.1 y.2.1 ho.1) (by kernel_rfl)
def c2D(o:F3)(t:Tm):Bool:=bo ((s6 o.Main.b9.length fun j=>a4K (ix o.Main.b9 j).l6 o.Main.Start.Time (b2F o t)=true)/\b0y o=true/\c3M o (b2F o t)=true)
def c5l:Nat->D3:=fun|7=>⟨36,fun|3=>some ⟨[2,5,13,14],[.slot 15 (.int .i64)]⟩|_=>none,nn⟩|_=>⟨0,nn,nn⟩
def d1s(o:F3)(t:Tm)(Q:Bool->Prop):Prop:=
(↑(a5J (Y7 o) (j7 t)).length:Int)<=1000000/\∃(I:Int->Prop),∃(m:Int->Nat),I 0/\∀(x:Int),I x->(bR (x<(↑o.Main.b9.length:Int)) (0<=x/\x<(↑o.Main.b9.length:Int)/\(c6 (ix o.Main.b9 x).l6->c6 (ix o.Main.b9 x).Interval->c6 (ix o.Main.b9 x).Count->c6 (ix o.Main.b9 x).v8->(bR (¬a4K (ix o.Main.b9 x).l6 (j7 o.Main.Start.Time) (j7 (b2F (Y7 o) (j7 t)))=true) (Q false) (c6 (x+1)/\I (x+1)/\m (x+1)<m x)))) ((↑(List.length o.Kind):Int)<=140737488355328/\(↑(List.length o.UID):Int)<=140737488355328/\(b0y (Y7 o)=true->b0y (Y7 o)=true)/\Q (decide (b0y (Y7 o)=true/\c3M (Y7 o) (j7 (b2F (Y7 o) (j7 t)))=true))))
def d4v(o:F3)(t:Tm)(hf:((a5J o t).length:Int)<=1000000)(hr:(o.Main.b9.length:Int)<=1000000)(hk:(o.Kind.length:Int)<=140737488355328)(hu:(o.UID.length:Int)<=140737488355328):d1s o t (fun y0=>y0=c2D o t):=by
 unfold d1s;simp only[y8,A9,B5,C7,C6,C8,D0,C5,C3,D2,B9,d4Z];refine⟨hf,?_⟩;refine⟨fun k=>0<=k/\k<=o.Main.b9.length/\s6 k fun j=>a4K (ix o.Main.b9 j).l6 o.Main.Start.Time (b2F o t)=true,fun k=>((o.Main.b9.length:Int)-k).toNat,⟨by omega,by omega,s6.zero⟩,?_⟩;rintro k ⟨k0,k1,hk⟩;refine⟨fun hi=>⟨k0,hi,fun _ _ _ _=>⟨fun h=>G6 fun e=>?_,fun h=>⟨⟨by omega,by omega⟩,⟨by omega,by omega,hk.succ (d4S.1 h)⟩,by dsimp only;omega⟩⟩⟩,fun hi=>?_⟩
 . exact h (e.1 k k0 hi)
 have g1:s6 o.Main.b9.length fun j=>a4K (ix o.Main.b9 j).l6 o.Main.Start.Time (b2F o t)=true:=hk.le (by omega);clear hk k0 k1 hi k;exact⟨hk,hu,fun h=>h,a1o ⟨fun e=>⟨g1,e.1,e.2⟩,fun e=>⟨e.2.1,e.2.2⟩⟩⟩
def d09:Env:=c8T.kC 7 (r38.c (r26.c .n)) (.bool) (fun y=>[((a5J y.1 y.2.1).length:Int)<=1000000,(y.1.Main.b9.length:Int)<=1000000,(List.length (α:=UInt8) y.1.Kind:Int)<=140737488355328,(List.length (α:=UInt8) y.1.UID:Int)<=140737488355328]) (fun y=>c2D y.1 y.2.1)
def Nl4r_ok:c8 d09:=Nl4l_ok.kC Tryz.call7 Tryz.func7 (inlHN_ok Nl4l_ok H0_ok c5l 2) (an:=c5l 7) fun y ho=>kc (d4v y.1 y.2.1 ho.1 ho.2.1 ho.2.2.1 ho.2.2.2.1) (by kernel_rfl)
def c64:Nat->D3:=fun|13=>⟨17,fun|2=>some ⟨[3,7,8],[.slot 9 (.int .i64)]⟩|_=>none,nn⟩|_=>⟨0,nn,nn⟩
def d0Q(l:List Ins)(x:Ins)(Q:Bool->Prop):Prop:=
∃(I:Int->Prop),∃(m:Int->Nat),I 0/\∀(x_1:Int),I x_1->(bR (x_1<(↑l.length:Int)) (0<=x_1/\x_1<(↑l.length:Int)/\(bR (((x.Start.Day.Year=(ix l x_1).Start.Day.Year/\x.Start.Day.Month=(ix l x_1).Start.Day.Month/\x.Start.Day.Date=(ix l x_1).Start.Day.Date/\True)/\x.Start.Hour=(ix l x_1).Start.Hour/\x.Start.Min=(ix l x_1).Start.Min/\x.Start.D8=(ix l x_1).Start.D8/\(x.Start.o7=true↔(ix l x_1).Start.o7=true)/\(x.Start.UTC=true↔(ix l x_1).Start.UTC=true)/\True)/\((x.End.Day.Year=(ix l x_1).End.Day.Year/\x.End.Day.Month=(ix l x_1).End.Day.Month/\x.End.Day.Date=(ix l x_1).End.Day.Date/\True)/\x.End.Hour=(ix l x_1).End.Hour/\x.End.Min=(ix l x_1).End.Min/\x.End.D8=(ix l x_1).End.D8/\(x.End.o7=true↔(ix l x_1).End.o7=true)/\(x.End.UTC=true↔(ix l x_1).End.UTC=true)/\True)/\((x.l7.Day.Year=(ix l x_1).l7.Day.Year/\x.l7.Day.Month=(ix l x_1).l7.Day.Month/\x.l7.Day.Date=(ix l x_1).l7.Day.Date/\True)/\x.l7.Hour=(ix l x_1).l7.Hour/\x.l7.Min=(ix l x_1).l7.Min/\x.l7.D8=(ix l x_1).l7.D8/\(x.l7.o7=true↔(ix l x_1).l7.o7=true)/\(x.l7.UTC=true↔(ix l x_1).l7.UTC=true)/\True)/\(x.Over=true↔(ix l x_1).Over=true)/\True) (Q true) (c6 (x_1+1)/\I (x_1+1)/\m (x_1+1)<m x_1))) (Q false))
def d4w(l:List Ins)(x:Ins)(hl:(l.length:Int)<=1000000):d0Q l x (fun y0=>y0=inB l x):=by
 unfold d0Q;simp only[teq,ieq];refine⟨fun i=>0<=i/\i<=l.length/\s6 i fun j=>decide (x=ix l j)=false,fun i=>((l.length:Int)-i).toNat,⟨by omega,by omega,s6.zero⟩,?_⟩;rintro i ⟨i0,i1,hx⟩;refine⟨fun hi=>⟨i0,hi,fun hd=>?_,fun hd=>⟨⟨by omega,by omega⟩,⟨by omega,by omega,hx.succ (d5q hd)⟩,by dsimp only;omega⟩⟩,fun hi=>?_⟩
 . exact(b0A (p:=fun y:Ins=>decide (x=y)) i0 hi (d5e hd)).symm
 . exact(b4p (l:=l) (p:=fun y:Ins=>decide (x=y)) fun j j0 j1=>hx j j0 (by omega)).symm
def d1u:Env:=d09.kL 13 ((rL 48).c (r48.c .n)) (.bool) (fun y=>[(y.1.length:Int)<=1000000]) (fun y=>inB y.1 y.2.1)
def Nl4i_ok:c8 d1u:=Nl4r_ok.kL Tryz.call13 Tryz.func13 (inlHN_ok Nl4r_ok H0_ok c64 2) (an:=c64 13) (fun _ _=>trivial) fun y ho=>kc (d4w y.1 y.2.1 ho.1) (by kernel_rfl)
def c5P:Nat->D3:=fun|12=>⟨26,fun|4=>some ⟨[0,1],[.slot 5 (.int .i64)]⟩|_=>none,nn⟩|_=>⟨0,nn,nn⟩
def c9b(a:List Ins)(b:List Ins)(Q:Bool->Prop):Prop:=
(bR ((↑a.length:Int)≠(↑b.length:Int)) (Q false) (∃(I:Int->Prop),∃(m:Int->Nat),I 0/\∀(x:Int),I x->(bR (x<(↑a.length:Int)) (0<=x/\x<(↑a.length:Int)/\0<=x/\x<(↑b.length:Int)/\(bR (¬((((ix a x).Start.Day.Year=(ix b x).Start.Day.Year/\(ix a x).Start.Day.Month=(ix b x).Start.Day.Month/\(ix a x).Start.Day.Date=(ix b x).Start.Day.Date/\True)/\(ix a x).Start.Hour=(ix b x).Start.Hour/\(ix a x).Start.Min=(ix b x).Start.Min/\(ix a x).Start.D8=(ix b x).Start.D8/\((ix a x).Start.o7=true↔(ix b x).Start.o7=true)/\((ix a x).Start.UTC=true↔(ix b x).Start.UTC=true)/\True)/\(((ix a x).End.Day.Year=(ix b x).End.Day.Year/\(ix a x).End.Day.Month=(ix b x).End.Day.Month/\(ix a x).End.Day.Date=(ix b x).End.Day.Date/\True)/\(ix a x).End.Hour=(ix b x).End.Hour/\(ix a x).End.Min=(ix b x).End.Min/\(ix a x).End.D8=(ix b x).End.D8/\((ix a x).End.o7=true↔(ix b x).End.o7=true)/\((ix a x).End.UTC=true↔(ix b x).End.UTC=true)/\True)/\(((ix a x).l7.Day.Year=(ix b x).l7.Day.Year/\(ix a x).l7.Day.Month=(ix b x).l7.Day.Month/\(ix a x).l7.Day.Date=(ix b x).l7.Day.Date/\True)/\(ix a x).l7.Hour=(ix b x).l7.Hour/\(ix a x).l7.Min=(ix b x).l7.Min/\(ix a x).l7.D8=(ix b x).l7.D8/\((ix a x).l7.o7=true↔(ix b x).l7.o7=true)/\((ix a x).l7.UTC=true↔(ix b x).l7.UTC=true)/\True)/\((ix a x).Over=true↔(ix b x).Over=true)/\True)) (Q false) (c6 (x+1)/\I (x+1)/\m (x+1)<m x))) (Q true))))
def d3I(a:List Ins)(b:List Ins)(hl:(a.length:Int)<=1000000):c9b a b (fun y0=>y0=bo (a=b)):=by unfold c9b;simp only[teq,ieq];refine⟨fun h=>G6 fun e=>h (by rw[e]),fun h=>?_⟩;have h:a.length=b.length:=Int.ofNat_inj.1 (d4S.1 h);refine⟨fun i=>0<=i/\i<=a.length/\s6 i fun j=>ix a j=ix b j,fun i=>((a.length:Int)-i).toNat,⟨by omega,by omega,s6.zero⟩,?_⟩;rintro i ⟨i0,i1,hx⟩;refine⟨fun hi=>⟨i0,hi,i0,by omega,fun hd=>G6 fun e=>hd (by rw[e]),fun hd=>⟨⟨by omega,by omega⟩,⟨by omega,by omega,hx.succ (d4S.1 hd)⟩,by dsimp only;omega⟩⟩,fun hi=>?_⟩;exact a1p (c7x h fun j j0 j1=>hx j j0 (by omega))
def c9x:Env:=d1u.kL 12 ((rL 48).c ((rL 48).c .n)) (.bool) (fun y=>[(y.1.length:Int)<=1000000]) (fun y=>(bo (y.1=y.2.1):Bool))
def Nr4s_ok:c8 c9x:=Nl4i_ok.kL Tryz.call12 Tryz.func12 (inlHN_ok Nl4i_ok H0_ok c5P 2) (an:=c5P 12) (fun _ _=>trivial) fun y ho=>kc (d3I y.1 y.2.1 ho.1) (by kernel_rfl)
end Go.Proofs.YtapnoejokajcoaaGreatDoor
namespace Go.Qu
open Go Go.Wk Go.Wl Go.Rx Go.Re Go.Li Go.Fo
def a4X(a b:Int):Int:=if a<b then -1 else if b<a then 1 else 0
def a0c(a b:Tm):Int:=a4X (b8 a) (b8 b)
def orI:List Int->Int
 |[]=>0
 |x::r=>if x=0 then orI r else x
def a3F(a b:Ins):Int:=if a0c a.Start b.Start=0 then a0c a.l7 b.l7 else a0c a.Start b.Start
def a74(l:List Tm):List Tm:=l.mergeSort fun x y=>!decide (a0c y x<0)
def a3C(l:List Ins):List Ins:=l.mergeSort fun x y=>!decide (a3F y x<0)
def a8U{a b:Int}:a4X a b=0↔a=b:=by
 unfold a4X;split
 . simp;omega
 . split
   . simp;omega
   . simp;omega
def a0L{a b:Int}:a4X a b<0↔a<b:=by
 unfold a4X;split
 . simp;omega
 . split
   . simp;omega
   . simp;omega
def c1A{l:List Int}{i:Int}(i0:0<=i)(i1:i<l.length):orI (l.drop i.toNat)=if ix l i=0 then orI (l.drop (i+1).toNat)else ix l i:=by rw[show(i+1).toNat=i.toNat+1 by omega,s8 (by omega),d6E (by omega)];rfl
def a2y{α:Type}[DecidableEq α](x:α):List α->List α
 |[]=>[]
 |y::r=>if y=x then a2y x r else y::a2y y r
def ded{α:Type}[DecidableEq α]:List α->List α
 |[]=>[]
 |x::r=>x::a2y x r
section
variable{α:Type}[DecidableEq α]
def a5l(x:α):∀(l:List α)(y:α),a2y x (l++[y])=if y=(x::l).getLast (by simp)then a2y x l else a2y x l++[y]
 |[],y=>by rw[d6a,List.getLast_singleton,a2y,a2y];rfl
 |z::r,y=>by
  rw[d6C,a2y,a2y,List.getLast_cons (by simp)];by_cases h:z=x
  . rw[if_pos h,if_pos h];have e:(z::r).getLast (by simp)=(x::r).getLast (by simp):=by rw[h]
    rw[a5l x r y,e]
  . rw[if_neg h,if_neg h,a5l z r y];split <;> simp
def c1j{l:List α}(h:l≠[])(y:α):ded (l++[y])=if y=l.getLast h then ded l else ded l++[y]:=by
 cases l with
 |nil=>exact absurd rfl h
 |cons x r =>
  rw[d6C,ded,ded,a5l];split <;> simp
def a6Y[Inhabited α]{l:List α}{j:Int}(j0:1<=j)(j1:j<l.length):ded (l.take (j+1).toNat)=if ix l j=ix l (j-1)then ded (l.take j.toNat)else ded (l.take j.toNat)++[ix l j]:=by
 have hne:l.take j.toNat≠[]:=d7H.1 (by rw[d5n];omega);have hl:(l.take j.toNat).getLast hne=ix l (j-1):=by
  have e:(l.take j.toNat).length-1=(j-1).toNat:=by rw[d5n];omega
  rw[List.getLast_eq_getElem,s8 (by omega),d7k];simp only[e]
 rw[U5 (by omega) j1,c1j hne,hl]
def a7Q(x:α):∀l:List α,(a2y x l).length<=l.length
 |[]=>d5m _
 |y::r=>by
  rw[a2y];split
  . have:=a7Q x r;rw[d5h];omega
  . have:=a7Q y r;rw[d5h,d5h];omega
def c4m(l:List α):(ded l).length<=l.length:=by
 cases l with
 |nil=>exact d5m _
 |cons x r=>have:=a7Q x r;rw[ded,d5h,d5h];omega
def b5Z{l:List α}(h:l.length<2):ded l=l:=by
 match l,h with
 |[],_=>rfl
 |[x],_=>rfl
def b2I[Inhabited α]{l:List α}:∀n:Nat,n<=l.length->(∀j:Int,1<=j->j<n->ix l j≠ix l (j-1))->ded (l.take n)=l.take n
 |0,_,_=>by simp[ded]
 |1,h,_=>b5Z (by rw[d5n];omega)
 |n+2,h,hj=>by
  have h1:=b2I (n+1) (by omega) fun j j0 j1=>hj j j0 (by omega);have h2:=a6Y (l:=l) (j:=((n+1:Nat):Int)) (by omega) (by omega);have e:(((n+1:Nat):Int)+1).toNat=n+2:=by omega
  have e':((n+1:Nat):Int).toNat=n+1:=by omega
  rw[e,e',if_neg (hj _ (by omega) (by omega)),h1]at h2;have h3:=U5 (l:=l) (i:=((n+1:Nat):Int)) (by omega) (by omega);rw[e,e']at h3;rw[h2,h3]
end
def take_set{α:Type}{l:List α}{i:Nat}(h:i<l.length)(v:α):(l.set i v).take (i+1)=l.take i++[v]:=by rw[d6u (by rw[d7M];exact h),List.take_set,List.getElem_set_self,List.set_eq_of_length_le (by rw[d5n];omega)]
def a8X{α:Type}[Inhabited α]{l:List α}{i:Nat}{q:Int}(v:α)(q0:0<=q)(q1:q<l.length)(h:q.toNat≠i):ix (l.set i v) q=ix l q:=by rw[s8 (by rw[d7M];omega),s8 (by omega),List.getElem_set_ne (d6l h)]
def a6X{α:Type}{l a b:List α}{k:Nat}(h:k<=l.length):(l.take k++a++b).take k=l.take k:=by rw[d5x,List.take_append_of_le_length (by rw[d5n];omega),List.take_take,Nat.min_self]
end Go.Qu
namespace Go.Proofs.YtapnoejokajcoaaGreatDoor
open Go Go.Wk Go.Wl Go.Rx Go.Re Go.Li Go.Qu Go.Fo 
attribute [local irreducible] j4
def d2u:Nat->D3:=fun|32=>⟨20,nn,nn⟩|68=>⟨6,nn,nn⟩|_=>⟨0,nn,nn⟩
def VcC(a:Int)(b:Int)(Q:Int->Prop):Prop:=
(bR (a≠a) ((bR (b≠b) (Q 0) (Q (-1:Int)))) ((bR (b≠b) (Q 1) ((bR (a<b) (Q (-1:Int)) ((bR (b<a) (Q 1) (Q 0))))))))
def pcC(a:Int)(b:Int)  : VcC a b (fun y0=>y0=a4X a b):=by
 unfold VcC;unfold a4X;refine⟨fun h=>absurd rfl h,fun _=>⟨fun h=>absurd rfl h,fun _=>⟨fun h=>?_,fun h=>⟨fun k=>?_,fun k=>?_⟩⟩⟩⟩
 . rw[if_pos h]
 . rw[if_neg h,if_pos k]
 . rw[if_neg h,if_neg k]
def NcC:Env:=c9x.kL 32 (rI.c (rI.c .n)) (.int .i64) (fun _=>[]) (fun y=>a4X y.1 y.2.1)
def NcC_ok:c8 NcC:=Nr4s_ok.kL Tryz.call32 Tryz.func32 (inlHN_ok Nr4s_ok H0_ok d2u 4) (an:=d2u 32) (fun _ _=>trivial) fun y ho=>kc (pcC y.1 y.2.1 ) (by kernel_rfl)
def d0c:Nat->D3:=fun|61=>⟨10,nn,nn⟩|_=>⟨0,nn,nn⟩
def Vtc(a:Tm)(b:Tm)(Q:Int->Prop):Prop:=
Q (a4X (b8 (j7 a)) (b8 (j7 b)))
def ptc(a:Tm)(b:Tm)  : Vtc a b (fun y0=>y0=a0c a b):=by unfold Vtc;simp only[y8,A9,B5,C7,C6,C8,D0,C5,C3,D2,B9,d4Z];rfl
def Ntc:Env:=NcC.kL 61 (r26.c (r26.c .n)) (.int .i64) (fun _=>[]) (fun y=>a0c y.1 y.2.1)
def Ntc_ok:c8 Ntc:=NcC_ok.kL Tryz.call61 Tryz.func61 (inlHN_ok NcC_ok H0_ok d0c 2) (an:=d0c 61) (fun _ _=>trivial) fun y ho=>kc (ptc y.1 y.2.1 ) (by kernel_rfl)
def d2S:Nat->D3:=fun|31=>⟨18,fun|3=>some ⟨[3,6,7],[.slot 8 (.int .i64)]⟩|_=>none,nn⟩|_=>⟨0,nn,nn⟩
def VcO(l:List Int)(Q:Int->Prop):Prop:=
∃(I:Int->Prop),∃(m:Int->Nat),I 0/\∀(x:Int),I x->(bR (x<(↑l.length:Int)) (0<=x/\x<(↑l.length:Int)/\(c6 (ix l x)->(bR (ix l x≠0) (Q (ix l x)) (c6 (x+1)/\I (x+1)/\m (x+1)<m x)))) (Q 0))
def pcO(l:List Int)(hl:List.length (α:=Int) l<=1000000):VcO l (fun y0=>y0=orI l):=by
 unfold VcO;refine⟨fun x=>0<=x/\x<=List.length (α:=Int) l/\orI l=orI (List.drop (α:=Int) x.toNat l),fun x=>(List.length (α:=Int) l-x).toNat,⟨by omega,by omega,rfl⟩,?_⟩;rintro x ⟨x0,x1,hx⟩;refine⟨fun hi=>⟨x0,hi,fun _=>?_⟩,fun hi=>?_⟩
 . have h:=c1A (l:=l) x0 hi;rw[<- hx]at h;refine⟨fun hn=>?_,fun hn=>⟨⟨by omega,by omega⟩,⟨by omega,by omega,?_⟩,by dsimp only;omega⟩⟩
   . rw[h,if_neg hn]
   . rw[h,if_pos (d4S.1 hn)]
 . have e:List.drop (α:=Int) x.toNat l=[]:=d6t (by omega);rw[hx,e];rfl
def NcO:Env:=Ntc.kL 31 ((rL 3).c .n) (.int .i64) (fun y=>[List.length (α:=Int) y.1<=1000000]) (fun y=>orI y.1)
def NcO_ok:c8 NcO:=Ntc_ok.kL Tryz.call31 Tryz.func31 (inlHN_ok Ntc_ok H0_ok d2S 2) (an:=d2S 31) (fun _ _=>trivial) fun y ho=>kc (pcO y.1 ho.1) (by kernel_rfl)
def c8R:Nat->D3:=fun|30=>⟨21,nn,nn⟩|_=>⟨0,nn,nn⟩
def Vic(a:Ins)(b:Ins)(Q:Int->Prop):Prop:=
[a4X (b8 (j7 a.Start)) (b8 (j7 b.Start)),a4X (b8 (j7 a.l7)) (b8 (j7 b.l7))].length<=1000000/\Q (orI [a4X (b8 (j7 a.Start)) (b8 (j7 b.Start)),a4X (b8 (j7 a.l7)) (b8 (j7 b.l7))])
def pic(a:Ins)(b:Ins)  : Vic a b (fun y0=>y0=a3F a b):=by
 unfold Vic;simp only[y8,A9,B5,C7,C6,C8,D0,C5,C3,D2,B9,d4Z];refine⟨by show 2<=1000000;decide,?_⟩;show orI [a0c a.Start b.Start,a0c a.l7 b.l7]=a3F a b
 unfold a3F;rw[orI,orI,orI];by_cases h:a0c a.Start b.Start=0
 . rw[if_pos h,if_pos h];by_cases k:a0c a.l7 b.l7=0
   . rw[if_pos k,k]
   . rw[if_neg k]
 . rw[if_neg h,if_neg h]
def Nic:Env:=NcO.kL 30 (r48.c (r48.c .n)) (.int .i64) (fun _=>[]) (fun y=>a3F y.1 y.2.1)
def Nic_ok:c8 Nic:=NcO_ok.kL Tryz.call30 Tryz.func30 (inlHN_ok NcO_ok H0_ok c8R 2) (an:=c8R 30) (fun _ _=>trivial) fun y ho=>kc (pic y.1 y.2.1 ) (by kernel_rfl)
def c9O:Nat->D3:=fun|57=>⟨8,nn,nn⟩|_=>⟨0,nn,nn⟩
def VcT(l:List Tm)(Q:List Tm->Prop):Prop:=
(l=[]->Q [])/\(([]:List UInt8).length+l.length)*(some (56:Nat)).getD (0:Nat)<=140737488355328/\Q ([]++l)
def pcT(l:List Tm)(hl:(l.length:Int)<=1000000):VcT l (fun y0=>y0=l):=by unfold VcT;refine⟨fun h=>h.symm,by show(0+l.length)*56<=_;omega,rfl⟩
def NcT:Env:=Nic.kC 57 ((rL 26).c .n) (.acc 26) (fun y=>[(y.1.length:Int)<=1000000]) (fun y=>y.1)
def NcT_ok:c8 NcT:=Nic_ok.kC Tryz.call57 Tryz.func57 (inlHN_ok Nic_ok H0_ok c9O 2) (an:=c9O 57) fun y ho=>kc (pcT y.1 ho.1) (by kernel_rfl)
def c51:Nat->D3:=fun|62=>⟨61,fun|4=>some ⟨[0],[.slot 3 (.int .i64),.cont 0 26]⟩|9=>some ⟨[0,4],[.slot 3 (.int .i64),.slot 5 (.int .i64),.cont 0 26]⟩|_=>none,nn⟩|_=>⟨0,nn,nn⟩
def b6X(x_2:Int)(x_4:List Tm):=List.take ((some x_2).getD 0).toNat x_4++List.replicate (none.getD (↑x_4.length:Int)-(some x_2).getD 0).toNat (Tm.mk (Dy.mk 0 0 0) 0 0 0 false false)++List.drop (((some x_2).getD 0).toNat+(none.getD (↑x_4.length:Int)-(some x_2).getD 0).toNat) x_4
def M7(x_4:List Tm)(x:Int)(x_3:Int):=ix x_4 ((some x).getD (0:Int)+x_3)
def Z9(x_4:List Tm)(x:Int)(x_3:Int):=ix x_4 ((some x).getD (0:Int)+(x_3-1))
def d2q(l:List Tm)(Q:List Tm->Prop):Prop:=
(bR ((↑l.length:Int)<2) (Q l) (∃(I:Int->List Tm->Prop),∃(m:Int->List Tm->Nat),I 1 l/\∀(x:Int)(x_1:List Tm),I x x_1->(bR (x<(↑x_1.length:Int)) (0<=x/\x<(↑x_1.length:Int)/\(c6 (ix x_1 x).Day.Year->c6 (ix x_1 x).Day.Month->c6 (ix x_1 x).Day.Date->c6 (ix x_1 x).Hour->c6 (ix x_1 x).Min->c6 (ix x_1 x).D8->c6 (x-1)/\0<=x-1/\x-1<(↑x_1.length:Int)/\(c6 (ix x_1 (x-1)).Day.Year->c6 (ix x_1 (x-1)).Day.Month->c6 (ix x_1 (x-1)).Day.Date->c6 (ix x_1 (x-1)).Hour->c6 (ix x_1 (x-1)).Min->c6 (ix x_1 (x-1)).D8->(bR (((ix x_1 x).Day.Year=(ix x_1 (x-1)).Day.Year/\(ix x_1 x).Day.Month=(ix x_1 (x-1)).Day.Month/\(ix x_1 x).Day.Date=(ix x_1 (x-1)).Day.Date/\True)/\(ix x_1 x).Hour=(ix x_1 (x-1)).Hour/\(ix x_1 x).Min=(ix x_1 (x-1)).Min/\(ix x_1 x).D8=(ix x_1 (x-1)).D8/\((ix x_1 x).o7=true↔(ix x_1 (x-1)).o7=true)/\((ix x_1 x).UTC=true↔(ix x_1 (x-1)).UTC=true)/\True) (0<=x/\x<=(↑x_1.length:Int)/\∃(I:Int->Int->List Tm->Prop),∃(m:Int->Int->List Tm->Nat),I x 1 x_1/\∀(x_2 x_3:Int)(x_4:List Tm),I x_2 x_3 x_4->(bR (x_3<none.getD (↑x_1.length:Int)-(some x).getD 0) (0<=x_3/\x_3<none.getD (↑x_1.length:Int)-(some x).getD 0/\(c6 (M7 x_4 x x_3).Day.Year->c6 (M7 x_4 x x_3).Day.Month->c6 (M7 x_4 x x_3).Day.Date->c6 (M7 x_4 x x_3).Hour->c6 (M7 x_4 x x_3).Min->c6 (M7 x_4 x x_3).D8->c6 (x_3-1)/\0<=x_3-1/\x_3-1<none.getD (↑x_1.length:Int)-(some x).getD 0/\(c6 (Z9 x_4 x x_3).Day.Year->c6 (Z9 x_4 x x_3).Day.Month->c6 (Z9 x_4 x x_3).Day.Date->c6 (Z9 x_4 x x_3).Hour->c6 (Z9 x_4 x x_3).Min->c6 (Z9 x_4 x x_3).D8->(bR (¬(((M7 x_4 x x_3).Day.Year=(Z9 x_4 x x_3).Day.Year/\(M7 x_4 x x_3).Day.Month=(Z9 x_4 x x_3).Day.Month/\(M7 x_4 x x_3).Day.Date=(Z9 x_4 x x_3).Day.Date/\True)/\(M7 x_4 x x_3).Hour=(Z9 x_4 x x_3).Hour/\(M7 x_4 x x_3).Min=(Z9 x_4 x x_3).Min/\(M7 x_4 x x_3).D8=(Z9 x_4 x x_3).D8/\((M7 x_4 x x_3).o7=true↔(Z9 x_4 x x_3).o7=true)/\((M7 x_4 x x_3).UTC=true↔(Z9 x_4 x x_3).UTC=true)/\True)) (0<=x_3/\x_3<none.getD (↑x_1.length:Int)-(some x).getD 0/\(c6 (M7 x_4 x x_3).Day.Year->c6 (M7 x_4 x x_3).Day.Month->c6 (M7 x_4 x x_3).Day.Date->c6 (M7 x_4 x x_3).Hour->c6 (M7 x_4 x x_3).Min->c6 (M7 x_4 x x_3).D8->0<=x_2/\x_2<(↑x_4.length:Int)/\c6 (x_2+1)/\c6 (x_3+1)/\I (x_2+1) (x_3+1) (x_4.set x_2.toNat (j7 (M7 x_4 x x_3)))/\m (x_2+1) (x_3+1) (x_4.set x_2.toNat (j7 (M7 x_4 x x_3)))<m x_2 x_3 x_4)) (c6 (x_3+1)/\I x_2 (x_3+1) x_4/\m x_2 (x_3+1) x_4<m x_2 x_3 x_4))))) (0<=x_2/\x_2<=(↑x_4.length:Int)/\0<=x_2/\x_2<=(↑(b6X x_2 x_4).length:Int)/\Q (List.take ((some x_2).getD (↑(b6X x_2 x_4).length:Int)-none.getD 0).toNat (b6X x_2 x_4))))) (c6 (x+1)/\I (x+1) x_1/\m (x+1) x_1<m x x_1))))) (Q x_1))))
def d3h(l:List Tm)(hl:(l.length:Int)<=1000000):d2q l (fun y0=>y0=ded (α:=Tm) l):=by
 unfold d2q Z9 M7 b6X;simp only[y8,A9,B5,C7,C6,C8,D0,C5,C3,D2,B9,d4Z,teq,d7C,d8U,d8T];refine⟨fun h=>(b5Z (by omega)).symm,fun h2=>?_⟩;refine⟨fun x k=>1<=x/\x<=l.length/\k=l/\∀j:Int,1<=j->j<x->ix l j≠ix l (j-1),fun x _=>((l.length:Int)-x).toNat,⟨by omega,by omega,rfl,fun j j0 j1=>by omega⟩,?_⟩;rintro x k ⟨x0,x1,hk,hx⟩;rw[hk];have hs:ded (l.take x.toNat)=l.take x.toNat:=b2I x.toNat (by omega) fun j j0 j1=>hx j j0 (by omega);refine⟨fun hi=>⟨by omega,hi,fun _ _ _ _ _ _=>⟨⟨by omega,by omega⟩,by omega,by omega,fun _ _ _ _ _ _=>⟨fun he=>⟨by omega,by omega,?_⟩,fun he=>⟨⟨by omega,by omega⟩,⟨by omega,by omega,rfl,fun j j0 j1=>?_⟩,by dsimp only;omega⟩⟩⟩⟩,fun hi=>?_⟩
 . refine⟨fun k2 j L=>1<=j/\x+j<=l.length/\L.length=l.length/\x<=k2/\k2<=x+j-1/\L.take k2.toNat=ded (l.take (x+j).toNat)/\∀q:Int,x+j-1<=q->q<l.length->ix L q=ix l q,fun _ j _=>((l.length:Int)-(x+j)).toNat,⟨by omega,by omega,rfl,by omega,by omega,?_,fun _ _ _=>rfl⟩,?_⟩
   . rw[a6Y x0 hi,if_pos he,hs]
   rintro k2 j L ⟨j0,j1,hL,k0,k1,ht,hq⟩;refine⟨fun hj=>?_,fun hj=>?_⟩
   . have e1:=hq (x+j) (by omega) (by omega);have e2:=hq (x+(j-1)) (by omega) (by omega);have dt:=a6Y (l:=l) (j:=x+j) (by omega) (by omega);rw[show x+j-1=x+(j-1) by omega,<- e1,<- e2]at dt;refine⟨by omega,hj,fun _ _ _ _ _ _=>⟨⟨by omega,by omega⟩,by omega,by omega,fun _ _ _ _ _ _=>⟨fun hne=>⟨by omega,hj,fun _ _ _ _ _ _=>⟨by omega,by omega,⟨by omega,by omega⟩,⟨by omega,by omega⟩,⟨by omega,by omega,by rw[d7M];exact hL,by omega,by omega,?_,fun q q0 q1=>?_⟩,by dsimp only;omega⟩⟩,fun hne=>⟨⟨by omega,by omega⟩,⟨by omega,by omega,hL,by omega,by omega,?_,fun q q0 q1=>hq q (by omega) q1⟩,by dsimp only;omega⟩⟩⟩⟩
     . rw[show(k2+1).toNat=k2.toNat+1 by omega,take_set (by omega),show x+(j+1)=x+j+1 by omega,dt,if_neg hne,ht]
     . rw[a8X _ (by omega) (by omega) (by omega)];exact hq q (by omega) q1
     . rw[show x+(j+1)=x+j+1 by omega,dt,if_pos (d4S.1 hne),ht]
   . have hl2:l.take (x+j).toNat=l:=d5z (by omega);rw[hl2]at ht;refine⟨by omega,by omega,by omega,?_,?_⟩
     . simp only[d4Y,d5n,d6c,d6N];omega
     . rw[a6X (by omega),ht]
 . by_cases e:j=x
   . rw[e];exact he
   . exact hx j j0 (by omega)
 . have e:l.take x.toNat=l:=d5z (by omega);rw[e]at hs;exact hs.symm
def c9n(l:List Tm):FR U:=b4O NcT [(l.length:Int)<=1000000] [(0,.ac (N:=U) 26 l)] 2 1 [.slot 0 (.acc 26)] (ded (α:=Tm) l,())
def c8G:FC U:=⟨[],[],fun a its=>match a,its with|[.acc 0],[(0,.ac 26 l)]=>some (c9n l)|_,_=>none⟩
def fcmT_ok(args:List (SV U))(its:c7 U)(r:FR U)(h:c8G.C args its=some r)(ho:q9 r.ob):M6 Tryz.prog U eT Gl 62 args its (2*its.length) (fun k=>q9 r.hy->k r.v r.its r.n):=by
 unfold c8G at h;simp only at h;split at h
 . rename_i l;cases h;exact fc_ok (an:=c51 62) NcT_ok (inlHN_ok NcT_ok H0_ok c51 3) Tryz.func62 (n:=1) rfl (vs:=[.slot 0 (.acc 26)]) (X:=(ded (α:=Tm) l,())) rfl (kc (d3h l ho.1) (by kernel_rfl))
 . cases h
def d0a:Env:=(NcT.z7 62 Tryz.f62).a1N 62 c8G
def NcmT_ok:c8 d0a:=(NcT_ok.z7 Tryz.call62 Tryz.func62).a1N Tryz.call62 fcmT_ok
end Go.Proofs.YtapnoejokajcoaaGreatDoor
namespace Go.Proofs
open Go.Shelf
def Tryz.b8t:Go.Shelf.Ren:=⟨fun|6=>60|15=>67|14=>103|28=>118|29=>119|20=>142|21=>143|22=>144|23=>145|24=>146|25=>147|26=>148|27=>149|46=>175|47=>154|48=>155|49=>176|50=>177|57=>199|n=>n,fun|22=>61|24=>26|25=>111|3=>3|39=>120|0=>0|53=>173|55=>175|4=>4|46=>166|45=>165|50=>170|5=>5|9=>9|66=>220|70=>224|76=>250|77=>251|n=>n,fun|n=>n⟩
def Tryz.b6M:Go.Proofs.SlLaysF0.n6 Tryz.prog Tryz.b8t:={
 mixed:=by kernel_rfl
 f6:=⟨Tryz.f60.name,by decide,Tryz.func60.trans (congrArg some (by kernel_rfl))⟩
 f14:=⟨Tryz.f103.name,by decide,Tryz.func103.trans (congrArg some (by kernel_rfl))⟩
 f15:=Tryz.func67.trans (congrArg some (by kernel_rfl))
 f20:=⟨Tryz.f142.name,by decide,Tryz.func142.trans (congrArg some (by kernel_rfl))⟩
 f21:=⟨Tryz.f143.name,by decide,Tryz.func143.trans (congrArg some (by kernel_rfl))⟩
 f22:=⟨Tryz.f144.name,by decide,Tryz.func144.trans (congrArg some (by kernel_rfl))⟩
 f23:=⟨Tryz.f145.name,by decide,Tryz.func145.trans (congrArg some (by kernel_rfl))⟩
 f24:=⟨Tryz.f146.name,by decide,Tryz.func146.trans (congrArg some (by kernel_rfl))⟩
 f25:=⟨Tryz.f147.name,by decide,Tryz.func147.trans (congrArg some (by kernel_rfl))⟩
 f26:=⟨Tryz.f148.name,by decide,Tryz.func148.trans (congrArg some (by kernel_rfl))⟩
 f27:=⟨Tryz.f149.name,by decide,Tryz.func149.trans (congrArg some (by kernel_rfl))⟩
 f28:=Tryz.func118.trans (congrArg some (by kernel_rfl))
 f29:=Tryz.func119.trans (congrArg some (by kernel_rfl))
 f46:=⟨Tryz.f175.name,by decide,Tryz.func175.trans (congrArg some (by kernel_rfl))⟩
 f47:=Tryz.func154.trans (congrArg some (by kernel_rfl))
 f48:=Tryz.func155.trans (congrArg some (by kernel_rfl))
 f49:=⟨Tryz.f176.name,by decide,Tryz.func176.trans (congrArg some (by kernel_rfl))⟩
 f50:=⟨Tryz.f177.name,by decide,Tryz.func177.trans (congrArg some (by kernel_rfl))⟩
 f57:=⟨Tryz.f199.name,by decide,Tryz.func199.trans (congrArg some (by kernel_rfl))⟩
 t0:=Tryz.underlying0
 a0:=Tryz.isAgg0
 z0:=Tryz.sizeOf0
 v0:=Tryz.zeroValue0
 t3:=Tryz.underlying3
 a3:=Tryz.isAgg3
 z3:=Tryz.sizeOf3
 v3:=Tryz.zeroValue3
 t4:=Tryz.underlying4
 a4:=Tryz.isAgg4
 z4:=Tryz.sizeOf4
 v4:=Tryz.zeroValue4
 t5:=Tryz.underlying5
 a5:=Tryz.isAgg5
 z5:=Tryz.sizeOf5
 v5:=Tryz.zeroValue5
 t9:=Tryz.underlying9
 a9:=Tryz.isAgg9
 z9:=Tryz.sizeOf9
 v9:=Tryz.zeroValue9
 t22:=Tryz.underlying61
 a22:=Tryz.isAgg61
 z22:=Tryz.sizeOf61
 v22:=Tryz.zeroValue61
 t25:=Tryz.underlying111
 a25:=Tryz.isAgg111
 z25:=Tryz.sizeOf111
 v25:=Tryz.zeroValue111
 t39:=Tryz.underlying120
 a39:=Tryz.isAgg120
 z39:=Tryz.sizeOf120
 v39:=Tryz.zeroValue120
 t45:=Tryz.underlying165
 a45:=Tryz.isAgg165
 z45:=Tryz.sizeOf165
 v45:=Tryz.zeroValue165
 t46:=Tryz.underlying166
 a46:=Tryz.isAgg166
 z46:=Tryz.sizeOf166
 v46:=Tryz.zeroValue166
 t50:=Tryz.underlying170
 a50:=Tryz.isAgg170
 z50:=Tryz.sizeOf170
 v50:=Tryz.zeroValue170
 t53:=Tryz.underlying173
 a53:=Tryz.isAgg173
 z53:=Tryz.sizeOf173
 v53:=Tryz.zeroValue173
 t55:=Tryz.underlying175
 a55:=Tryz.isAgg175
 z55:=Tryz.sizeOf175
 v55:=Tryz.zeroValue175
 t66:=Tryz.underlying220
 a66:=Tryz.isAgg220
 z66:=Tryz.sizeOf220
 v66:=Tryz.zeroValue220
 t70:=Tryz.underlying224
 a70:=Tryz.isAgg224
 z70:=Tryz.sizeOf224
 v70:=Tryz.zeroValue224
 t76:=Tryz.underlying250
 a76:=Tryz.isAgg250
 z76:=Tryz.sizeOf250
 v76:=Tryz.zeroValue250
 t77:=Tryz.underlying251
 a77:=Tryz.isAgg251
 z77:=Tryz.sizeOf251
 v77:=Tryz.zeroValue251 }
def Tryz.b7X:Go.Shelf.Ren:=⟨fun|6=>29|15=>67|14=>66|28=>118|29=>119|20=>110|21=>111|22=>112|23=>113|24=>114|25=>115|26=>116|27=>117|46=>153|47=>154|48=>155|49=>156|50=>157|57=>179|n=>n,fun|22=>41|24=>48|25=>78|3=>3|39=>120|0=>0|53=>173|55=>175|4=>4|46=>166|45=>165|50=>170|5=>5|9=>9|66=>220|70=>224|76=>250|77=>251|n=>n,fun|n=>n⟩
def Tryz.c5N:Go.Proofs.SlLaysF0.n6 Tryz.prog Tryz.b7X:={
 mixed:=by kernel_rfl
 f6:=⟨Tryz.f29.name,by decide,Tryz.func29.trans (congrArg some (by kernel_rfl))⟩
 f14:=⟨Tryz.f66.name,by decide,Tryz.func66.trans (congrArg some (by kernel_rfl))⟩
 f15:=Tryz.func67.trans (congrArg some (by kernel_rfl))
 f20:=⟨Tryz.f110.name,by decide,Tryz.func110.trans (congrArg some (by kernel_rfl))⟩
 f21:=⟨Tryz.f111.name,by decide,Tryz.func111.trans (congrArg some (by kernel_rfl))⟩
 f22:=⟨Tryz.f112.name,by decide,Tryz.func112.trans (congrArg some (by kernel_rfl))⟩
 f23:=⟨Tryz.f113.name,by decide,Tryz.func113.trans (congrArg some (by kernel_rfl))⟩
 f24:=⟨Tryz.f114.name,by decide,Tryz.func114.trans (congrArg some (by kernel_rfl))⟩
 f25:=⟨Tryz.f115.name,by decide,Tryz.func115.trans (congrArg some (by kernel_rfl))⟩
 f26:=⟨Tryz.f116.name,by decide,Tryz.func116.trans (congrArg some (by kernel_rfl))⟩
 f27:=⟨Tryz.f117.name,by decide,Tryz.func117.trans (congrArg some (by kernel_rfl))⟩
 f28:=Tryz.func118.trans (congrArg some (by kernel_rfl))
 f29:=Tryz.func119.trans (congrArg some (by kernel_rfl))
 f46:=⟨Tryz.f153.name,by decide,Tryz.func153.trans (congrArg some (by kernel_rfl))⟩
 f47:=Tryz.func154.trans (congrArg some (by kernel_rfl))
 f48:=Tryz.func155.trans (congrArg some (by kernel_rfl))
 f49:=⟨Tryz.f156.name,by decide,Tryz.func156.trans (congrArg some (by kernel_rfl))⟩
 f50:=⟨Tryz.f157.name,by decide,Tryz.func157.trans (congrArg some (by kernel_rfl))⟩
 f57:=⟨Tryz.f179.name,by decide,Tryz.func179.trans (congrArg some (by kernel_rfl))⟩
 t0:=Tryz.underlying0
 a0:=Tryz.isAgg0
 z0:=Tryz.sizeOf0
 v0:=Tryz.zeroValue0
 t3:=Tryz.underlying3
 a3:=Tryz.isAgg3
 z3:=Tryz.sizeOf3
 v3:=Tryz.zeroValue3
 t4:=Tryz.underlying4
 a4:=Tryz.isAgg4
 z4:=Tryz.sizeOf4
 v4:=Tryz.zeroValue4
 t5:=Tryz.underlying5
 a5:=Tryz.isAgg5
 z5:=Tryz.sizeOf5
 v5:=Tryz.zeroValue5
 t9:=Tryz.underlying9
 a9:=Tryz.isAgg9
 z9:=Tryz.sizeOf9
 v9:=Tryz.zeroValue9
 t22:=Tryz.underlying41
 a22:=Tryz.isAgg41
 z22:=Tryz.sizeOf41
 v22:=Tryz.zeroValue41
 t25:=Tryz.underlying78
 a25:=Tryz.isAgg78
 z25:=Tryz.sizeOf78
 v25:=Tryz.zeroValue78
 t39:=Tryz.underlying120
 a39:=Tryz.isAgg120
 z39:=Tryz.sizeOf120
 v39:=Tryz.zeroValue120
 t45:=Tryz.underlying165
 a45:=Tryz.isAgg165
 z45:=Tryz.sizeOf165
 v45:=Tryz.zeroValue165
 t46:=Tryz.underlying166
 a46:=Tryz.isAgg166
 z46:=Tryz.sizeOf166
 v46:=Tryz.zeroValue166
 t50:=Tryz.underlying170
 a50:=Tryz.isAgg170
 z50:=Tryz.sizeOf170
 v50:=Tryz.zeroValue170
 t53:=Tryz.underlying173
 a53:=Tryz.isAgg173
 z53:=Tryz.sizeOf173
 v53:=Tryz.zeroValue173
 t55:=Tryz.underlying175
 a55:=Tryz.isAgg175
 z55:=Tryz.sizeOf175
 v55:=Tryz.zeroValue175
 t66:=Tryz.underlying220
 a66:=Tryz.isAgg220
 z66:=Tryz.sizeOf220
 v66:=Tryz.zeroValue220
 t70:=Tryz.underlying224
 a70:=Tryz.isAgg224
 z70:=Tryz.sizeOf224
 v70:=Tryz.zeroValue224
 t76:=Tryz.underlying250
 a76:=Tryz.isAgg250
 z76:=Tryz.sizeOf250
 v76:=Tryz.zeroValue250
 t77:=Tryz.underlying251
 a77:=Tryz.isAgg251
 z77:=Tryz.sizeOf251
 v77:=Tryz.zeroValue251 }
open Go.RowKit Go.Lib Go.Sort in
def Tryz.b4F{α:Type}[Inhabited α](k:Nat)(aE:∀w,(isAgg 26).run Tryz.prog w=.ok true w)(zE:∀w,(Go.sizeOf 26).run Tryz.prog w=.ok k w)(enc:α->List Value)(hk:∀x,(enc x).length=k)(h1:∀x,∀v∈enc x,v.oneCell'=true)(cf:α->α->Int)(hO:SWO (ltOf cf))(g:Nat)(cb:Array Value)(blk off cap:Nat)(d:Array α)(w:World)
  (eg:∀args w,(callFunc g args).run Tryz.prog w=.ok (.enter g args) w) (hcmp:CmpLays Tryz.prog g cb enc k cf blk off d.size w) (hH:HoldsK enc k w blk off d) (hblk:blk<w.heap.size) (hsz:d.size<4611686018427387904) (hT:∀x y,(ltOf cf) x y=false->(ltOf cf) y x=false->x=y) :
  Calls Tryz.prog 60 #[.slice (some ⟨blk,off,none⟩) d.size cap,.func (.func g) #[] cb] w fun e w'=>e=.returned (.tuple #[])/\∃n os,w'=sortWorldK enc k w blk off n (d.toList.mergeSort fun x y=>!(ltOf cf) y x).toArray os:=AnyQ.slices_SortFunc_total Tryz.b6M k aE zE enc hk h1 cf hO g cb blk off cap d w eg hcmp hH hblk hsz hT
open Go.RowKit Go.Lib Go.Sort in
def Tryz.b1d(p:Option Addr)(cap:Nat)(fv:Value)(w:World):Calls Tryz.prog 60 #[.slice p 0 cap,fv] w fun e w'=>e=.returned (.tuple #[])/\w'=w:=AnyF.slices_SortFunc_none { Tryz.b6M with } p cap fv w
open Go.RowKit Go.Lib Go.Sort in
def Tryz.b4n{α:Type}[Inhabited α](k:Nat)(aE:∀w,(isAgg 48).run Tryz.prog w=.ok true w)(zE:∀w,(Go.sizeOf 48).run Tryz.prog w=.ok k w)(enc:α->List Value)(hk:∀x,(enc x).length=k)(h1:∀x,∀v∈enc x,v.oneCell'=true)(cf:α->α->Int)(hO:SWO (ltOf cf))(g:Nat)(cb:Array Value)(blk off cap:Nat)(d:Array α)(w:World)
  (eg:∀args w,(callFunc g args).run Tryz.prog w=.ok (.enter g args) w) (hcmp:CmpLays Tryz.prog g cb enc k cf blk off d.size w) (hH:HoldsK enc k w blk off d) (hblk:blk<w.heap.size) (hsz:d.size<4611686018427387904) (hT:∀x y,(ltOf cf) x y=false->(ltOf cf) y x=false->x=y) :
  Calls Tryz.prog 29 #[.slice (some ⟨blk,off,none⟩) d.size cap,.func (.func g) #[] cb] w fun e w'=>e=.returned (.tuple #[])/\∃n os,w'=sortWorldK enc k w blk off n (d.toList.mergeSort fun x y=>!(ltOf cf) y x).toArray os:=AnyQ.slices_SortFunc_total Tryz.c5N k aE zE enc hk h1 cf hO g cb blk off cap d w eg hcmp hH hblk hsz hT
open Go.RowKit Go.Lib Go.Sort in
def Tryz.b2Z(p:Option Addr)(cap:Nat)(fv:Value)(w:World):Calls Tryz.prog 29 #[.slice p 0 cap,fv] w fun e w'=>e=.returned (.tuple #[])/\w'=w:=AnyF.slices_SortFunc_none { Tryz.c5N with } p cap fv w
end Go.Proofs
section
namespace Go.Wk
open Go
def b3H{α:Type}:∀(a:Ask α)(w:World),w.drawn<=(w.ask a).2.drawn
 |.done a,w=>d5m _
 |.ask what range k,w=>by
  unfold World.ask;simp only;split
  . exact b3H (k 0) w
  . exact d5f (Nat.le_succ _) (b3H (k _) { w with drawn:=w.drawn+1 })
def b9q(w:World)(c:Sys):w.drawn<=(w.sys c).2.drawn:=by
 unfold World.sys;have h:=b3H (Kernel.perform c w.os) w;split
 . exact d5m _
 . rename_i r os w' _ e;rw[e]at h;exact h
def b2A{p:Program}{w w':World}{a:Addr}{v:Value}{m:Bool}{l:List Addr}(h:w.farStore p a v m=.ok (w',l)):w'.drawn=w.drawn:=by
 unfold World.farStore at h;split at h
 . split at h
   . rename_i r hr;cases h;unfold World.viewStore at hr;simp only[bind,Except.bind,pure,Except.pure,throw,throwThe,MonadExceptOf.throw]at hr
     repeat' split at hr
     all_goals first
      |cases hr;done
      |(cases hr;rfl)
   . cases h
 . cases h
def rwd{α:Type}:Result α->Nat
 |.ok _ w=>w.drawn
 |.halt _ w=>w.drawn
def J1{α:Type}(p:Program):∀(s:Sem α)(w:World),w.drawn<=rwd (s.run p w)
 |.pure a,w=>d5m _
 |.load m a k,w=>by
  unfold Sem.run;split
  . exact J1 p (k _) w
  . split
    . exact J1 p (k _) w
    . exact d5m _
 |.store m a v k,w=>by
  cases v
  case agg=>exact d5m _
  case tuple=>exact d5m _
  all_goals
   simp only[Sem.run];split
   . split
     . exact d5m _
     . exact J1 p k (w.setCell a _)
   . split
     . rename_i e;exact d5f (d8S (b2A e).symm) (J1 p k _)
     . exact d5m _
 |.new o k,w=>J1 p (k w.heap.size) { w with heap:=w.heap.push o }
 |.shape r k,w=>J1 p (k _) w
 |.freeze a n k,w=>by
  have:(w.freeze a n).drawn=w.drawn:=by unfold World.freeze;split <;> rfl
  exact d5f (d8S this.symm) (J1 p k _)
 |.frozen a k,w=>J1 p (k _) w
 |.getObj r k,w=>by
  unfold Sem.run;split
  . exact d5m _
  . exact J1 p (k _) w
  . exact d5m _
 |.setObj r o k,w=>by
  unfold Sem.run;split
  . exact d5m _
  . exact J1 p k { w with heap:=w.heap.setIfInBounds r o }
  . exact d5m _
 |.choose q k,w=>by
  unfold Sem.run;split
  . exact J1 p (k _) w
  . exact d5f (Nat.le_succ _) (J1 p (k _) { w with drawn:=w.drawn+1 })
 |.sys c k,w=>d5f (b9q w c) (J1 p (k _) _)
 |.program k,w=>J1 p (k _) w
 |.mark m k,w=>J1 p k w
 |.halt h,w=>d5m _
def run_ok{α:Type}{p:Program}{s:Sem α}{w w':World}{v:α}(h:s.run p w=.ok v w'):w.drawn<=w'.drawn:=by have:=J1 p s w;rw[h]at this;exact this
def run_halt{α:Type}{p:Program}{s:Sem α}{w w':World}{v:Halt}(h:s.run p w=.halt v w'):w.drawn<=w'.drawn:=by have:=J1 p s w;rw[h]at this;exact this
def b16{α:Type}{p:Program}{s:Sem α}{w:World}{es es':Array Event}{r:Result α}(h:s.runT p w es=(r,es')):w.drawn<=rwd r:=by have:=J1 p s w;rw[<- Sem.runT_fst p s w es,h]at this;exact this
def c0L{α:Type}(p:Program)(s:Sem α)(w:World)(es:Array Event):w.drawn<=rwd (s.runT p w es).1:=by rw[Sem.runT_fst];exact J1 p s w
def runT_ok{α:Type}{p:Program}{s:Sem α}{w w':World}{es:Array Event}{v:α}(h:(s.runT p w es).1=.ok v w'):w.drawn<=w'.drawn:=by have:=c0L p s w es;rw[h]at this;exact this
def a9r{α:Type}{p:Program}{s:Sem α}{w w':World}{es:Array Event}{v:Halt}(h:(s.runT p w es).1=.halt v w'):w.drawn<=w'.drawn:=by have:=c0L p s w es;rw[h]at this;exact this
def gwd:GStep->Nat
 |.go _ w _=>w.drawn
 |.comm _ _ _ _ w _=>w.drawn
 |.spawn _ _ w _=>w.drawn
 |.count _ w _=>w.drawn
 |.timer _ _ w _=>w.drawn
 |.alone _ _ w _=>w.drawn
 |.newcoro _ _ _ w _=>w.drawn
 |.coroswitch _ _ _ w _=>w.drawn
 |.collect _ w _=>w.drawn
 |.watch _ w _=>w.drawn
 |.ended _ w _=>w.drawn
def U3(es:Array Event)(s:GStep):gwd (s.after es)=gwd s:=by cases s <;> rfl
variable{p:Program}{fr:Frame}{callers:List Frame}{dying:Option Dying}{w:World}{d:Nat}
def a2V{c:Prop}[Decidable c]{a b:GStep}(ha:d<=gwd a)(hb:d<=gwd b):d<=gwd (if c then a else b):=by split <;> assumption
def a2w{main:Bool}{v:Value}(h:d<=w.drawn):d<=gwd (doReturn p main fr callers dying v w):=by
 unfold doReturn
 repeat' split
 all_goals exact h
def a7M{fd:Nat}{t:ByteArray}{o:Outcome}(h:d<=w.drawn):d<=gwd (endWith w fd t o):=by
 unfold endWith;have hs:=d5f h (b9q w (.write fd t));generalize w.sys (.write fd t)=x at hs ⊢;obtain⟨r,w2⟩:=x;cases r
 case int n=>dsimp only;split <;> exact hs
 all_goals exact hs
def endWith_ended(w:World)(fd:Nat)(t:ByteArray)(o:Outcome):∃o' w' es,endWith w fd t o=.ended o' w' es:=by
 unfold endWith;generalize w.sys (.write fd t)=x;obtain⟨r,w2⟩:=x;cases r
 case int n=>dsimp only;split <;> exact⟨_,_,_,rfl⟩
 all_goals exact⟨_,_,_,rfl⟩
def a0v{m:String}(h:d<=w.drawn):d<=gwd (endThrow fr m w):=h
def a1Y{v:Value}(h:d<=w.drawn):d<=gwd (endPrinting p fr v w):=by unfold endPrinting;simp only;split <;> exact h
def a5t{m:String}(h:d<=w.drawn):d<=gwd (endFatal p fr callers dying m w):=by
 unfold endFatal;simp only;split
 . rename_i e;exact d5f h (run_ok e)
 . rename_i e;exact d5f h (run_halt e)
 . rename_i e;exact d5f h (run_halt e)
def b3L{dy:Dying}{f:Fatal}(h:d<=w.drawn):d<=gwd (writeOn p fr dy f w):=by
 unfold writeOn;simp only;split
 . exact h
 . split
   all_goals (rename_i e;exact d5f h (b16 e))
def c6G{dy:Dying}(h:d<=w.drawn):d<=gwd (die p fr dy w):=by
 unfold die;split
 . exact b3L h
 . split
   . split
     . exact h
     . exact a7M h
   . simp only;split
     . exact h
     . split
       . rename_i e;exact d5f h (run_ok e)
       . rename_i e;exact d5f h (run_halt e)
     . rename_i t recv name _;have e:=d5f h (c0L p (invoke (.fn (.method name) #[]) #[.iface t recv]) w #[]);rw[U3];generalize (Sem.runT p (invoke (.fn (.method name) #[]) #[.iface t recv]) w #[]).1=r at e ⊢;split
       all_goals first
        |exact e
        |exact a1Y e
        |exact h
     . exact h
def b8O{g:Nat}(h:d<=w.drawn):d<=gwd (early p fr callers dying g w):=by
 have ny:∀w:World,d<=w.drawn->d<=gwd (match w.heap[g]? with
  |some (.pending c elem) =>
   .go { frame:=fr,callers,status:=.running,dying } { w with heap:=w.heap.setIfInBounds g (.cells c elem) }
  |_=>.ended (.stuck "early: the variable does not wait" (fr.pos p)) w):=fun w h=>by split <;> exact h
 unfold early;simp only
 repeat' split
 all_goals first
  |exact h
  |(have e:=run_ok ‹Sem.run p (choose (Question.early g)) w=Result.ok _ _›;exact d5f h e)
  |(have e:=run_halt ‹Sem.run p (choose (Question.early g)) w=Result.halt _ _›;exact d5f h e)
def a5K{df:Deferred}(h:d<=w.drawn):d<=gwd (callDeferred p fr callers dying df w):=by
 unfold callDeferred;refine a2V h ?_;generalize hx:(invoke df.target df.args).runT p w #[]=x;obtain⟨r,es⟩:=x;have e:=d5f h (b16 hx);dsimp only;rw[U3];split
 all_goals first
  |exact e
  |exact a5t e
  |exact a0v e
  |(split <;> exact e)
def b77{main:Bool}(h:d<=w.drawn):d<=gwd (unwind p main fr callers dying w):=by
 unfold unwind;split
 . split;rename_i r es e;have e:=d5f h (b16 e);rw[U3];split <;> exact e
 . exact a5K h
 . split
   . exact h
   . split
     . exact h
     . split
       . exact h
       . split
         . split
           . exact h
           . split
             . rename_i e;exact d5f h (run_ok e)
             . rename_i e;exact d5f h (run_halt e)
             . rename_i e;exact d5f h (run_halt e)
         . split
           . exact a1Y h
           . exact h
   . split
     . exact a2w h
     . split;rename_i r es e;have e:=d5f h (b16 e);rw[U3];split
       . exact a2w e
       . exact e
       . exact e
def a27{s:Sem Next}{listen main:Bool}(h:d<=w.drawn):d<=gwd (stepG.apply p listen fr callers dying s w):=by
 unfold stepG.apply;simp only;have hr:d<=rwd (if listen=true then s.runT p w #[]else(s.run p w,#[])).1:=by
  split
  . rw[Sem.runT_fst];exact d5f h (J1 p s w)
  . exact d5f h (J1 p s w)
 generalize (if listen=true then s.runT p w #[]else(s.run p w,#[]))=x at hr;obtain⟨r,es⟩:=x;dsimp only at hr ⊢;rw[U3];split
 all_goals first
  |exact hr
  |exact a5t hr
  |exact a0v hr
  |exact b8O hr
  |exact a2V (a0v hr) hr
  |(split <;> first|exact hr|exact a0v hr)
def c40{listen:Bool}(h:d<=w.drawn):d<=gwd (stepG.oper p listen fr callers dying w):=by
 unfold stepG.oper;split
 . exact h
 . split
   . exact a27 (main:=true) h
   . exact a27 (main:=true) h
set_option maxHeartbeats 4000000 in
def c3p{main listen:Bool}(h:d<=w.drawn):d<=gwd (stepG.exec p main listen fr callers dying w):=by
 have hl : ∀ (l : Nat) (jump : Option Code), d <= gwd (GStep.after (seen p fr.fn (Sem.runT p (Instr.endRound l jump) w #[]).2) (match (Sem.runT p (Instr.endRound l jump) w #[]).1 with
       |.ok v w=>doReturn p main fr callers dying v w
       |.halt _ w=>.ended (.stuck "range over a function: no such loop" (fr.pos p)) w)):=fun l jump=>by
  rw[U3];split <;> rename_i q
  . exact a2w (d5f h (runT_ok q))
  . exact d5f h (a9r q)
 unfold stepG.exec;simp only;split
 all_goals first
  |exact h
  |exact a27 (main:=true) h
  |exact a2V (c40 h) h
  |(split <;> exact h)
  |(split <;> first|exact a2V h h|exact h|exact hl _ _)
  |(unfold Option.elim;split <;> first|exact h|exact a27 (main:=true) h|(split <;> first|exact a2V h h|exact h|exact hl _ _))
  |(rw[U3];split <;> rename_i q <;> first|exact a27 (main:=true) (d5f h (runT_ok q))|exact d5f h (runT_ok q)|exact d5f h (a9r q))
  |(refine a2V h ?_;split <;> rename_i q <;> first|exact d5f h (run_ok q)|exact d5f h (run_halt q))
  |skip
def c23{main listen:Bool}{g:Goroutine}(h:d<=w.drawn):d<=gwd (stepG p main g w listen):=by
 unfold stepG;split;split
 . exact c6G h
 . exact c3p h
 . exact b77 h
def swd:Stepped->Nat
 |.next m=>m.world.drawn
 |.ended _ w=>w.drawn
def b5M{c:Prop}[Decidable c]{a b:Stepped}(ha:d<=swd a)(hb:d<=swd b):d<=swd (if c then a else b):=by split <;> assumption
def b5n{gs:Array Goroutine}{rest:Rest}(h:d<=w.drawn):d<=swd (look p gs rest w):=by
 unfold look;split
 . simp only;refine b5M h ?_;split
   . exact h
   . split <;> rename_i q
     . have e:=d5f h (run_ok q);exact e
     . have e:=d5f h (run_halt q);exact e
     . have e:=d5f h (run_halt q);exact e
 . exact h
def b9L{m:Machine}{k:Nat}(h:d<=m.world.drawn):d<=swd (serve p m k):=by
 unfold serve;split
 . exact h
 . exact h
 . simp only;split <;> exact h
def drain_eq(w:World)(c:Nat):(drain w c).2.drawn=w.drawn:=by unfold drain;split <;> rfl
def a8S(m:Machine)(k:Nat)(t:Timer)(a b:Nat):(retime m k t a b).2.world.drawn=m.world.drawn:=by
 unfold retime;split;rename_i had world e;split at e
 . have:=drain_eq m.world ‹Nat›;rw[e]at this;exact this
 . cases e;rfl
def b4P{m m':Machine}{op:TimerOp}{v:Value}(h:timerOp m op=.ok (v,m')):m'.world.drawn=m.world.drawn:=by
 have nm:∀(m:Machine)(var:Addr)(f:Nat->Timer->Value×Machine)(v:Value)(m':Machine)(D:Nat),(∀k t,(f k t).2.world.drawn=D)->timerOp.named m var f=.ok (v,m')->m'.world.drawn=D:=fun m var f v m' D hf h=>by
  unfold timerOp.named at h;split at h
  . rename_i k _;have:=hf k (m.rest.timers.getD k default);have h:=Except.ok.inj h;rw[h]at this;exact this
  . cases h
 unfold timerOp at h;split at h
 . split at h
   . cases h;rfl
   . split at h
     . split at h
       . cases h
       . cases h;rfl
     . cases h
 . exact nm m _ _ _ _ _ (fun k t=>a8S m k t _ _) h
 . split at h
   . rename_i m2 e;have e2:m2.world.drawn=m.world.drawn:=by
      unfold timerOp.opened at e;split at e
      . split at e <;> cases e;rfl
      . cases e;rfl
     rw[<- e2];exact nm m _ _ _ _ _ (fun k t=>a8S m2 k t _ _) h
   . cases h
 . cases h;rfl
def a7S{rest:Rest}{gs:Array Goroutine}{i:Nat}{g:Goroutine}{cases:Array CommCase}{blocking:Bool}{shape:CommShape}(h:d<=w.drawn):d<=swd (communicate p rest gs i g cases blocking shape w).1:=by
 unfold communicate;simp only;split
 . exact h
 . split
   . split
     . split
       . rename_i w2 e;have:w2.drawn=w.drawn:=by
          unfold waitingAt at e;split at e
          . split at e <;> cases e;rfl
          . cases e;rfl
         show d<=w2.drawn
         omega
       . exact h
     . exact h
   . split
     . rename_i q;exact d5f h (run_halt q)
     . rename_i q;have h2:=d5f h (run_ok q);split
       all_goals first
        |exact h2
        |(split <;> first|exact h2|(rename_i q2;have e:=d5f h2 (run_halt q2);exact e)|(split <;> first|exact h2|(rename_i q2;first|(have e:=d5f h2 (run_ok q2);exact e)|(have e:=d5f h2 (run_halt q2);exact e))))
def mwd:Move->Nat
 |.goroutine m _=>m.world.drawn
 |.machine s _=>swd s
def a4e{c:Prop}[Decidable c]{a b:Move}(ha:d<=mwd a)(hb:d<=mwd b):d<=mwd (if c then a else b):=by split <;> assumption
def a7F{m:Machine}(h:d<=m.world.drawn):d<=mwd (askOn p m):=by
 have pick:∀(rs:List Nat)(m:Machine),d<=m.world.drawn->d<=mwd (match(choose (.sched rs.length)).run p m.world with
   |.halt _ w=>.machine (.ended (.stuck "sched" "") w)
   |.ok k world =>
    if rs.length<=1 then .goroutine { m with world } (rs.getD k 0)else
    match(choose (.extern "sched.slice" 65536)).run p world with
    |.halt _ w=>.machine (.ended (.stuck "sched.slice" "") w)
    |.ok n world=>.goroutine { m with world,rest:={ m.rest with slice:=if n=0 then none else some (rs.getD k 0,n) } } (rs.getD k 0)):=fun rs m h=>by
  split <;> rename_i q
  . have e:=d5f h (run_halt q);exact e
  . have e:=d5f h (run_ok q);refine a4e e ?_;split <;> rename_i q2
    . have e2:=d5f e (run_halt q2);exact e2
    . have e2:=d5f e (run_ok q2);exact e2
 unfold askOn;dsimp only;split <;> rename_i q
 . have e:=d5f h (run_halt q);exact e
 . have e:=d5f h (run_ok q);refine a4e (b9L e) ?_;split
   . split
     . exact e
     . refine a4e e ?_;split
       . rename_i o w es hw;have hE:=a7M (d:=d) (fd:=2) (t:=bytes ("fatal error: " ++ (if m.gs.any (fun g=>g.status == .blocked || g.status == .parked)then "all goroutines are asleep - deadlock!" else "no goroutines (main called runtime.Goexit) - deadlock!") ++ "\n")) (o:=.fatal (if m.gs.any (fun g=>g.status == .blocked || g.status == .parked)then "all goroutines are asleep - deadlock!" else "no goroutines (main called runtime.Goexit) - deadlock!")) e;rw[hw]at hE;exact hE
       . rename_i hn;exfalso;obtain⟨o,w',es,he⟩:=endWith_ended ‹World› 2 (bytes ("fatal error: " ++ (if m.gs.any (fun g=>g.status == .blocked || g.status == .parked)then "all goroutines are asleep - deadlock!" else "no goroutines (main called runtime.Goexit) - deadlock!") ++ "\n")) (.fatal (if m.gs.any (fun g=>g.status == .blocked || g.status == .parked)then "all goroutines are asleep - deadlock!" else "no goroutines (main called runtime.Goexit) - deadlock!"));exact hn _ _ _ he
   . split
     . exact pick _ { m with world:=_ } e
     . split <;> rename_i q2
       . have e2:=d5f e (run_halt q2);exact e2
       . have e2:=d5f e (run_ok q2);exact pick _ { m with world:=_ } e2
       . have e2:=d5f e (run_ok q2);exact e2
       . have e2:=d5f e (run_ok q2);exact pick _ (Machine.advanceTo { m with world:=_ } _) e2
def b6b{m:Machine}(h:d<=m.world.drawn):d<=mwd (Go.ask p m):=by
 unfold Go.ask;split
 . split <;> rename_i q
   . have e:=d5f h (run_halt q);exact e
   . have e:=b5n (p:=p) (gs:=m.gs) (rest:=m.rest) (d5f h (run_ok q));split
     . rename_i m2 e2;rw[e2]at e;exact a7F e
     . exact e
   . have e:=d5f h (run_ok q);exact a7F (m:={ m with world:=_ }) e
 . exact a7F h
def c2J{m:Machine}(h:d<=m.world.drawn):d<=mwd (move p m):=by
 unfold move;split
 . exact a4e h h
 . split
   . exact a4e h (b6b (m:={ m with rest:=_ }) h)
   . exact b6b h
def b7i{m:Machine}{i:Nat}{listen:Bool}(h:d<=m.world.drawn):d<=swd (Go.runT p m i listen).1:=by
 unfold Go.runT;dsimp only;generalize hx:m.gs.swapAt! i { (default:Goroutine)with status:=.finished }=x;obtain⟨g,gs⟩:=x;dsimp only;have e:=c23 (p:=p) (main:=i == 0) (listen:=listen) (g:=g) h;generalize stepG p (i == 0) g m.world listen=s at e ⊢;cases s
 case ended=>exact e
 case comm=>dsimp only;exact a7S e
 case count=>exact b5M e e
 case collect=>exact b5n e
 case coroswitch =>
  dsimp only;split
  . exact e
  . exact e
  . exact e
 case timer =>
  dsimp only;split
  . rename_i q;have:=b4P q;exact d5f e (d8S this.symm)
  . exact e
  . exact e
  . exact e
 all_goals exact e
def c2z{m m':Machine}(h:step p m=.next m'):m.world.drawn<=m'.world.drawn:=by
 have e:m.world.drawn<=swd (step p m):=by
  unfold step stepT;have e:=c2J (p:=p) (d5m m.world.drawn);split
  . rename_i q;rw[q]at e;exact b7i e
  . rename_i q;rw[q]at e;exact e
 rw[h]at e;exact e
def Calls.drawn{K:FuncId}{args:Array Value}{R:Ending->World->Prop}(h:Calls p K args w R)(hr:∀w',¬R .outgrown w'):Calls p K args w fun e w'=>R e w'/\w.drawn<=w'.drawn:=by
 intro cs;obtain⟨e,w',fr,hR,hC,hf,hl⟩:=h cs;refine⟨e,w',fr,⟨hR,?_⟩,hC,hf,hl⟩;have st:∀m m':Machine,Steps p m m'->m.world.drawn<=m'.world.drawn:=fun m m' ⟨n,hn⟩=>by
  induction n generalizing m with
  |zero=>cases hn;exact d5m _
  |succ n ih =>
   unfold runN at hn;split at hn
   . rename_i m1 e;exact d5f (c2z e) (ih _ ⟨n,hn⟩ hn)
   . simp_all
 cases e with
 |outgrown=>exact absurd hR (hr _)
 |returned v=>exact st _ _ hC
 |panicked c=>exact st _ _ hC
end Go.Wk
end
namespace Go.Rx
open Go Go.Wk Go.Wl Go.Sort Go.Proofs
structure c2y(N:B8)(t:Nat) where
 enc:N.U t->List Value
 rd:∀{Z:Nat->Prop}{w:World}{cs:List Value}{x:N.U t},(N.tb t).r.rd Z w cs x->cs=enc x/\∀(Z':Nat->Prop)(w':World),(N.tb t).r.rd Z' w' (enc x) x
 one:∀x,∀v∈enc x,v.oneCell'=true
 len:∀x,(enc x).length=(N.tb t).r.sz
def c0I{W w' w2:World}(x:Ext [] W w')(hs:F8 w' w2)(hd:W.drawn<=w2.drawn):∃q os',w2=Sort.grow (W.drewN q) os':=by
 obtain⟨k,rfl⟩:=hs;refine⟨k-W.drawn,w'.heap.extract W.heap.size w'.heap.size,?_⟩;obtain⟨h,tp,dr,o,ou⟩:=W;obtain⟨h',tp',dr',o',ou'⟩:=w';obtain⟨x1,x2,x3,x4,x5⟩:=x;simp only at x1 x2 x3 x4 x5 hd ⊢;subst x1 x2 x3;unfold Sort.grow World.drewN;simp only[World.mk.injEq,and_true,true_and];refine⟨?_,by omega⟩;apply Array.ext_getElem?;intro i;rw[d8g];by_cases hi:i<h.size
 . rw[if_pos hi];exact x5 i hi (by simp)
 . rw[if_neg hi,Array.getElem?_extract];simp only[Nat.min_self];by_cases h2:i<h'.size
   . rw[if_pos (by omega)];congr 1;omega
   . rw[if_neg (by omega)];simp;omega
def c6h(P:Program)(K:Nat):Prop:=∀(p:Option Addr)(cap:Nat)(fv:Value)(w:World),Calls P K #[.slice p 0 cap,fv] w fun e w'=>e=.returned (.tuple #[])/\w'=w
def b6y(P:Program)(K k g:Nat):Prop:=∀{α:Type} [Inhabited α] (enc:α->List Value),(∀x,(enc x).length=k)->(∀x,∀v∈enc x,v.oneCell'=true)->∀(cf:α->α->Int),SWO (ltOf cf)->∀(blk off cap:Nat)(d:Array α)(w:World),CmpLays P g #[] enc k cf blk off d.size w->HoldsK enc k w blk off d->blk<w.heap.size->d.size<4611686018427387904->(∀x y,ltOf cf x y=false->ltOf cf y x=false->x=y) ->
 Calls P K #[.slice (some ⟨blk,off,none⟩) d.size cap,.func (.func g) #[] #[]] w fun e w'=>e=.returned (.tuple #[])/\∃n os,w'=sortWorldK enc k w blk off n (d.toList.mergeSort fun x y=>!(ltOf cf) y x).toArray os
def a3S{α:Type}(cf:α->α->Int)(l:List α):List α:=l.mergeSort fun x y=>!(ltOf cf) y x
def a4L{α:Type}(cf:α->α->Int)(l:List α):(a3S cf l).length=l.length:=(d6v l _).length_eq
def c0N{α:Type}{cf:α->α->Int}{l:List α}{x:α}:x∈a3S cf l↔x∈l:=(d6v l _).mem_iff
section
variable{P:Program}{N:B8}{T:N6}{G:a1s}{K g t:Nat}{Z:Nat->Prop}{w:World}{l:List (N.U t)}{cf:N.U t->N.U t->Int}
def b1j{w:World}{b n:Nat}{F:Array Value}{os:Array Obj}(hb:b<w.heap.size):Ext [b] w (Sort.grow (Sort.putRow id (Sort.ahead w n) b 0 F) os):=by
 refine⟨rfl,rfl,rfl,by simp[Sort.ahead],fun x hx hn=>?_⟩;have hne:x≠b:=by simpa using hn
 rw[d7O _ _ (by simpa using hx)];simp only[Sort.putRow,Sort.mapBlock,Sort.ahead,d6n];rw[if_neg (d6l hne)]
def b9U(Y:c2y N t)(hpos:0<(N.tb t).r.sz)(hN:c6h P K)(hS:b6y P K (N.tb t).r.sz g)(hO:SWO (ltOf cf))(hT:∀x∈l,∀y∈l,ltOf cf x y=false->ltOf cf y x=false->x=y)(hl:l.length<4611686018427387904){v:Value}{bs:List Nat}(hac:Ac (N.tb t).r Z w v l bs)
  (hc:∀(W:World)(x y:N.U t),Ext bs w W->(∀Z w,(N.tb t).r.rd Z w (Y.enc x) x)->(∀Z w,(N.tb t).r.rd Z w (Y.enc y) y)->G2 P g [.agg (Y.enc x).toArray,.agg (Y.enc y).toArray] W (fun v w'=>v=.int .i64 (cf x y)/\Ext [] W w')) :
  G2 P K [v,.func (.func g) #[] #[]] w fun v' w'=>v'=.tuple #[]/\Ac (N.tb t).r Z w' v (a3S cf l) bs/\Ext bs w w':=by
 intro w1 hs;have none:∀(p:Option Addr)(cap:Nat),v=.slice p 0 cap->l=[]->Calls P K #[v,.func (.func g) #[] #[]] w1 fun e w2=>∃v' w',e=.returned v'/\F8 w' w2/\v'=.tuple #[]/\Ac (N.tb t).r Z w' v (a3S cf l) bs/\Ext bs w w':=fun p cap hv h0=>by
  rw[hv];refine d6d (hN p cap _ w1) ?_;rintro e w2 ⟨rfl,rfl⟩;refine⟨_,w,rfl,hs,rfl,?_,Ext.refl _ _⟩;subst h0;rw[<- hv];have:a3S cf ([]:List (N.U t))=[]:=by unfold a3S;exact List.mergeSort_nil
  rw[this];exact hac
 have hac0:=hac;rcases hac with⟨rfl,rfl,rfl⟩|⟨b,cap,C,Ty,rfl,rfl,ho,hC,hle,hcell⟩
 . exact none _ _ rfl rfl
 by_cases h0:l=[]
 . exact none _ _ (by rw[h0];rfl) h0
 obtain⟨k,rfl⟩:=hs;have hlt:=ho.lt;obtain⟨z,hz,ho⟩:=ho;have hlp:0<l.length:=d7H.2 h0;have hget:∀i (h:i<l.length),(∀j,j<(N.tb t).r.sz->C[i*(N.tb t).r.sz+j]?=(Y.enc l[i])[j]?)/\∀Z w,(N.tb t).r.rd Z w (Y.enc l[i]) l[i]:=fun i hi=>by obtain⟨c,h1,h2,h3⟩:=hcell i hi;obtain⟨e,hr⟩:=Y.rd h3;subst e;exact⟨h2,hr⟩
 have hmem:∀x∈l,∀Z w,(N.tb t).r.rd Z w (Y.enc x) x:=fun x hx=>by obtain⟨i,hi,rfl⟩:=d5w hx;exact(hget i hi).2
 let α:={x:N.U t // x∈l}
 let enc:α->List Value:=fun x=>Y.enc x.1
 let cf':α->α->Int:=fun x y=>cf x.1 y.1
 have inh:Inhabited α:=⟨⟨l[0],d6j hlp⟩⟩;have hO':SWO (ltOf cf'):=⟨fun x=>hO.irrefl x.1,fun x y z=>hO.trans x.1 y.1 z.1,fun x y z=>hO.ntrans x.1 y.1 z.1⟩;have hsz:(l.attach.toArray).size=l.length:=by simp
 have hfl:∀(d:Array α)(i j:Nat)(hi:i<d.size),j<(N.tb t).r.sz->(flatK enc (N.tb t).r.sz d)[i*(N.tb t).r.sz+j]?=(Y.enc d[i].1)[j]? := fun d i j hi hj=>by
  have h1:i*(N.tb t).r.sz+j<d.size*(N.tb t).r.sz:=by have:=d5s (N.tb t).r.sz (show i+1<=d.size from hi);rw[d6k,d8c]at this;omega
  have h2:i*(N.tb t).r.sz+j<(flatK enc (N.tb t).r.sz d).size:=by rw[size_flatK];exact h1
  have h3:=get_flatK enc (N.tb t).r.sz d _ h1;rw[d7q i,Nat.mul_add_div hpos,Nat.div_eq_of_lt hj,d6r,Nat.mul_add_mod,Nat.mod_eq_of_lt hj,d7q _ i,d8p (flatK enc (N.tb t).r.sz d) _ h2,d8p d i hi]at h3;have h4:j<(enc d[i]).length:=by rw[show(enc d[i]).length=_ from Y.len _];exact hj
  rw[d7m h2,h3,d8p (enc d[i]) _ h4];exact(d5i h4).symm
 have hH:HoldsK enc (N.tb t).r.sz { w with drawn:=k } b 0 l.attach.toArray:=fun q hq=>by
  rw[size_flatK,hsz]at hq;have hi:q / (N.tb t).r.sz<l.length:=d7n (by rw[d7q];exact hq);have hj:q%(N.tb t).r.sz<(N.tb t).r.sz:=d8l _ hpos;have e:q / (N.tb t).r.sz*(N.tb t).r.sz+q%(N.tb t).r.sz=q:=by rw[d7q];exact d7K _ _
  have h1:=(hget _ hi).1 _ hj;have h2:=hfl l.attach.toArray (q / (N.tb t).r.sz) (q%(N.tb t).r.sz) (by rw[hsz];exact hi) hj;rw[e]at h1 h2;have hq2:q<(flatK enc (N.tb t).r.sz l.attach.toArray).size:=by rw[size_flatK,hsz];exact hq
  rw[d7m hq2]at h2;constructor
  . simp only[World.cell?,show({ w with drawn:=k }:World).heap[b]?=_ from ho];rw[d8p (flatK enc (N.tb t).r.sz l.attach.toArray) _ hq2];simp only[Option.isSome_none,d5Y,if_false,id,d6I];rw[h2];rw[d6m];show C[q]?=(Y.enc (l.attach[q / (N.tb t).r.sz]'(by simpa using hi)).1)[q%(N.tb t).r.sz]?
    rw[List.getElem_attach];exact h1
  . have hq3:q<C.length:=by
      have:=d5s (N.tb t).r.sz hle;omega
    rcases hz with rfl|hz
    . simp[World.frozen?,show({ w with drawn:=k }:World).heap[b]?=_ from ho]
    . simp[World.frozen?,show({ w with drawn:=k }:World).heap[b]?=_ from ho];omega
 have hcmp:CmpLays P g #[] enc (N.tb t).r.sz cf' b 0 (l.attach.toArray).size { w with drawn:=k }:=fun m os dk hdk x y=>by
  have hx:Ext [b] w (sortWorldK enc (N.tb t).r.sz { w with drawn:=k } b 0 m dk os):=by have h:=b1j (w:={ w with drawn:=k }) (n:=m) (F:=flatK enc (N.tb t).r.sz dk) (os:=os) hlt;exact⟨h.os,h.tape,h.output,h.size,h.block⟩
  have h:=hc _ x.1 y.1 hx (hmem x.1 x.2) (hmem y.1 y.2) _ (F8.refl _);have h2:=Calls.drawn h (fun w' ⟨v',w3,e,_⟩=>by cases e);rw[Array.append_empty];exact d6d h2 fun e w2 ⟨⟨v',w3,e1,hs3,e2,x3⟩,hd⟩=>⟨by rw[e1,e2],c0I x3 hs3 hd⟩
 have hrun:=hS enc (fun x=>Y.len x.1) (fun x=>Y.one x.1) cf' hO' b 0 cap l.attach.toArray { w with drawn:=k } hcmp hH hlt (by rw[hsz];exact hl) (fun x y h1 h2=>Subtype.ext (hT x.1 x.2 y.1 y.2 h1 h2));rw[hsz]at hrun;refine d6d hrun ?_;rintro e w2 ⟨rfl,n,os,rfl⟩;have hmap:(l.attach.mergeSort fun x y=>!(ltOf cf') y x).map Subtype.val=a3S cf l:=by unfold a3S;have h:=List.map_mergeSort (r:=fun(x y:α)=>!(ltOf cf') y x) (s:=fun x y=>!(ltOf cf) y x) (f:=Subtype.val) (l:=l.attach) (fun a _ b _=>rfl);rw[List.attach_map_subtype_val]at h;exact h
 generalize hd:(l.attach.mergeSort fun x y=>!(ltOf cf') y x)=d' at hmap;have hdl:d'.length=l.length:=by rw[<- hd,(d6v _ _).length_eq];simp
 have hx:Ext [b] w (sortWorldK enc (N.tb t).r.sz { w with drawn:=k } b 0 n d'.toArray os):=by have h:=b1j (w:={ w with drawn:=k }) (n:=n) (F:=flatK enc (N.tb t).r.sz d'.toArray) (os:=os) hlt;exact⟨h.os,h.tape,h.output,h.size,h.block⟩
 refine⟨_,_,rfl,F8.refl _,rfl,.inr ⟨b,cap,(Sort.putCells id 0 (flatK enc (N.tb t).r.sz d'.toArray) C.toArray).toList,Ty,by rw[a4L],rfl,⟨z,?_,?_⟩,?_,by rw[a4L];exact hle,fun i hi=>?_⟩,hx⟩
 . simpa[Sort.putCells]using hz
 . unfold sortWorldK putRowK;rw[d7O _ _ (by simpa using hlt)];simp only[Sort.putRow,Sort.mapBlock,Sort.ahead,d6n,if_true];rw[show w.heap[b]?=_ from ho];rfl
 . simp[Sort.putCells,hC]
 . have hi':i<l.length:=by rw[<- a4L cf l];exact hi
   have hid:i<d'.toArray.size:=by simp[hdl,hi']
   have he:(a3S cf l)[i]=(d'.toArray[i]).1:=by simp[<- hmap]
   have hme:(a3S cf l)[i]∈l:=c0N.1 (d6j hi);refine⟨Y.enc (a3S cf l)[i],Y.len _,fun j hj=>?_,hmem _ hme _ _⟩;have h1:i*(N.tb t).r.sz+j<l.length*(N.tb t).r.sz:=by have:=d5s (N.tb t).r.sz (show i+1<=l.length from hi');rw[d6k,d8c]at this;omega
   have h2:i*(N.tb t).r.sz+j<C.length:=by have:=d5s (N.tb t).r.sz hle;omega
   have h3:=hfl d'.toArray i j hid hj;have h4:i*(N.tb t).r.sz+j<(flatK enc (N.tb t).r.sz d'.toArray).size:=by rw[size_flatK];simp[hdl];exact h1
   rw[d7m h4]at h3;rw[he,<- h3];simp only[Sort.putCells,d8i,d8h,d6m];rw[d5i h2];simp only[d7u,d6B,true_and,d6I,if_pos h4,Nat.sub_zero,id];rw[d8p (flatK enc (N.tb t).r.sz d'.toArray) _ h4]
def b24(Y:c2y N t)(hpos:0<(N.tb t).r.sz)(hN:c6h P K)(hS:b6y P K (N.tb t).r.sz g)(hO:SWO (ltOf cf))(hT:∀x∈l,∀y∈l,ltOf cf x y=false->ltOf cf y x=false->x=y)
  (hc:∀(D:Nat->Prop)(W:World)(x y:N.U t),(∀b,D b->b<W.heap.size)->G.is D W->(∀Z w,(N.tb t).r.rd Z w (Y.enc x) x)->(∀Z w,(N.tb t).r.rd Z w (Y.enc y) y)->G2 P g [.agg (Y.enc x).toArray,.agg (Y.enc y).toArray] W (fun v w'=>v=.int .i64 (cf x y)/\Ext [] W w')) (hl:l.length<4611686018427387904) :
  M6 P N T G K [.acc 0,.fn g] [(0,.ac t l)] 2 (fun k=>True->k (.F5 []) [(0,.ac t (a3S cf l))] 2):=by
 intro kk hk ρ Z w vs B hfr hsep hG ha;have ok:=hsep.ok 0 (C9 N T ρ B 0 (.ac t l)) rfl;obtain⟨L,hL,hn,hlen,hac⟩:=ok.holds;have hF:(C9 N T ρ B 0 (.ac t l)).F=L.bs:=by show u4 N ρ 0 (.ac t l)=_;exact x7 hL
 obtain⟨v0,vr,rfl,h0,hr⟩:=e7.w4 ha;obtain⟨v1,vr2,rfl,h1,hr2⟩:=e7.w4 hr;have hnil:vr2=[]:=by generalize e:Value.tuple vr2.toArray=u at hr2;cases hr2 with|M0=>simpa using e
 subst hnil;cases h1;cases h0 with|acc hL' =>
 rw[hL]at hL';cases hL';have hnz:∀b∈L.bs,¬Z b:=fun b hb=>ok.O2 b (by rw[hF];exact hb);refine(b9U Y hpos hN hS hO hT hl hac fun W x y xW hx hy=>hc Z W x y (fun b hb=>by have:=hsep.zlt b hb;have:=xW.size;omega) (G.I3 hG xW (fun b hb hz=>absurd hz (hnz b hb)) fun b hz _=>hz) hx hy).mono ?_;rintro v w' ⟨rfl,hac',x⟩;have hll:=a4L cf l;have hs1:=Wl.Sep.D5 hsep 0 (t:=C9 N T ρ B 0 (.ac t l)) (t':=C9 N T ρ B 0 (.ac t (a3S cf l))) rfl (by rw[hF];exact x) ⟨L,hL,by omega,by omega,hac'⟩ u5 (fun b hb=>by have hb:b∈u4 N ρ 0 (.ac t (a3S cf l)):=hb;rw[x7 hL]at hb;exact⟨.inl (by rw[hF];exact hb),hac'.lt b hb⟩) rfl
 exact⟨ρ,Z,.F5 [],[(0,.ac t (a3S cf l))],2,hs1,hfr,fun _ _ h=>h,fun _ h=>h,fun _ h=>.inl h,.M0,hk trivial⟩
end
end Go.Rx
namespace Go.Proofs.YtapnoejokajcoaaGreatDoor
open Go Go.Wk Go.Wl Go.Rx Go.Re Go.Li Go.Qu Go.Fo Go.Proofs Go.RowKit
def c1P{a b:Ins}:a3F a b<0↔b8 a.Start<b8 b.Start∨(b8 a.Start=b8 b.Start/\b8 a.l7<b8 b.l7):=by have h0:a0c a.Start b.Start=0↔b8 a.Start=b8 b.Start:=a8U;have h1:a0c a.Start b.Start<0↔b8 a.Start<b8 b.Start:=a0L;have h2:a0c a.l7 b.l7<0↔b8 a.l7<b8 b.l7:=a0L;unfold a3F;split <;> omega
def ltT(a b:Tm):ltOf a0c a b=decide (b8 a<b8 b):=d5N.2 a0L
def ltN(a b:Ins):ltOf a3F a b=decide (b8 a.Start<b8 b.Start∨(b8 a.Start=b8 b.Start/\b8 a.l7<b8 b.l7)):=d5N.2 c1P
def d4F:Go.Sort.SWO (ltOf a0c) where
 irrefl x:=by rw[ltT];simp
 trans x y z h1 h2:=by rw[ltT]at *;simp at *;omega
 ntrans x y z h1 h2:=by rw[ltT]at *;simp at *;omega
def d4z:Go.Sort.SWO (ltOf a3F) where
 irrefl x:=by rw[ltN];simp
 trans x y z h1 h2:=by rw[ltN]at *;simp only[d6e]at *;omega
 ntrans x y z h1 h2:=by rw[ltN]at *;simp only[d7X]at *;omega
def a8E(x:Ins):List Value:=a1L x.Start++(a1L x.End++(a1L x.l7++[.bool x.Over]))
def a6d{Z:Nat->Prop}{w:World}{cs:List Value}{x:Tm}(h:dTm.rd Z w cs x):cs=a1L x/\∀(Z':Nat->Prop)(w':World),dTm.rd Z' w' (a1L x) x:=by obtain⟨c0,_,rfl,⟨d0,_,rfl,g0,d1,d2,rfl,g1,g2⟩,c1,_,rfl,h1,c2,_,rfl,h2,c3,_,rfl,h3,c4,c5,rfl,h4,h5⟩:=h;have k0:=g0.1;have k1:=g1.1;have k2:=g2.1;have e1:=h1.1;have e2:=h2.1;have e3:=h3.1;have e4:c4=_:=h4;have e5:c5=_:=h5;subst k0 k1 k2 e1 e2 e3 e4 e5;exact⟨rfl,fun Z' w'=>⟨_,_,rfl,⟨_,_,rfl,g0,_,_,rfl,g1,g2⟩,_,_,rfl,h1,_,_,rfl,h2,_,_,rfl,h3,_,_,rfl,h4,h5⟩⟩
def c46{Z:Nat->Prop}{w:World}{cs:List Value}{x:Ins}(h:b8A.rd Z w cs x):cs=a8E x/\∀(Z':Nat->Prop)(w':World),b8A.rd Z' w' (a8E x) x:=by obtain⟨c0,_,rfl,h0,c1,_,rfl,h1,c2,c3,rfl,h2,h3⟩:=h;obtain⟨rfl,g0⟩:=a6d h0;obtain⟨rfl,g1⟩:=a6d h1;obtain⟨rfl,g2⟩:=a6d h2;have e3:c3=_:=h3;subst e3;exact⟨rfl,fun Z' w'=>⟨_,_,rfl,g0 Z' w',_,_,rfl,g1 Z' w',_,_,rfl,g2 Z' w',h3⟩⟩
def a4z(x:Tm):∀v∈a1L x,v.oneCell'=true:=fun v hv=>by simp only[a1L,d5k,List.not_mem_nil,or_false]at hv;rcases hv with rfl|rfl|rfl|rfl|rfl|rfl|rfl|rfl <;> rfl
def EcT:c2y U 26:=⟨a1L,a6d,a4z,fun _=>rfl⟩
def EcN:c2y U 48:=⟨a8E,c46,fun(x:Ins) v hv=>by
 simp only[a8E,d5t,d5a]at hv;rcases hv with hv|hv|hv|rfl
 . exact a4z _ v hv
 . exact a4z _ v hv
 . exact a4z _ v hv
 . rfl,fun _=>rfl⟩
def c3Y(D:Nat->Prop)(W:World)(x y:Tm)(hD:∀b,D b->b<W.heap.size)(hG:Gl.is D W)(hx:∀Z w,dTm.rd Z w (a1L x) x)(hy:∀Z w,dTm.rd Z w (a1L y) y):G2 Tryz.prog 61 [.agg (a1L x).toArray,.agg (a1L y).toArray] W (fun v w'=>v=.int .i64 (a0c x y)/\Ext [] W w'):=by have h:=Ntc_ok.U0 61 _ [.agg (leaves (y26.sv x)),.agg (leaves (y26.sv y))] 0 ⟨[],[],.int .i64 (a0c (j7 x) (j7 y)),[]⟩ rfl rfl rfl rfl trivial;rw[y8,y8]at h;refine(h D W [.agg (a1L x).toArray,.agg (a1L y).toArray] hD hG (.I8 (y26.sv_ok (hx D W)) (.I8 (y26.sv_ok (hy D W)) .M0))).mono ?_;rintro v w' ⟨e,hr,_⟩;cases hr;exact⟨rfl,e⟩
def c41(D:Nat->Prop)(W:World)(x y:Ins)(hD:∀b,D b->b<W.heap.size)(hG:Gl.is D W)(hx:∀Z w,b8A.rd Z w (a8E x) x)(hy:∀Z w,b8A.rd Z w (a8E y) y):G2 Tryz.prog 30 [.agg (a8E x).toArray,.agg (a8E y).toArray] W (fun v w'=>v=.int .i64 (a3F x y)/\Ext [] W w'):=by have h:=Nic_ok.U0 30 _ [.agg (leaves (y48.sv x)),.agg (leaves (y48.sv y))] 0 ⟨[],[],.int .i64 (a3F (etN x) (etN y)),[]⟩ rfl rfl rfl rfl trivial;rw[B9,B9]at h;refine(h D W [.agg (a8E x).toArray,.agg (a8E y).toArray] hD hG (.I8 (y48.sv_ok (hx D W)) (.I8 (y48.sv_ok (hy D W)) .M0))).mono ?_;rintro v w' ⟨e,hr,_⟩;cases hr;exact⟨rfl,e⟩
def b6M:b6y Tryz.prog 60 8 61:=fun enc hk h1 cf hO blk off cap d w hcmp hH hblk hsz hT=>Tryz.b4F 8 (a4w (P:=Tryz.prog) (T:=26) (by kernel_rfl)) (M8 (P:=Tryz.prog) (T:=26) (by kernel_rfl)) enc hk h1 cf hO 61 #[] blk off cap d w Tryz.call61 hcmp hH hblk hsz hT
def d07:b6y Tryz.prog 29 25 30:=fun enc hk h1 cf hO blk off cap d w hcmp hH hblk hsz hT=>Tryz.b4n 25 (a4w (P:=Tryz.prog) (T:=48) (by kernel_rfl)) (M8 (P:=Tryz.prog) (T:=48) (by kernel_rfl)) enc hk h1 cf hO 30 #[] blk off cap d w Tryz.call30 hcmp hH hblk hsz hT
def fST:FC U:=⟨[],[],fun a its=>match a,its with
 |[.acc 0,.fn 61],[(0,.ac 26 l)]=>some ⟨[List.length (α:=Tm) l<=1000000,∀x∈(l:List Tm),∀y∈(l:List Tm),b8 x=b8 y->x=y],[],.F5 [],[(0,.ac (N:=U) 26 (a74 l))],2⟩
 |_,_=>none⟩
def fSN:FC U:=⟨[],[],fun a its=>match a,its with
 |[.acc 0,.fn 30],[(0,.ac 48 l)]=>some ⟨[List.length (α:=Ins) l<=1000000,∀x∈(l:List Ins),∀y∈(l:List Ins),b8 x.Start=b8 y.Start->b8 x.l7=b8 y.l7->x=y],[],.F5 [],[(0,.ac (N:=U) 48 (a3C l))],2⟩
 |_,_=>none⟩
def fST_ok(args:List (SV U))(its:c7 U)(r:FR U)(h:fST.C args its=some r)(ho:q9 r.ob):M6 Tryz.prog U eT Gl 60 args its (2*its.length) (fun k=>q9 r.hy->k r.v r.its r.n):=by
 unfold fST at h;simp only at h;split at h
 . rename_i l;cases h;refine b24 (N:=U) (t:=26) EcT (by show 0<8;decide) Tryz.b1d b6M d4F (fun(x:Tm) hx y hy h1 h2=>ho.2.1 x hx y hy ?_) c3Y (by have:=ho.1;show List.length (α:=Tm) l<_;omega);have h1:=d7i ((ltT x y).symm.trans h1);have h2:=d7i ((ltT y x).symm.trans h2);omega
 . cases h
def fSN_ok(args:List (SV U))(its:c7 U)(r:FR U)(h:fSN.C args its=some r)(ho:q9 r.ob):M6 Tryz.prog U eT Gl 29 args its (2*its.length) (fun k=>q9 r.hy->k r.v r.its r.n):=by
 unfold fSN at h;simp only at h;split at h
 . rename_i l;cases h;refine b24 (N:=U) (t:=48) EcN (by show 0<25;decide) Tryz.b2Z d07 d4z (fun(x:Ins) hx y hy h1 h2=>?_) c41 (by have:=ho.1;show List.length (α:=Ins) l<_;omega);have h1:=d7i ((ltN x y).symm.trans h1);have h2:=d7i ((ltN y x).symm.trans h2);exact ho.2.1 x hx y hy (by omega) (by omega)
 . cases h
def N60:Env:=((d0a.a1N 60 fST).a1N 29 fSN)
def N60_ok:c8 N60:=((NcmT_ok.a1N Tryz.call60 fST_ok).a1N Tryz.call29 fSN_ok)
def d2Q:Env:=N60.z7 56 Tryz.f56
def NI56_ok:c8 d2Q:=N60_ok.z7 Tryz.call56 Tryz.func56
def c4M:Env:=d2Q.z7 100 Tryz.f100
def NI100_ok:c8 c4M:=NI56_ok.z7 Tryz.call100 Tryz.func100
def d01:Env:=c4M.z7 58 Tryz.f58
def NI58_ok:c8 d01:=NI100_ok.z7 Tryz.call58 Tryz.func58
end Go.Proofs.YtapnoejokajcoaaGreatDoor
namespace Go.Qu
open Go Go.Wk Go.Wl Go.Rx Go.Re Go.Li Go.Fo
noncomputable section
def exN:z6:=[101,120,112,97,110,100]
def tmR(o:F3)(f t:Int)(r:Rl):List Tm×o6:=J9 o.Main.Start.Time r (Y5 (f-172800-D4 o.Main) o.Main.Start.Time) (Y5 (t+172800) o.Main.Start.Time)
def tmE(qa:Nat)(o:F3)(f t:Int):List Tm->List Rl->List Tm×o6
 |l,[]=>(l,.nil)
 |_,r::rs=>if(tmR o f t r).2=.nil then tmE qa o f t (tmR o f t r).1 rs else([],.p qa exN (tmR o f t r).2.n0)
def tmA(qa:Nat)(o:F3)(f t:Int):List Tm:=((tmE qa o f t [o.Main.Start.Time] o.Main.b9).1++o.Main.o5.map E6.Time).filter fun t=>!L7 o t
def N8(qa:Nat)(o:F3)(f t:Int):List Tm×o6:=if(tmE qa o f t [o.Main.Start.Time] o.Main.b9).2=.nil then(ded (a74 (tmA qa o f t)),.nil)else([],(tmE qa o f t [o.Main.Start.Time] o.Main.b9).2)
def b1f(l:List Tm):Prop:=∀x∈l,∀y∈l,b8 x=b8 y->x=y
def c0r(s:Tm)(r:Rl)(a b:Tm):(J9 s r a b).2=.nil∨(J9 s r a b).2=.no (J9 s r a b).2.n0:=by
 unfold J9;split
 . exact .inr rfl
 . split
   . exact .inr rfl
   . unfold b2j;split
     . exact .inr rfl
     . split
       . exact .inr rfl
       . exact .inl rfl
def b3A(l:List Tm):(a74 l).length=l.length:=(d6v l _).length_eq
def a42{l:List Tm}{x:Tm}:x∈a74 l↔x∈l:=(d6v l _).mem_iff
def a9y{α:Type}[Inhabited α]{p:α->Bool}{l:List α}{j:Int}(j0:0<=j)(j1:j<l.length):(l.take (j+1).toNat).filter p=if p (ix l j)=true then(l.take j.toNat).filter p++[ix l j]else(l.take j.toNat).filter p:=by rw[U5 j0 j1,d7x];cases h:p (ix l j) <;> simp[h]
def a7m{α:Type}[Inhabited α]{p:α->Bool}{l:List α}{n:Int}(n0:0<=n)(n1:n<=l.length)(h:s6 n fun j=>p (ix l j)=true):(l.take n.toNat).filter p=l.take n.toNat:=by rw[d7I];intro x hx;obtain⟨i,hi,rfl⟩:=d5w hx;rw[d5n]at hi;have:=h i (by omega) (by omega);dsimp only at this;rw[s8 (by omega)]at this;rw[d7k];simpa using this
def a2N{α:Type}[Inhabited α]{l:List α}{i:Int}(i0:0<=i)(hi:i<l.length):l.drop i.toNat=ix l i::l.drop (i+1).toNat:=by rw[show(i+1).toNat=i.toNat+1 by omega,s8 (by omega)];exact d6E (by omega)
end
end Go.Qu
namespace Go.Proofs.YtapnoejokajcoaaGreatDoor
open Go Go.Wk Go.Wl Go.Rx Go.Re Go.Li Go.Qu Go.Fo 
attribute [local irreducible] j4
def anti:Nat->D3:=fun|26=>⟨78,fun|12=>some ⟨[3,58,59],[.slot 9 (.acc 26),.slot 60 (.int .i64)]⟩|4=>some ⟨[1,2,3,8,24,25],[.slot 9 (.acc 26),.slot 26 (.int .i64)]⟩|_=>none,fun|17=>some ⟨[],[.slot 9 (.acc 26)]⟩|_=>none⟩|56=>⟨42,fun|5=>some ⟨[0,1],[.slot 5 (.int .i64),.slot 6 (.int .i64),.cont 0 26]⟩|_=>none,fun|2=>some ⟨[0,1],[.slot 5 (.int .i64)]⟩|_=>none⟩|100=>⟨19,fun|2=>some ⟨[0,1,7],[.slot 8 (.int .i64)]⟩|_=>none,nn⟩|58=>⟨7,nn,nn⟩|_=>⟨0,nn,nn⟩
def b4Z(f:Int)(o:F3):=j7 (Y5 (f-172800-D4 (etI o.Main)) (j7 o.Main.Start.Time))
def b5b(t:Int)(o:F3):=j7 (Y5 (t+172800) (j7 o.Main.Start.Time))
def Vti(o:F3)(f:Int)(t:Int)(Q:List Tm->o6->Prop):Prop:=
∃(I:List Tm->Int->Prop),∃(m:List Tm->Int->Nat),I [j7 o.Main.Start.Time] 0/\∀(x:List Tm)(x_1:Int),I x x_1->(bR (x_1<(↑o.Main.b9.length:Int)) (0<=x_1/\x_1<(↑o.Main.b9.length:Int)/\(c6 (ix o.Main.b9 x_1).l6->c6 (ix o.Main.b9 x_1).Interval->c6 (ix o.Main.b9 x_1).Count->c6 (ix o.Main.b9 x_1).v8->c6 (f-172800)/\c6 (f-172800-D4 (etI o.Main))/\c6 (t+172800)/\F9 (M1 (ix o.Main.b9 x_1))=true/\(bR ((J9 (j7 o.Main.Start.Time) (M1 (ix o.Main.b9 x_1)) (b4Z f o) (b5b t o)).snd≠o6.nil) ((J9 (j7 o.Main.Start.Time) (M1 (ix o.Main.b9 x_1)) (b4Z f o) (b5b t o)).snd=o6.no (J9 (j7 o.Main.Start.Time) (M1 (ix o.Main.b9 x_1)) (b4Z f o) (b5b t o)).snd.n0/\Q [] (o6.p (105:Nat) ([101,120,112,97,110,100]:List UInt8) (J9 (j7 o.Main.Start.Time) (M1 (ix o.Main.b9 x_1)) (b4Z f o) (b5b t o)).snd.n0)) (c6 (x_1+1)/\I (J9 (j7 o.Main.Start.Time) (M1 (ix o.Main.b9 x_1)) (b4Z f o) (b5b t o)).fst (x_1+1)/\m (J9 (j7 o.Main.Start.Time) (M1 (ix o.Main.b9 x_1)) (b4Z f o) (b5b t o)).fst (x_1+1)<m x x_1)))) (∃(I:List Tm->Int->Prop),∃(m:List Tm->Int->Nat),I x 0/\∀(x:List Tm)(x_2:Int),I x x_2->(bR (x_2<(↑o.Main.o5.length:Int)) (0<=x_2/\x_2<(↑o.Main.o5.length:Int)/\(x.length+[j7 (ix o.Main.o5 x_2).Time].length)*(some (56:Nat)).getD (0:Nat)<=140737488355328/\c6 (x_2+1)/\I (x++[j7 (ix o.Main.o5 x_2).Time]) (x_2+1)/\m (x++[j7 (ix o.Main.o5 x_2).Time]) (x_2+1)<m x x_2) (∃(J:List Tm->Prop),((↑x.length:Int)<=1000000/\∃(J_1:Int->Prop),(∃(I:Int->Prop),∃(m:Int->Nat),I 0/\∀(x_3:Int),I x_3->(bR (x_3<(↑x.length:Int)) (0<=x_3/\x_3<(↑x.length:Int)/\(c6 (ix x x_3).Day.Year->c6 (ix x x_3).Day.Month->c6 (ix x x_3).Day.Date->c6 (ix x x_3).Hour->c6 (ix x x_3).Min->c6 (ix x x_3).D8->(↑o.Main.l5.length:Int)<=1000000/\(bR (L7 (Y7 o) (j7 (ix x x_3))=true) (J_1 x_3) (c6 (x_3+1)/\I (x_3+1)/\m (x_3+1)<m x_3)))) (J_1 (-1:Int))))/\∀(x_3:Int),J_1 x_3->(bR (x_3=(-1:Int)) (J x) (c6 (x_3+1)/\∃(I:Int->Int->List Tm->Prop),∃(m:Int->Int->List Tm->Nat),I x_3 (x_3+1) x/\∀(x x_4:Int)(x_5:List Tm),I x x_4 x_5->(bR (x_4<(↑x_5.length:Int)) (0<=x_4/\x_4<(↑x_5.length:Int)/\(c6 (ix x_5 x_4).Day.Year->c6 (ix x_5 x_4).Day.Month->c6 (ix x_5 x_4).Day.Date->c6 (ix x_5 x_4).Hour->c6 (ix x_5 x_4).Min->c6 (ix x_5 x_4).D8->(↑o.Main.l5.length:Int)<=1000000/\(bR (¬L7 (Y7 o) (j7 (ix x_5 x_4))=true) (0<=x/\x<(↑x_5.length:Int)/\c6 (x+1)/\c6 (x_4+1)/\I (x+1) (x_4+1) (x_5.set x.toNat (j7 (ix x_5 x_4)))/\m (x+1) (x_4+1) (x_5.set x.toNat (j7 (ix x_5 x_4)))<m x x_4 x_5) (c6 (x_4+1)/\I x (x_4+1) x_5/\m x (x_4+1) x_5<m x x_4 x_5)))) (0<=x/\x<=(↑x_5.length:Int)/\0<=x/\x<=(↑(List.take ((some x).getD 0).toNat x_5++List.replicate (none.getD (↑x_5.length:Int)-(some x).getD 0).toNat (Tm.mk (Dy.mk 0 0 0) 0 0 0 false false)++List.drop (((some x).getD 0).toNat+(none.getD (↑x_5.length:Int)-(some x).getD 0).toNat) x_5).length:Int)/\J (List.take ((some x).getD (↑(List.take ((some x).getD 0).toNat x_5++List.replicate (none.getD (↑x_5.length:Int)-(some x).getD 0).toNat (Tm.mk (Dy.mk 0 0 0) 0 0 0 false false)++List.drop (((some x).getD 0).toNat+(none.getD (↑x_5.length:Int)-(some x).getD 0).toNat) x_5).length:Int)-none.getD 0).toNat (List.take ((some x).getD 0).toNat x_5++List.replicate (none.getD (↑x_5.length:Int)-(some x).getD 0).toNat (Tm.mk (Dy.mk 0 0 0) 0 0 0 false false)++List.drop (((some x).getD 0).toNat+(none.getD (↑x_5.length:Int)-(some x).getD 0).toNat) x_5)))))))/\∀(x:List Tm),J x->x.length<=1000000/\(∀(x_3:Tm),x_3∈x->∀(y:Tm),y∈x->b8 x_3=b8 y->x_3=y)/\(↑(a74 x).length:Int)<=1000000/\Q (ded (a74 x)) o6.nil))))
def pti(o:F3)(f:Int)(t:Int)(hf:a2l o.Main)(hn:0<=D4 o.Main/\D4 o.Main<=400000000000)(hff:0<=f/\f<315537897600)(htt:0<=t/\t<315537897600)(hT:b1f (tmA 105 o f t)):Vti o f t (fun y0 y1=>y0=(N8 105 o f t).1/\y1=(N8 105 o f t).2):=by
 unfold Vti b5b b4Z;simp only[y8,A9,B5,C7,C6,C8,D0,C5,C3,D2,B9,d4Z,d7C,d8U,d8T];obtain⟨f1,f2,f3,f4,f5,f6,f7,f8,f9,f10,f11⟩:=hf;refine⟨fun(x:List Tm) i=>0<=i/\i<=o.Main.b9.length/\x.length<=1000/\tmE 105 o f t [o.Main.Start.Time] o.Main.b9=tmE 105 o f t x (o.Main.b9.drop i.toNat),fun _ i=>((o.Main.b9.length:Int)-i).toNat,⟨by omega,by omega,by show 1<=1000;decide,rfl⟩,?_⟩;rintro x i ⟨i0,i1,xl,hx⟩;refine⟨fun hi=>?_,fun hi=>?_⟩
 . have hE:=c0r o.Main.Start.Time (ix o.Main.b9 i) (Y5 (f-172800-D4 o.Main) o.Main.Start.Time) (Y5 (t+172800) o.Main.Start.Time);have hl:=@b6g o.Main.Start.Time (Y5 (f-172800-D4 o.Main) o.Main.Start.Time) (Y5 (t+172800) o.Main.Start.Time) (ix o.Main.b9 i);rw[a2N i0 hi,tmE,tmR]at hx;refine⟨i0,hi,fun _ _ _ _=>⟨⟨by omega,by omega⟩,⟨by omega,by omega⟩,⟨by omega,by omega⟩,f8 _ (w5 i0 hi),fun he=>?_,fun he=>⟨⟨by omega,by omega⟩,⟨by omega,by omega,by omega,?_⟩,by dsimp only;omega⟩⟩⟩
   . rw[if_neg he]at hx;unfold N8;rw[hx,if_neg (fun e=>by cases e)];exact⟨hE.resolve_left he,rfl,rfl⟩
   . rw[if_pos (d4S.1 he)]at hx;exact hx
 rw[d6t (by omega),tmE]at hx;clear i0 i1 hi i;refine⟨fun(y:List Tm) i=>0<=i/\i<=o.Main.o5.length/\y=x++(o.Main.o5.take i.toNat).map E6.Time/\(y.length:Int)=x.length+i,fun _ i=>((o.Main.o5.length:Int)-i).toNat,⟨by omega,by omega,by simp,by omega⟩,?_⟩;rintro y i ⟨i0,i1,hy,yl⟩;refine⟨fun hi=>⟨i0,hi,by show(y.length+1)*56<=_;omega,⟨by omega,by omega⟩,⟨by omega,by omega,?_,?_⟩,by dsimp only;omega⟩,fun hi=>?_⟩
 . rw[U5 i0 hi,d7v,hy,d5x];rfl
 . rw[d4Y];simp only[d6p];omega
 have hy2:y=x++o.Main.o5.map E6.Time:=by rw[hy,d5z (by omega)]
 have ha:tmA 105 o f t=y.filter fun t=>!L7 o t:=by unfold tmA;rw[hx,hy2]
 rw[ha]at hT;have hS:N8 105 o f t=(ded (a74 (y.filter fun t=>!L7 o t)),.nil):=by unfold N8;rw[hx,if_pos rfl,ha]
 rw[hS];have yl2:(y.length:Int)<=10000:=by omega
 clear hx hy hy2 ha hS i0 i1 hi yl i;have ht:y.take (y.length:Int).toNat=y:=d5z (by omega);refine⟨fun z=>z=y.filter fun t=>!L7 o t,⟨by omega,fun x=>(x=-1/\s6 y.length fun j=>(!L7 o (ix y j))=true)∨(0<=x/\x<y.length/\L7 o (ix y x)=true/\s6 x fun j=>(!L7 o (ix y j))=true),⟨fun i=>0<=i/\i<=y.length/\s6 i fun j=>(!L7 o (ix y j))=true,fun i=>((y.length:Int)-i).toNat,⟨by omega,by omega,s6.zero⟩,?_⟩,?_⟩,?_⟩
 . rintro i ⟨i0,i1,ai⟩;refine⟨fun hi=>⟨i0,hi,fun _ _ _ _ _ _=>⟨by omega,fun h=>.inr ⟨i0,hi,h,ai⟩,fun h=>⟨⟨by omega,by omega⟩,⟨by omega,by omega,ai.succ ?_⟩,by dsimp only;omega⟩⟩⟩,fun hi=>.inl ⟨rfl,ai.le (by omega)⟩⟩;rw[d5E]at h;rw[h];rfl
 . rintro x hx;refine⟨fun e=>?_,fun e=>?_⟩
   . rcases hx with⟨_,ai⟩|⟨x0,_⟩
     . have:=a7m (p:=fun t=>!L7 o t) (by omega) (by omega) ai;rw[ht]at this;exact this.symm
     . omega
   obtain⟨x0,x1,hb,ai⟩:=hx.resolve_left (fun h=>e h.1);refine⟨⟨by omega,by omega⟩,fun(i j:Int)(L:List Tm)=>0<=i/\i<j/\j<=y.length/\L.length=y.length/\L.take i.toNat=(y.take j.toNat).filter (fun t=>!L7 o t)/\∀q:Int,j<=q->q<y.length->ix L q=ix y q,fun _ j _=>((y.length:Int)-j).toNat,⟨x0,by omega,by omega,rfl,?_,fun _ _ _=>rfl⟩,?_⟩
   . rw[a9y x0 x1,if_neg (by rw[hb];decide),a7m (p:=fun t=>!L7 o t) x0 (by omega) ai]
   rintro i j L ⟨i0,ij,j1,hL,hl,hq⟩;refine⟨fun hj=>?_,fun hj=>?_⟩
   . have e1:=hq j (by omega) (by omega);rw[e1];have fi:=a9y (p:=fun t=>!L7 o t) (l:=y) (j:=j) (by omega) (by omega);refine⟨by omega,hj,fun _ _ _ _ _ _=>⟨by omega,fun h=>⟨i0,by omega,⟨by omega,by omega⟩,⟨by omega,by omega⟩,⟨by omega,by omega,by omega,by rw[d7M];exact hL,?_,fun q q0 q1=>?_⟩,by dsimp only;omega⟩,fun h=>⟨⟨by omega,by omega⟩,⟨i0,by omega,by omega,hL,?_,fun q q0 q1=>hq q (by omega) q1⟩,by dsimp only;omega⟩⟩⟩
     . rw[show(i+1).toNat=i.toNat+1 by omega,take_set (by omega),fi,if_pos (by rw[d5E]at h;rw[h];rfl),hl]
     . rw[a8X _ (by omega) (by omega) (by omega)];exact hq q (by omega) q1
     . rw[fi,if_neg (by rw[d4S.1 h];decide),hl]
   . have e2:y.take j.toNat=y:=d5z (by omega);rw[e2]at hl;refine⟨by omega,by omega,by omega,?_,?_⟩
     . simp only[d4Y,d5n,d6c,d6N];omega
     . rw[a6X (by omega),hl]
 . rintro z hz;have zl:z.length<=y.length:=by rw[hz];exact d8j _ _
   rw[hz]at zl ⊢;exact⟨by omega,hT,by rw[b3A];omega,rfl,rfl⟩
def Nti:Env:=d01.kD 26 (r38.c (rI.c (rI.c .n))) (.acc 26) (.err) (fun y=>[a2l y.1.Main,(0<=D4 y.1.Main/\D4 y.1.Main<=400000000000),(0<=y.2.1/\y.2.1<315537897600),(0<=y.2.2.1/\y.2.2.1<315537897600),b1f (tmA 105 y.1 y.2.1 y.2.2.1)]) (fun y=>((N8 105 y.1 y.2.1 y.2.2.1).1:List Tm)) (fun y=>((N8 105 y.1 y.2.1 y.2.2.1).2:o6))
def Nti_ok:c8 Nti:=NI58_ok.kD Tryz.call26 Tryz.func26 (inlHN_ok NI58_ok H0_ok anti 5) (an:=anti 26) (fun _=>rfl) fun y ho=>kc (pti y.1 y.2.1 y.2.2.1 ho.1 ho.2.1 ho.2.2.1 ho.2.2.2.1 ho.2.2.2.2.1) (by kernel_rfl)
end Go.Proofs.YtapnoejokajcoaaGreatDoor
