/- 79 texts, one behind the other. -/
import Derived.Test.YtapnoejokajcoaaGreatDoorX7
import Derived.Test.YtapnoejokajcoaaGreatDoorX3
import Derived.Test.YtapnoejokajcoaaGreatDoorX6
import Derived.Shelf.SlSortCmp.NoneTotal
import Derived.Ground.SlsfProg
import Derived.Test.YtapnoejokajcoaaGreatDoorProg
import Derived.Calls
import GoSem.Step
import Derived.RunT
set_option linter.defProp false
set_option linter.unusedVariables false
set_option linter.unusedSimpArgs false
set_option maxRecDepth 100000
noncomputable section
def d7S:=@getElem!_pos
def d7W:=@List.flatMap_append
def d8m:=@Int.not_le
def d8v:=@Int.sub_zero
def d8w:=@Option.getD_none
namespace Go.Proofs.YtapnoejokajcoaaGreatDoor
open Go Go.Wk Go.Wl Go.Rx Go.Re Go.Li Go.Qu Go.Fo 
attribute [local irreducible] i7
def c8L:Nat->D1:=fun|35=>⟨53,fun|4=>some ⟨[31,32],[.slot 33 (.int .i64)]⟩|_=>none,nn⟩|76=>⟨9,nn,nn⟩|126=>⟨19,fun|2=>some ⟨[0,1,7],[.slot 8 (.int .i64)]⟩|_=>none,nn⟩|77=>⟨6,nn,nn⟩|_=>⟨0,nn,nn⟩
def V34(p:K3)(Q:Bool->Prop):Prop:=
List.length p.Name<=9223372036854775807/\(¬¬a1X p.Name=true/\p.D9≠[]->List.length p.D9<=9223372036854775807)/\(¬(¬a1X p.Name=true∨p.D9≠[]/\¬a1X p.D9=true)->p.Params.length<=1000000000)/\(¬((¬a1X p.Name=true∨p.D9≠[]/\¬a1X p.D9=true)∨L5 (K3.mk p.D9 p.Name p.Params p.Value)=true)->List.length p.Value<=9223372036854775807)/\(bR (((¬a1X p.Name=true∨p.D9≠[]/\¬a1X p.D9=true)∨L5 (K3.mk p.D9 p.Name p.Params p.Value)=true)∨¬Q4 false p.Value=true) (Q false) (∃(I:Int->Prop),∃(m:Int->Nat),I 0/\∀(x:Int),I x->(bR (x<(↑p.Params.length:Int)) (0<=x/\x<(↑p.Params.length:Int)/\List.length (ix p.Params x).Name<=9223372036854775807/\(bR (¬a1X (ix p.Params x).Name=true∨(↑(ix p.Params x).o9.length:Int)=0) (Q false) (∃(I_1:Int->Prop),∃(m_1:Int->Nat),I_1 0/\∀(x_1:Int),I_1 x_1->(bR (x_1<(↑(ix p.Params x).o9.length:Int)) (0<=x_1/\x_1<(↑(ix p.Params x).o9.length:Int)/\(ix (ix p.Params x).o9 x_1).length<=9223372036854775807/\(bR (¬Q4 true (ix (ix p.Params x).o9 x_1)=true) ((bR (0<=x_1) (Q false) (c6 (x+1)/\I (x+1)/\m (x+1)<m x))) (c6 (x_1+1)/\I_1 (x_1+1)/\m_1 (x_1+1)<m_1 x_1))) ((bR ((0:Int)<=(-1:Int)) (Q false) (c6 (x+1)/\I (x+1)/\m (x+1)<m x))))))) (Q true))))
def a0B(s:y8):a1X s=true↔isName s:=d5p
def b5G(s:y8):Q4 false s=s.all C8:=by unfold Q4;simp
def b5t(s:y8):Q4 true s=s.all b3a:=by unfold Q4 b3a;simp
def b2l{p:K3}(h:¬(b0F p/\L5 p=false)):false=D4 p:=by
 cases e:D4 p
 . rfl
 . exact absurd (H6.1 e) h
def b7y{p:K3}(h:b0F p/\L5 p=false):true=D4 p:=(H6.2 h).symm
def p34(p:K3)(h:z7 p):V34 p (fun y0=>y0=D4 p):=by
 unfold V34;refine⟨by have:=h.name;omega,fun _=>by have:=h.group;omega,fun _=>by have:=h.params;omega,fun _=>by have:=h.value;omega,fun hb=>b2l fun⟨⟨a,b,c,_⟩,d⟩=>?_,fun hg=>?_⟩
 . rcases hb with((hb|⟨hb,hb2⟩)|hb)|hb
   . exact hb ((a0B _).2 a)
   . exact hb2 ((a0B _).2 (b hb))
   . have hb:L5 p=true:=hb;rw[d]at hb;cases hb
   . rw[b5G]at hb;exact hb c
 have hN:isName p.Name:=(a0B _).1 (d5O fun n=>hg (.inl (.inl (.inl n))));have hG:p.D9≠[]->isName p.D9:=fun e=>(a0B _).1 (d5O fun n=>hg (.inl (.inl (.inr ⟨e,n⟩))));have hM:L5 p=false:=by
  cases e:L5 p
  . rfl
  . exact absurd (.inl (.inr e)) hg
 have hV:p.Value.all C8=true:=by rw[<- b5G];exact d5O fun n=>hg (.inr n)
 clear hg;refine⟨fun i=>0<=i/\i<=p.Params.length/\∀j:Int,0<=j->j<i->a4O (ix p.Params j),fun i=>((p.Params.length:Int)-i).toNat,⟨by omega,by omega,fun j _ _=>by omega⟩,?_⟩;rintro i ⟨i0,i1,hx⟩;have hp:=h.params;refine⟨fun hi=>?_,fun hi=>b7y ⟨⟨hN,hG,hV,fun x hm=>?_⟩,hM⟩⟩
 . have hm:=u7 i0 hi;have sx:=h.param _ hm;obtain⟨v1,v2⟩:=a4X h hM hm;generalize hxe:ix p.Params i=x at *;have bad:¬a4O x->false=D4 p:=fun hn=>b2l fun⟨⟨_,_,_,d⟩,_⟩=>hn (d x hm);refine⟨i0,hi,by have:=sx.name;omega,fun hb=>bad fun⟨a,b,_⟩=>?_,fun hg=>?_⟩
   . rcases hb with hb|hb
     . exact hb ((a0B _).2 a)
     . exact b (List.length_eq_zero_iff.1 (by omega))
   have hxN:isName x.Name:=(a0B _).1 (d5O fun n=>hg (.inl n));have hxV:x.o9≠[]:=fun e=>hg (.inr (by rw[e];rfl));refine⟨fun k=>0<=k/\k<=x.o9.length/\∀j:Int,0<=j->j<k->(ix x.o9 j).all b3a=true,fun k=>((x.o9.length:Int)-k).toNat,⟨by omega,by omega,fun j _ _=>by omega⟩,?_⟩;rintro k ⟨k0,k1,hk⟩;refine⟨fun hkl=>⟨k0,hkl,by have:=v2 _ (u7 k0 hkl);omega,fun hs=>⟨fun _=>bad fun⟨_,_,c⟩=>?_,fun n=>absurd k0 n⟩,fun hs=>⟨⟨by omega,by omega⟩,⟨by omega,by omega,fun j j0 j1=>?_⟩,by first|omega|(dsimp only;omega)⟩⟩,fun hkl=>⟨fun n=>by omega,fun _=>⟨⟨by omega,by omega⟩,⟨by omega,by omega,fun j j0 j1=>?_⟩,by first|omega|(dsimp only;omega)⟩⟩⟩
   . rw[b5t]at hs;exact hs (c _ (u7 k0 hkl))
   . rw[b5t]at hs;by_cases e:j=k
     . subst e;exact d4y.1 hs
     . exact hk j j0 (by omega)
   . by_cases e:j=i
     . subst e;rw[hxe];refine⟨hxN,hxV,fun v hv=>?_⟩;obtain⟨n,hn,rfl⟩:=d5d hv;have:=hk n (by omega) (by omega);rw[u6 (by simpa using hn)]at this;simpa using this
     . exact hx j j0 (by omega)
 . obtain⟨n,hn,rfl⟩:=d5d hm;have:=hx n (by omega) (by omega);rw[u6 (by simpa using hn)]at this;simpa using this
def N34:Env:=N65.kL 35 (r86.c .n) (.bool) (fun y=>[z7 y.1]) (fun y=>D4 y.1)
def N34_ok:c8 N34:=N65_ok.kL Tryz.call35 Tryz.func35 (inlHN_ok N65_ok H0_ok c8L 4) (an:=c8L 35) (fun _ _=>trivial) fun y ho=>kc (p34 y.1 ho.1) (by kernel_rfl)
end Go.Proofs.YtapnoejokajcoaaGreatDoor
section
namespace Go.Proofs.YtapnoejokajcoaaGreatDoor
open Go Go.Wk Go.Wl Go.Rx Go.Re Go.Li Go.Qu Go.Fo 
def b5k:∀s:y8,(esc s).length<=2*s.length
 |[]=>d4R _
 |c::s=>by
  have ih:=b5k s;have e:esc (c::s)=a7V c++esc s:=by simp[esc]
  have:(a7V c).length<=2:=by unfold a7V;split <;> (try split) <;> (try split) <;> simp
  rw[e,d4E,d4P];omega
attribute [local irreducible] i7
def d2w:Nat->D1:=fun|159=>⟨15,nn,nn⟩|_=>⟨0,nn,nn⟩
def c0M(s:y8):=J6 (34:UInt8) ([94,39]:List UInt8) (J6 (94:UInt8) ([94,94]:List UInt8) s)
def b9c(s:y8):=J6 (10:UInt8) ([94,110]:List UInt8) (c0M s)
def V70(s:y8)(Q:y8->Prop):Prop:=
List.length s<=1000000000/\([94,94]:List UInt8).length=2/\List.length (J6 (94:UInt8) ([94,94]:List UInt8) s)<=1000000000/\([94,39]:List UInt8).length=2/\List.length (c0M s)<=1000000000/\([94,110]:List UInt8).length=2/\List.length (b9c s)<=4000000000/\([59,58,44]:List UInt8)=([59,58,44]:List UInt8)/\(bR ((List.any (b9c s) fun(c:UInt8)=>([59,58,44]:List UInt8).contains c)=true) (([34]:List UInt8).length+List.length (b9c s)<=9223372036854775807/\List.length (([34]:List UInt8)++J6 (10:UInt8) ([94,110]:List UInt8) (c0M s))+([34]:List UInt8).length<=9223372036854775807/\Q (([34]:List UInt8)++J6 (10:UInt8) ([94,110]:List UInt8) (c0M s)++([34]:List UInt8))) (Q (b9c s)))
def p70(s:y8)(hs:s.length<=100000000):V70 s (fun y0=>y0=told s):=by
 unfold V70 b9c c0M;have l1:=a2O 94 (t:=[94,94]) rfl s;have l2:=a2O 34 (t:=[94,39]) rfl (J6 94 [94,94] s);have e:=b1j s;have l3:=b5k s;have q:=a9v s;rw[e,q];refine⟨by omega,rfl,by omega,rfl,by omega,rfl,by omega,rfl,fun h=>⟨by simp only[d4P,d5G];omega,by simp only[d4E,d4P,d5G];omega,?_⟩,fun h=>?_⟩
 . unfold told;rw[if_pos h];rfl
 . unfold told;rw[if_neg h]
def N70:Env:=N34.kL 159 (rS.c .n) (.str) (fun y=>[List.length (α:=UInt8) y.1<=100000000]) (fun y=>told y.1)
def N70_ok:c8 N70:=N34_ok.kL Tryz.call159 Tryz.func159 (inlHN_ok N34_ok H0_ok d2w 2) (an:=d2w 159) (fun _ _=>trivial) fun y ho=>kc (p70 y.1 ho.1) (by kernel_rfl)
end Go.Proofs.YtapnoejokajcoaaGreatDoor
end
namespace Go.Proofs.YtapnoejokajcoaaGreatDoor
open Go Go.Wk Go.Wl Go.Rx Go.Re Go.Li Go.Qu Go.Fo 
attribute [local irreducible] i7
def d05:Nat->D1:=fun|127=>⟨59,fun|7=>some ⟨[1,25,26],[.slot 4 .str,.slot 27 (.int .i64)]⟩|11=>some ⟨[1,4,6,25,26,27,32,33],[.slot 7 (.acc 9),.slot 34 (.int .i64)]⟩|_=>none,fun|6=>some ⟨[1],[.slot 4 .str]⟩|_=>none⟩|_=>⟨0,nn,nn⟩
def c3z(p:K3)(x_1:Int)(x_2:List (List UInt8)):=([59]:List UInt8)++(ix p.Params x_1).Name++([61]:List UInt8)++Lib.join x_2 ([44]:List UInt8)
def V32(p:K3)(Q:y8->l8->Prop):Prop:=
z7 (K3.mk p.D9 p.Name p.Params p.Value)/\(bR (¬Li.D4 (K3.mk p.D9 p.Name p.Params p.Value)=true) (Q [] (l8.no 2)) (∃(J:List UInt8->Prop),((bR (p.D9≠[]) (List.length p.D9+([46]:List UInt8).length<=9223372036854775807/\List.length (p.D9++([46]:List UInt8))+List.length p.Name<=9223372036854775807/\J (p.D9++([46]:List UInt8)++p.Name)) (J p.Name)))/\∀(x:List UInt8),J x->∃(I:List UInt8->Int->Prop),∃(m:List UInt8->Int->Nat),I x 0/\∀(x:List UInt8)(x_1:Int),I x x_1->(bR (x_1<(↑p.Params.length:Int)) (0<=x_1/\x_1<(↑p.Params.length:Int)/\∃(I_1:List (List UInt8)->Int->Prop),∃(m_1:List (List UInt8)->Int->Nat),I_1 [] 0/\∀(x_2:List (List UInt8)) (x_3:Int),I_1 x_2 x_3->(bR (x_3<(↑(ix p.Params x_1).o9.length:Int)) (0<=x_3/\x_3<(↑(ix p.Params x_1).o9.length:Int)/\(ix (ix p.Params x_1).o9 x_3).length<=100000000/\(x_2.length+[told (ix (ix p.Params x_1).o9 x_3)].length)*(some (16:Nat)).getD (0:Nat)<=140737488355328/\c6 (x_3+1)/\I_1 (x_2++[told (ix (ix p.Params x_1).o9 x_3)]) (x_3+1)/\m_1 (x_2++[told (ix (ix p.Params x_1).o9 x_3)]) (x_3+1)<m_1 x_2 x_3) (([59]:List UInt8).length+List.length (ix p.Params x_1).Name<=9223372036854775807/\List.length (([59]:List UInt8)++(ix p.Params x_1).Name)+([61]:List UInt8).length<=9223372036854775807/\((Lib.join x_2 ([44]:List UInt8)).length<=140737488355328/\x_2.length<=140737488355328)/\List.length (([59]:List UInt8)++(ix p.Params x_1).Name++([61]:List UInt8))+(Lib.join x_2 ([44]:List UInt8)).length<=9223372036854775807/\x.length+List.length (c3z p x_1 x_2)<=9223372036854775807/\c6 (x_1+1)/\I (x++(c3z p x_1 x_2)) (x_1+1)/\m (x++(c3z p x_1 x_2)) (x_1+1)<m x x_1))) (x.length+([58]:List UInt8).length<=9223372036854775807/\List.length (x++([58]:List UInt8))+List.length p.Value<=9223372036854775807/\Q (x++([58]:List UInt8)++p.Value) l8.nil))))
def b8g{p:K3}(h:z7 p):(if p.D9=[]then p.Name else p.D9++46::p.Name).length<=105001:=by
 have:=h.name;have:=h.group;split
 . omega
 . simp only[d4E,d4P];omega
def b8m{p:K3}(h:z7 p)(hm:L5 p=false)(i:Nat):((p.Params.take i).flatMap a6Y).length<=4200000:=by
 have h1:=K5 (f:=a6Y) (k:=210000) (l:=p.Params.take i) fun x hx=>(a96 h hm (d7R hx)).2;have h2:=a4l hm;have h3:(p.Params.take i).length<=20:=by rw[d4Y];omega
 have h4:=d4X 210000 h3;omega
def p32(p:K3)(h:z7 p):V32 p (fun y0 y1=>y0=(a0l p).1/\y1=(a0l p).2):=by
 unfold V32 c3z;refine⟨h,fun hr=>?_,fun hr=>?_⟩
 . have hr:¬D4 p=true:=hr;unfold a0l;rw[if_neg hr];exact⟨rfl,rfl⟩
 have hr:D4 p=true:=d4y.1 hr;obtain⟨h0,hM⟩:=H6.1 hr;have s1:=h.name;have s2:=h.group;have s3:=h.value;have s4:=a4l hM;refine⟨fun x=>x=if p.D9=[]then p.Name else p.D9++46::p.Name,⟨fun hg=>⟨by simp only[d4P,d5G];omega,by simp only[d4E,d4P,d5G];omega,by rw[if_neg hg];simp⟩,fun hg=>by rw[if_pos (d4y.1 hg)]⟩,?_⟩;rintro x hx;have lx:=b8g h;rw[<- hx]at lx;refine⟨fun y i=>0<=i/\i<=p.Params.length/\y=x++(p.Params.take i.toNat).flatMap a6Y,fun _ i=>((p.Params.length:Int)-i).toNat,⟨by omega,by omega,by simp⟩,?_⟩;rintro y i ⟨i0,i1,rfl⟩;have fl:=b8m h hM i.toNat;refine⟨fun hi=>⟨i0,hi,?_⟩,fun hi=>?_⟩
 . have hm:=u7 i0 hi;have tk:=a2E i0 hi;obtain⟨v1,v2⟩:=a4X h hM hm;obtain⟨jl,tl⟩:=a96 h hM hm;have nl:=(h.param _ hm).name;generalize ix p.Params i=z at *;refine⟨fun l k=>0<=k/\k<=z.o9.length/\l=(z.o9.take k.toNat).map told,fun _ k=>((z.o9.length:Int)-k).toNat,⟨by omega,by omega,by simp⟩,?_⟩;rintro l k ⟨k0,k1,rfl⟩;refine⟨fun hk=>⟨k0,hk,by have:=v2 _ (u7 k0 hk);omega,by simp;omega,⟨by omega,by omega⟩,⟨by omega,by omega,by rw[a2E k0 hk];simp⟩,by first|omega|(dsimp only;omega)⟩,fun hk=>?_⟩;have e:z.o9.take k.toNat=z.o9:=d5e (by omega);rw[e,a9l];simp only[d4P,d5G,d4E,d5N];refine⟨by omega,by omega,⟨by omega,by omega⟩,by omega,by omega,⟨by omega,by omega⟩,⟨by omega,by omega,?_⟩,by first|omega|(dsimp only;omega)⟩;rw[tk];simp[a6Y]
 . have e:p.Params.take i.toNat=p.Params:=d5e (by omega);rw[e]at fl ⊢;simp only[d4P,d5G,d4E];refine⟨by omega,by omega,?_⟩;unfold a0l Li.tell;rw[if_pos hr,<- hx];simp
def d3A(p:K3)(nx:Nat):CR U:=⟨[z7 p],[],.E7 [.str ((a0l p).1),.err ((a0l p).2)],[]⟩
def c32(a:List (SV U))(nx:Nat):Option (CR U):=match a with|[.agg [.str p0,.str p1,.sl 130 p2,.str p3]]=>some (d3A (⟨p0,p1,p2,p3⟩) nx)|_=>none
def N32:Env:=N70.a0K 127 c32
def N32_ok:c8 N32:=N70_ok.a0K Tryz.call127 fun(args:List (SV U)) nx (c:CR U) (h:c32 args nx=some c) hp ho=>by
 unfold c32 at h;split at h
 . rename_i p0 p1 p2 p3;cases h;exact c6u (an:=d05 127) N70_ok (inlHN_ok N70_ok H0_ok d05 2) Tryz.func127 (k1:=.str) (k2:=.err) rfl hp (kc (p32 (⟨p0,p1,p2,p3⟩) ho.1) (by kernel_rfl))
 . cases h
def c8G:Nat->D1:=fun|91=>⟨76,fun|3=>some ⟨[1],[.slot 3 (.int .i64),.slot 4 (.int .i64)]⟩|8=>some ⟨[1,4,5],[.slot 3 (.int .i64),.slot 6 (.int .i64)]⟩|_=>none,nn⟩|_=>⟨0,nn,nn⟩
def c8i(p:K3):=(bif false then max (↑(List.length p.Value):Int) 100000 else min (↑(List.length p.Value):Int) 100000)+bif false then max (↑(List.length p.Name):Int) 100000 else min (↑(List.length p.Name):Int) 100000
def c8q(x:Int)(p:K3)(x_1:Int):=(x+bif false then max (↑(List.length (ix p.Params x_1).Name):Int) 100000 else min (↑(List.length (ix p.Params x_1).Name):Int) 100000)+bif false then max (↑(ix p.Params x_1).o9.length:Int) 100000 else min (↑(ix p.Params x_1).o9.length:Int) 100000
def c7F(p:K3):=(c8i p)+bif false then max (↑(List.length p.D9):Int) 100000 else min (↑(List.length p.D9):Int) 100000
def V31(p:K3)(Q:Bool->Prop):Prop:=
c6 (c8i p)/\c6 (c7F p)/\∃(I:Int->Int->Prop),∃(m:Int->Int->Nat),I (c7F p) 0/\∀(x x_1:Int),I x x_1->(bR (x_1<(↑p.Params.length:Int)/\x_1<=30) (0<=x_1/\x_1<(↑p.Params.length:Int)/\c6 (x+bif false then max (↑(List.length (ix p.Params x_1).Name):Int) 100000 else min (↑(List.length (ix p.Params x_1).Name):Int) 100000)/\c6 (c8q x p x_1)/\∃(I_1:Int->Int->Prop),∃(m_1:Int->Int->Nat),I_1 (c8q x p x_1) 0/\∀(x_2 x_3:Int),I_1 x_2 x_3->(bR (x_3<(↑(ix p.Params x_1).o9.length:Int)/\x_3<=30) (0<=x_3/\x_3<(↑(ix p.Params x_1).o9.length:Int)/\c6 (x_2+bif false then max (↑(ix (ix p.Params x_1).o9 x_3).length:Int) 100000 else min (↑(ix (ix p.Params x_1).o9 x_3).length:Int) 100000)/\c6 (x_3+1)/\I_1 (x_2+bif false then max (↑(ix (ix p.Params x_1).o9 x_3).length:Int) 100000 else min (↑(ix (ix p.Params x_1).o9 x_3).length:Int) 100000) (x_3+1)/\m_1 (x_2+bif false then max (↑(ix (ix p.Params x_1).o9 x_3).length:Int) 100000 else min (↑(ix (ix p.Params x_1).o9 x_3).length:Int) 100000) (x_3+1)<m_1 x_2 x_3) (c6 (x_1+1)/\I x_2 (x_1+1)/\m x_2 (x_1+1)<m x x_1))) (Q (decide ((↑p.Params.length:Int)<=30/\x<=5000))))
def U3(n:Nat):Int:=min (n:Int) 100000
def J9(n:Nat):0<=U3 n/\U3 n<=100000:=by unfold U3;omega
def S2{n:Nat}{k:Int}(h:U3 n<=k)(hk:k<100000):(n:Int)<=k:=by unfold U3 at h;omega
def a2T(l:List y8):Int:=(l.map fun v=>U3 v.length).sum
def c1C(a:List y8)(v:y8):a2T (a++[v])=a2T a+U3 v.length:=by simp[a2T]
def a42:∀l:List y8,0<=a2T l/\a2T l<=l.length*100000
 |[]=>by simp[a2T]
 |v::l=>by
  have:=a42 l;have:=J9 v.length;have e:a2T (v::l)=U3 v.length+a2T l:=by simp[a2T]
  rw[e,d4P];omega
def c01{l:List y8}{v:y8}(h:v∈l):U3 v.length<=a2T l:=by
 induction l with
 |nil=>cases h
 |cons a l ih =>
  have e:a2T (a::l)=U3 a.length+a2T l:=by simp[a2T]
  rw[e];have:=J9 a.length;have:=a42 l;rcases d4S.1 h with rfl|h
  . omega
  . have:=ih h;omega
def a8D(x:Param):Int:=U3 x.Name.length+U3 x.o9.length+a2T (x.o9.take 31)
def b5o(x:Param):0<=a8D x/\a8D x<=3300000:=by
 have:=J9 x.Name.length;have:=J9 x.o9.length;have:=a42 (x.o9.take 31);have:(x.o9.take 31).length<=31:=by rw[d4Y];omega
 unfold a8D;omega
def a2W(l:List Param):Int:=(l.map a8D).sum
def c0w(a:List Param)(x:Param):a2W (a++[x])=a2W a+a8D x:=by simp[a2W]
def a5W:∀l:List Param,0<=a2W l/\a2W l<=l.length*3300000
 |[]=>by simp[a2W]
 |x::l=>by
  have:=a5W l;have:=b5o x;have e:a2W (x::l)=a8D x+a2W l:=by simp[a2W]
  rw[e,d4P];omega
def b9E{l:List Param}{x:Param}(h:x∈l):a8D x<=a2W l:=by
 induction l with
 |nil=>cases h
 |cons a l ih =>
  have e:a2W (a::l)=a8D a+a2W l:=by simp[a2W]
  rw[e];have:=b5o a;have:=a5W l;rcases d4S.1 h with rfl|h
  . omega
  . have:=ih h;omega
def c6Z(p:K3):Int:=U3 p.Value.length+U3 p.Name.length+U3 p.D9.length+a2W (p.Params.take 31)
def b2J(p:K3):Bool:=decide ((p.Params.length:Int)<=30/\c6Z p<=5000)
def b1o{α:Type}{l:List α}{i:Int}(h0:0<=i)(h1:i<=l.length)(h2:i<=31)(h:¬(i<l.length/\i<=30)):l.take i.toNat=l.take 31:=by
 by_cases e:i=31
 . subst e;rfl
 . have:i=l.length:=by omega
   rw[d5e (by omega),d5e (by omega)]
def p31(p:K3)  : V31 p (fun y0=>y0=b2J p):=by
 unfold V31 c7F c8q c8i;simp only[d5c];have c1:=J9 p.Value.length;have c2:=J9 p.Name.length;have c3:=J9 p.D9.length;have e1:min (p.Value.length:Int) 100000=U3 p.Value.length:=rfl;have e2:min (p.Name.length:Int) 100000=U3 p.Name.length:=rfl;have e3:min (p.D9.length:Int) 100000=U3 p.D9.length:=rfl;rw[e1,e2,e3];refine⟨⟨by omega,by omega⟩,⟨by omega,by omega⟩,fun n i=>0<=i/\i<=p.Params.length/\i<=31/\n=U3 p.Value.length+U3 p.Name.length+U3 p.D9.length+a2W (p.Params.take i.toNat),fun _ i=>((p.Params.length:Int)-i).toNat,⟨by omega,by omega,by omega,by simp[a2W]⟩,?_⟩;rintro n i ⟨i0,i1,i2,hn⟩;have lp:=a5W (p.Params.take i.toNat);rw[d4Y]at lp;refine⟨fun⟨hi,h30⟩=>?_,fun hi=>?_⟩
 . have tk:=a2E i0 hi;generalize hx:ix p.Params i=x at tk ⊢;have d1:=J9 x.Name.length;have d2:=J9 x.o9.length;have e4:min (x.Name.length:Int) 100000=U3 x.Name.length:=rfl;have e5:min (x.o9.length:Int) 100000=U3 x.o9.length:=rfl;rw[e4,e5];refine⟨i0,hi,⟨by omega,by omega⟩,⟨by omega,by omega⟩,fun m k=>0<=k/\k<=x.o9.length/\k<=31/\m=n+U3 x.Name.length+U3 x.o9.length+a2T (x.o9.take k.toNat),fun _ k=>((x.o9.length:Int)-k).toNat,⟨by omega,by omega,by omega,by simp[a2T]⟩,?_⟩;rintro m k ⟨k0,k1,k2,hm⟩;have lv:=a42 (x.o9.take k.toNat);rw[d4Y]at lv;refine⟨fun⟨hk,hk30⟩=>?_,fun hk=>⟨⟨by omega,by omega⟩,⟨by omega,by omega,by omega,?_⟩,by first|omega|(dsimp only;omega)⟩⟩
   . have tv:=a2E k0 hk;generalize ix x.o9 k=v at tv ⊢;have e6:min (v.length:Int) 100000=U3 v.length:=rfl;have d3:=J9 v.length;rw[e6];exact⟨k0,hk,⟨by omega,by omega⟩,⟨by omega,by omega⟩,⟨by omega,by omega,by omega,by rw[tv,c1C];omega⟩,by first|omega|(dsimp only;omega)⟩
   . rw[b1o k0 k1 k2 hk]at hm;rw[tk,c0w];show m=_
     unfold a8D;omega
 . rw[b1o i0 i1 i2 hi]at hn;show _=decide _
   unfold c6Z;rw[hn]
def d3N(p:K3):Q1 U:=⟨[],[],H9 (b2J p)⟩
def c31(a:List (SV U)):Option (Q1 U):=match a with|[.agg [.str p0,.str p1,.sl 130 p2,.str p3]]=>some (d3N (⟨p0,p1,p2,p3⟩))|_=>none
def N31:Env:=N32.A5 91 c31
def N31_ok:c8 N31:=N32_ok.A5 Tryz.call91 fun(args:List (SV U)) (q:Q1 U) (h:c31 args=some q) ho=>by
 unfold c31 at h;split at h
 . rename_i p0 p1 p2 p3;cases h;exact G9 (an:=c8G 91) N32_ok (inlHN_ok N32_ok H0_ok c8G 2) Tryz.func91 (k:=.bool) (x:=b2J (⟨p0,p1,p2,p3⟩:K3)) trivial (kc (p31 (⟨p0,p1,p2,p3⟩) ) (by kernel_rfl)) 0
 . cases h
end Go.Proofs.YtapnoejokajcoaaGreatDoor
namespace Go.Qu
open Go Go.Wk Go.Wl Go.Rx Go.Re Go.Li Go.Fo
noncomputable section
def q7(n:Int)(p:Int->Prop):Prop:=∀j:Int,0<=j->j<n->p j
def q7.zero{p:Int->Prop}:q7 0 p:=fun j _ _=>by omega
def q7.succ{n:Int}{p:Int->Prop}(h:q7 n p)(hp:p n):q7 (n+1) p:=fun j j0 j1=>by
 by_cases e:j=n
 . rw[e];exact hp
 . exact h j j0 (by omega)
def q7.le{n m:Int}{p:Int->Prop}(h:q7 n p)(hm:m<=n):q7 m p:=fun j j0 j1=>h j j0 (by omega)
def q7.list{α:Type}[Inhabited α]{l:List α}{p:α->Prop}:q7 l.length (fun j=>p (ix l j))↔∀x∈l,p x:=
 ⟨fun h x hx=>by obtain⟨n,hn,rfl⟩:=d5d hx;have h:=h n (by omega) (by omega);dsimp only at h;rw[u6 (by simpa using hn)]at h;simpa using h,fun h j j0 j1=>h _ (u7 j0 j1)⟩
open Classical in
def bo(p:Prop):Bool:=decide p
open Classical in
def z6{p:Prop}:bo p=true↔p:=by unfold bo;exact d5p
def G2{p:Prop}(h:¬p):false=bo p:=by
 cases e:bo p with
 |true=>exact absurd (z6.1 e) h
 |false=>rfl
def a3q{p:Prop}(h:p):true=bo p:=(z6.2 h).symm
open Classical in
def a1o{p q:Prop}[d:Decidable p](h:p↔q):decide p=bo q:=by unfold bo;exact d5r.2 h
def etO(o:Obv):Obv:=Obv.mk o.Name (j6 o.Start) o.a8N o.To o.b9
def etZ(z:V8):V8:=V8.mk z.ID z.D8
def etA(a:Alm):Alm:=Alm.mk a.Action a.T6 a.Extra
def etP(p:K3):K3:=K3.mk p.D9 p.Name p.Params p.Value
def etM(m:I8):I8:=I8.mk (j6 m.Time) m.I3
def etI(x:R1):R1:=R1.mk (etM x.Start) x.End x.Span x.b9 x.o6 x.s6 x.p5 x.w5 x.Extra
def V9(o:F3):F3:=F3.mk o.Kind o.UID o.c9 (etI o.Main) o.Over o.Extra
def etN(x:Ins):Ins:=Ins.mk (j6 x.Start) (j6 x.End) (j6 x.u9) (decide (x.Over=true))
def C9(o:Obv):etO o=o:=by unfold etO;rw[y6]
def C6(z:V8):etZ z=z:=rfl
def C5(a:Alm):etA a=a:=rfl
def C4(p:K3):etP p=p:=rfl
def C3(m:I8):etM m=m:=by unfold etM;rw[y6]
def C2(x:R1):etI x=x:=by unfold etI;rw[C3]
def D0(o:F3):V9 o=o:=by unfold V9;rw[C2]
def B7(x:Ins):etN x=x:=by unfold etN;simp only[y6,d4F]
def b9a(n:Int):Bool:=decide (-86400<n/\n<86400)
def stN:y8:=[83,84,65,78,68,65,82,68]
def dlN:y8:=[68,65,89,76,73,71,72,84]
def c1S(o:Obv):Prop:=(o.Name=stN∨o.Name=dlN)/\(o7 o.Start=true/\o.Start.n5=false/\o.Start.UTC=false)/\b9a o.a8N=true/\b9a o.To=true/\(o.b9.length:Int)<=1/\((o.b9.length:Int)=1->F8 o.Start (ix o.b9 0)=true)
def a3W(z:V8):Prop:=z.ID≠[]/\(z.ID.length:Int)<=60/\z.ID.all C8=true/\(z.D8.length:Int)≠0/\(z.D8.length:Int)<=20/\q7 z.D8.length fun j=>c1S (ix z.D8 j)
def X5(z:V8):Prop:=z.D8.length<=25/\z.ID.length<=2000/\∀o∈z.D8,0<(o.b9.length:Int)->F6 (ix o.b9 0)=true
def tmZ:Tm:=⟨⟨0,0,0⟩,0,0,0,false,false⟩
def tmU:Tm:=⟨⟨0,0,0⟩,0,0,0,false,true⟩
def U6(e:l8):l8:=match e.num with
 |some n=>.no n
 |none=>e
def onS(o:Obv)(t:Int):Int×Bool×l8:=
 if t<b8 o.Start then(0,false,.nil)else
 if(o.b9.length:Int)=0 then(b8 o.Start,true,.nil)else
 (b8 (O3 o.Start (ix o.b9 0) (K8 (min t 315537897599) o.Start)).1,(O3 o.Start (ix o.b9 0) (K8 (min t 315537897599) o.Start)).2.1,(O3 o.Start (ix o.b9 0) (K8 (min t 315537897599) o.Start)).2.2)
structure Fz where
 best:Int
 out:Int
 some:Bool
 early:Int
def fzN(l:List Obv)(t:Int)(f:Fz)(i:Int):Fz:=
 let n:=onS (ix l i) t
 let e:=if b8 (ix l i).Start<b8 (ix l f.early).Start then i else f.early
 if n.2.1=true/\(f.some=false∨f.best<=n.1)then⟨n.1,(ix l i).To,true,e⟩else⟨f.best,f.out,f.some,e⟩
def fz(l:List Obv)(t:Int):Nat->Fz
 |0=>⟨0,0,false,0⟩
 |n+1=>fzN l t (fz l t n) n
def fzE(l:List Obv)(t:Int):Nat->Option l8
 |0=>none
 |n+1=>match fzE l t n with
  |some e=>some e
  |none=>if(onS (ix l n) t).2.2=.nil then none else some (U6 (onS (ix l n) t).2.2)
def U7(z:V8)(t:Int):Int×l8:=match fzE z.D8 t z.D8.length with
 |some e=>(0,e)
 |none=>if(fz z.D8 t z.D8.length).some=true then((fz z.D8 t z.D8.length).out,.nil)else((ix z.D8 (fz z.D8 t z.D8.length).early).a8N,.nil)
open Classical in
def U9(z:V8)(t:Tm):Int×l8:=if a3W z/\o7 t=true/\t.UTC=false then U7 z (b8 t)else(0,.no 2)
def a4N(t:Tm)(n:Int)(u:Bool):Tm×l8:=if(K8 (b8 t+n) ⟨⟨0,0,0⟩,0,0,0,false,u⟩).Day.Year=0 then(tmZ,.no 3)else(K8 (b8 t+n) ⟨⟨0,0,0⟩,0,0,0,false,u⟩,.nil)
open Classical in
def W3(z:V8)(t:Tm):Tm×l8:=if a3W z/\o7 t=true/\t.UTC=true then(t,.nil)else if(U9 z t).2=.nil then a4N t (-(U9 z t).1) true else(tmZ,(U9 z t).2)
def G8(p:K3):y8:=if(a0l p).2=.nil then(a0l p).1 else []
def bgN:y8:=[66,69,71,73,78]
def enN:y8:=[69,78,68]
def a1z(l:List K3)(no:y8->Bool):Prop:=(q7 l.length fun j=>G8 (ix l j)≠[]/\((G8 (ix l j)).length:Int)<=5000/\(ix l j).Name≠bgN/\(ix l j).Name≠enN/\no (ix l j).Name=false/\(0<j->(Op.bytesLess (G8 (ix l (j-1))) (G8 (ix l j))=true∨G8 (ix l (j-1))=G8 (ix l j))))/\(l.length:Int)<=100
def d3O(zs:List V8)(n:y8):Prop:=∃j:Int,0<=j/\j<zs.length/\(ix zs j).ID=n
def V0(zs:List V8)(m:I8):Prop:=o7 m.Time=true/\(m.I3≠[]->m.Time.n5=false/\m.Time.UTC=false/\d3O zs m.I3)
def R5(a b:I8):Bool:=decide (a.Time.n5=b.Time.n5/\a.Time.UTC=b.Time.UTC/\a.I3=b.I3)
def b0S(zs:List V8)(l:List I8)(like:I8):Prop:=(q7 l.length fun j=>V0 zs (ix l j)/\R5 (ix l j) like=true/\(0<j->b8 (ix l (j-1)).Time<b8 (ix l j).Time))/\(l.length:Int)<=100
def auN:y8:=[65,85,68,73,79]
def diN:y8:=[68,73,83,80,76,65,89]
def emN:y8:=[69,77,65,73,76]
def acN:y8:=[65,67,84,73,79,78]
def trN:y8:=[84,82,73,71,71,69,82]
def vnN:y8:=[86,69,82,83,73,79,78]
def a29(n:y8):Bool:=decide (n=acN∨n=trN)
def a0J(n:y8):Bool:=decide (n=vnN)
def a2s(n:y8):Bool:=decide (n=[85,73,68]∨n=[82,69,67,85,82,82,69,78,67,69,45,73,68]∨n=[68,84,83,84,65,82,84]∨n=[68,84,69,78,68]∨n=[68,85,69]∨n=[68,85,82,65,84,73,79,78]∨n=[82,82,85,76,69]∨n=[82,68,65,84,69]∨n=[69,88,68,65,84,69])
def b7W(a:Alm):Prop:=(a.Action=auN∨a.Action=diN∨a.Action=emN)/\-1000000000<=a.T6/\a.T6<=1000000000/\a1z a.Extra a29
open Classical in
def R8(zs:List V8)(x:R1):Prop:=V0 zs x.Start/\(x.End.length:Int)+x.Span.length<=1/\(x.b9.length:Int)<=1/\(x.w5.length:Int)<=10/\(q7 x.End.length fun j=>V0 zs (ix x.End j)/\R5 (ix x.End j) x.Start=true/\b8 x.Start.Time<b8 (ix x.End j).Time)/\(q7 x.Span.length fun j=>1<=ix x.Span j/\ix x.Span j<=1000000000/\(x.Start.Time.n5=true->(ix x.Span j).tmod 86400=0))/\(q7 x.b9.length fun j=>F8 x.Start.Time (ix x.b9 j)=true)/\(q7 x.p5.length fun j=>V0 zs (ix x.p5 j))/\(q7 x.w5.length fun j=>b7W (ix x.w5 j))/\b0S zs x.o6 x.Start/\b0S zs x.s6 x.Start/\a1z x.Extra a2s
def a2g(x:R1):Prop:=x.End.length<=60/\x.Span.length<=60/\x.b9.length<=5/\x.o6.length<=200/\x.s6.length<=200/\x.p5.length<=60/\x.w5.length<=15/\(∀r∈x.b9,F6 r=true)/\(∀a∈x.w5,(∀p∈a.Extra,z7 p)/\(a.Extra.length:Int)<=1000000)/\(∀p∈x.Extra,z7 p)/\(x.Extra.length:Int)<=1000000
def evN:y8:=[86,69,86,69,78,84]
def tdN:y8:=[86,84,79,68,79]
def c8d:y8:=[85,73,68]
open Classical in
def a0s(o:F3):Prop:=((o.Kind=evN∨o.Kind=tdN)/\o.UID≠[]/\(o.UID.length:Int)<=100/\(o.c9.length:Int)<=5/\(o.Over.length:Int)<=50/\(o.Main.p5.length:Int)<=0)/\D4 ⟨[],c8d,[],o.UID⟩=true/\a1z o.Extra a0J/\R8 o.c9 o.Main/\(q7 o.c9.length fun j=>a3W (ix o.c9 j)/\q7 j fun k=>(ix o.c9 k).ID≠(ix o.c9 j).ID)/\(q7 o.Over.length fun j=>((ix o.Over j).p5.length:Int)=1/\((ix o.Over j).b9.length:Int)+(ix o.Over j).o6.length+(ix o.Over j).s6.length<=0/\R8 o.c9 (ix o.Over j)/\R5 (ix (ix o.Over j).p5 0) o.Main.Start=true/\(0<j->b8 (ix (ix o.Over (j-1)).p5 0).Time<b8 (ix (ix o.Over j).p5 0).Time))
def a1D(o:F3):Prop:=o.Kind.length<=3000/\o.UID.length<=3000/\o.c9.length<=8/\o.Over.length<=60/\(∀p∈o.Extra,z7 p)/\(o.Extra.length:Int)<=1000000/\a2g o.Main/\(∀z∈o.c9,X5 z)/\∀x∈o.Over,a2g x
end
end Go.Qu
namespace Go.Proofs.YtapnoejokajcoaaGreatDoor
open Go Go.Wk Go.Wl Go.Rx Go.Re Go.Li Go.Qu Go.Fo 
attribute [local irreducible] i7
def c9V:Nat->D1:=fun|84=>⟨26,fun|2=>some ⟨[0,5],[.slot 6 (.int .i64)]⟩|_=>none,nn⟩|_=>⟨0,nn,nn⟩
def Vzs(s:y8)(Q:Bool->Prop):Prop:=
∃(I:Int->Prop),∃(m:Int->Nat),I 0/\∀(x:Int),I x->(bR (x<(↑(List.length s):Int)) (0<=x/\x<(↑(List.length s):Int)/\(ix s x≠9->0<=x)/\(ix s x≠9->x<(↑(List.length s):Int))/\(¬(ix s x≠9/\ix s x<32)->0<=x)/\(¬(ix s x≠9/\ix s x<32)->x<(↑(List.length s):Int))/\(bR (ix s x≠9/\ix s x<32∨ix s x=127) (Q false) (c6 (x+1)/\I (x+1)/\m (x+1)<m x))) (Q true))
def b9p(c:UInt8):C8 c=true↔¬(c≠9/\c<32∨c=127):=by
 unfold C8;simp only[d5C,d7A,d4A,d5J,bne_iff_ne];constructor
 . rintro(h|⟨h1,h2⟩) (⟨h3,h4⟩|h3)
   . exact h3 h
   . subst h;cases h3
   . exact absurd h4 (UInt8.not_lt.2 h1)
   . exact h2 h3
 . intro h;by_cases e:c=9
   . exact .inl e
   . exact .inr ⟨UInt8.not_lt.1 fun hl=>h (.inl ⟨e,hl⟩),fun e2=>h (.inr e2)⟩
def pzs(s:y8)(hs:s.length<=9223372036854775807):Vzs s (fun y0=>y0=s.all C8):=by
 unfold Vzs;refine⟨fun x=>0<=x/\x<=s.length/\∀j:Int,0<=j->j<x->C8 (ix s j)=true,fun x=>((s.length:Int)-x).toNat,⟨by omega,by omega,fun j _ _=>by omega⟩,?_⟩;rintro x ⟨x0,x1,hx⟩;refine⟨fun hi=>⟨x0,hi,fun _=>x0,fun _=>hi,fun _=>x0,fun _=>hi,fun hb=>?_,fun hb=>⟨⟨by omega,by omega⟩,⟨by omega,by omega,fun j j0 j1=>?_⟩,by dsimp only;omega⟩⟩,fun hi=>(b5d fun j j0 j1=>hx j j0 (by omega)).symm⟩
 . have:=b0w x0 hi (fun h=>(b9p _).1 h hb);cases hh:(List.all s C8)
   . rfl
   . exact absurd hh this
 . by_cases e:j=x
   . subst e;exact(b9p _).2 hb
   . exact hx j j0 (by omega)
def Nzs:Env:=N31.kL 84 (rS.c .n) (.bool) (fun y=>[List.length (α:=UInt8) y.1<=9223372036854775807]) (fun y=>y.1.all C8)
def Nzs_ok:c8 Nzs:=N31_ok.kL Tryz.call84 Tryz.func84 (inlHN_ok N31_ok H0_ok c9V 2) (an:=c9V 84) (fun _ _=>trivial) fun y ho=>kc (pzs y.1 ho.1) (by kernel_rfl)
def d1W:Env:=Nzs.y7 85 Tryz.f85
def NI85_ok:c8 d1W:=Nzs_ok.y7 Tryz.call85 Tryz.func85
def c4H:Env:=d1W.y7 131 Tryz.f131
def NI131_ok:c8 c4H:=NI85_ok.y7 Tryz.call131 Tryz.func131
def d0g:Env:=c4H.y7 86 Tryz.f86
def NI86_ok:c8 d0g:=NI131_ok.y7 Tryz.call86 Tryz.func86
def d0u:Env:=d0g.y7 87 Tryz.f87
def NI87_ok:c8 d0u:=NI86_ok.y7 Tryz.call87 Tryz.func87
def c5U:Env:=d0u.y7 132 Tryz.f132
def NI132_ok:c8 c5U:=NI87_ok.y7 Tryz.call132 Tryz.func132
def d0H:Nat->D1:=fun|39=>⟨34,nn,nn⟩|85=>⟨9,nn,nn⟩|131=>⟨19,fun|2=>some ⟨[0,1,7],[.slot 8 (.int .i64)]⟩|_=>none,nn⟩|86=>⟨7,nn,nn⟩|87=>⟨69,nn,nn⟩|132=>⟨9,nn,nn⟩|_=>⟨0,nn,nn⟩
def b7P(z:V8)(x:Int):=(l8.p (195:Nat) (ix z.D8 x).Name 2).is 2
def a6Q(z:V8)(x:Int):=ix (ix z.D8 x).b9 0
def VzR(z:V8)(Q:Bool->Prop):Prop:=
(¬(z.ID=[]∨60<(↑(List.length z.ID):Int))->List.length z.ID<=9223372036854775807)/\(bR ((((z.ID=[]∨60<(↑(List.length z.ID):Int))∨¬List.all z.ID C8=true)∨(↑z.D8.length:Int)=0)∨20<(↑z.D8.length:Int)) (Q false) (∃(I:Int->Prop),∃(m:Int->Nat),I 0/\∀(x:Int),I x->(bR (x<(↑z.D8.length:Int)) (0<=x/\x<(↑z.D8.length:Int)/\(bR ((ix z.D8 x).Name≠([83,84,65,78,68,65,82,68]:List UInt8)/\(ix z.D8 x).Name≠([68,65,89,76,73,71,72,84]:List UInt8)) ((bR (b7P z x) (Q (decide ¬0<=x)) (c6 (x+1)/\I (x+1)/\m (x+1)<m x))) ((bR ((¬o7 (j6 (ix z.D8 x).Start)=true∨(ix z.D8 x).Start.n5=true)∨(ix z.D8 x).Start.UTC=true) ((bR (b7P z x) (Q (decide ¬0<=x)) (c6 (x+1)/\I (x+1)/\m (x+1)<m x))) ((bR (¬((-86400:Int)<(ix z.D8 x).a8N/\(ix z.D8 x).a8N<86400)) ((bR (b7P z x) (Q (decide ¬0<=x)) (c6 (x+1)/\I (x+1)/\m (x+1)<m x))) ((bR (¬((-86400:Int)<(ix z.D8 x).To/\(ix z.D8 x).To<86400)∨1<(↑(ix z.D8 x).b9.length:Int)) ((bR (b7P z x) (Q (decide ¬0<=x)) (c6 (x+1)/\I (x+1)/\m (x+1)<m x))) ((((↑(ix z.D8 x).b9.length:Int)=1->(0:Int)<=0)/\((↑(ix z.D8 x).b9.length:Int)=1->0<(↑(ix z.D8 x).b9.length:Int)))/\(((↑(ix z.D8 x).b9.length:Int)=1->c6 (a6Q z x).j8)->((↑(ix z.D8 x).b9.length:Int)=1->c6 (a6Q z x).Interval)->((↑(ix z.D8 x).b9.length:Int)=1->c6 (a6Q z x).Count)->((↑(ix z.D8 x).b9.length:Int)=1->c6 (a6Q z x).v7)->(↑(ix z.D8 x).b9.length:Int)=1->F6 (L7 (a6Q z x))=true)/\(((↑(ix z.D8 x).b9.length:Int)=1->c6 (a6Q z x).j8)->((↑(ix z.D8 x).b9.length:Int)=1->c6 (a6Q z x).Interval)->((↑(ix z.D8 x).b9.length:Int)=1->c6 (a6Q z x).Count)->((↑(ix z.D8 x).b9.length:Int)=1->c6 (a6Q z x).v7)->(bR ((↑(ix z.D8 x).b9.length:Int)=1/\¬F8 (j6 (ix z.D8 x).Start) (L7 (a6Q z x))=true) ((bR (b7P z x) (Q (decide ¬0<=x)) (c6 (x+1)/\I (x+1)/\m (x+1)<m x))) ((bR (l8.nil.is 2) (Q (decide ¬0<=x)) (c6 (x+1)/\I (x+1)/\m (x+1)<m x)))))))))))))) (Q (decide ¬(0:Int)<=(-1:Int))))))
def d3H(t:Nat)(s:y8)(n:Int):(l8.p t s n).is n:=rfl
def c8r(n:Int):¬l8.nil.is n:=fun h=>by cases h
def pzR(z:V8)(hf:X5 z):VzR z (fun y0=>y0=bo (a3W z)):=by
 unfold VzR a6Q b7P;simp only[y6,A7];refine⟨fun _=>by have:=hf.2.1;omega,fun h=>G2 fun⟨a,b,c,d,e,_⟩=>?_,fun h=>?_⟩
 . rcases h with(((h|h)|h)|h)|h
   . exact a h
   . omega
   . exact h c
   . exact d h
   . omega
 have hh:z.ID≠[]/\(z.ID.length:Int)<=60/\z.ID.all C8=true/\(z.D8.length:Int)≠0/\(z.D8.length:Int)<=20:=⟨fun e=>h (.inl (.inl (.inl (.inl e)))),d5n.1 fun e=>h (.inl (.inl (.inl (.inr e)))),d4y.1 fun e=>h (.inl (.inl (.inr e))),fun e=>h (.inl (.inr e)),d5n.1 fun e=>h (.inr e)⟩;obtain⟨a,b,c,d,e⟩:=hh;refine⟨fun x=>0<=x/\x<=z.D8.length/\q7 x fun j=>c1S (ix z.D8 j),fun x=>((z.D8.length:Int)-x).toNat,⟨by omega,by omega,q7.zero⟩,?_⟩;rintro x ⟨x0,x1,hx⟩;have dx:decide (¬0<=x)=false:=d4V fun h=>h x0;refine⟨fun hi=>⟨x0,hi,?_⟩,fun hi=>?_⟩
 . have hr:=hf.2.2 _ (u7 x0 hi);generalize ho:ix z.D8 x=o at *;have bad:∀(P:Prop)(n:y8),¬c1S o->((l8.p 195 n 2).is 2->(decide (¬0<=x))=bo (a3W z))/\(¬(l8.p 195 n 2).is 2->P):=fun P n hn=>⟨fun _=>by rw[dx];exact G2 fun hz=>hn (by have:=hz.2.2.2.2.2 x x0 hi;dsimp only at this;rwa [ho]at this),fun h=>absurd (d3H _ _ _) h⟩;refine⟨fun hn=>bad _ _ fun hO=>?_,fun hn=>⟨fun hs=>bad _ _ fun hO=>?_,fun hs=>⟨fun hF=>bad _ _ fun hO=>?_,fun hF=>⟨fun hT=>bad _ _ fun hO=>?_,fun hT=>⟨⟨fun _=>d4T 0,fun h=>by omega⟩,fun _ _ _ _ h1=>hr (by omega),fun _ _ _ _=>⟨fun hR=>bad _ _ fun hO=>?_,fun hR=>⟨fun h=>absurd h (c8r _),fun _=>⟨⟨by omega,by omega⟩,⟨by omega,by omega,?_⟩,by dsimp only;omega⟩⟩⟩⟩⟩⟩⟩⟩
   . exact hO.1.elim hn.1 hn.2
   . rcases hs with(hs|hs)|hs
     . exact hs hO.2.1.1
     . rw[hO.2.1.2.1]at hs;cases hs
     . rw[hO.2.1.2.2]at hs;cases hs
   . exact hF (d5t hO.2.2.1)
   . rcases hT with hT|hT
     . exact hT (d5t hO.2.2.2.1)
     . have:=hO.2.2.2.2.1;omega
   . exact hR.2 (hO.2.2.2.2.2 hR.1)
   . refine hx.succ ?_;rw[ho];refine⟨?_,⟨d4y.1 fun e=>hs (.inl (.inl e)),?_,?_⟩,d4K (d4y.1 hF),d4K (d4y.1 fun e=>hT (.inl e)),d5n.1 fun e=>hT (.inr e),fun h1=>d4y.1 fun e=>hR ⟨h1,e⟩⟩
     . exact d4y.1 fun e=>hn ⟨fun e1=>e (.inl e1),fun e1=>e (.inr e1)⟩
     . cases hb:o.Start.n5 with
       |false=>rfl
       |true=>exact absurd (.inl (.inr hb)) hs
     . cases hb:o.Start.UTC with
       |false=>rfl
       |true=>exact absurd (.inr hb) hs
 . exact a3q ⟨a,b,c,d,e,hx.le (by omega)⟩
def NzR:Env:=c5U.kL 39 (r92.c .n) (.bool) (fun y=>[X5 y.1]) (fun y=>bo (a3W y.1))
def NzR_ok:c8 NzR:=NI132_ok.kL Tryz.call39 Tryz.func39 (inlHN_ok NI132_ok H0_ok d0H 5) (an:=d0H 39) (fun _ _=>trivial) fun y ho=>kc (pzR y.1 ho.1) (by kernel_rfl)
def c9I:Nat->D1:=fun|189=>⟨47,nn,nn⟩|_=>⟨0,nn,nn⟩
def c7i(t:Int):=bif false then max t (b8 (Tm.mk (Dy.mk 9999 12 31) 23 59 59 false false))else min t (b8 (Tm.mk (Dy.mk 9999 12 31) 23 59 59 false false))
def c2F(o:Obv)(t:Int):=O3 (j6 o.Start) (L7 (ix o.b9 0)) (j6 (K8 (c7i t) (j6 o.Start)))
def Vzo(o:Obv)(t:Int)(Q:Int->Bool->l8->Prop):Prop:=
(bR (t<b8 (j6 o.Start)) (Q 0 false l8.nil) ((bR ((↑o.b9.length:Int)=0) (Q (b8 (j6 o.Start)) true l8.nil) ((c7i t)<=9000000000000000000/\((0:Int)<=0/\0<(↑o.b9.length:Int))/\(c6 (ix o.b9 0).j8->c6 (ix o.b9 0).Interval->c6 (ix o.b9 0).Count->c6 (ix o.b9 0).v7->F6 (L7 (ix o.b9 0))=true)/\(c6 (ix o.b9 0).j8->c6 (ix o.b9 0).Interval->c6 (ix o.b9 0).Count->c6 (ix o.b9 0).v7->Q (b8 (j6 (c2F o t).fst)) (decide ((c2F o t).snd.fst=true)) (c2F o t).snd.snd)))))
def b10(o:Obv)(t:Int):(onS o t).2.2=.nil∨∃n,(onS o t).2.2=.no n:=by
 unfold onS;split
 . exact .inl rfl
 split
 . exact .inl rfl
 . exact a7a _ _ _
def d0m:b8 (Tm.mk (Dy.mk 9999 12 31) 23 59 59 false false)=315537897599:=by decide
def d3d(a b:Int):(bif false then max a b else min a b)=min a b:=rfl
def pzo(o:Obv)(t:Int)(hf:o.b9=[]∨F6 (ix o.b9 0)=true):Vzo o t (fun y0 y1 y2=>y0=(onS o t).1/\y1=(onS o t).2.1/\y2=(onS o t).2.2):=by unfold Vzo c2F c7i onS;simp only[y6,A7,d4F];rw[d0m,d3d];refine⟨fun h=>by rw[if_pos h];exact⟨rfl,rfl,rfl⟩,fun h=>?_⟩;rw[if_neg h];refine⟨fun h0=>by rw[if_pos h0];exact⟨rfl,rfl,rfl⟩,fun h0=>?_⟩;rw[if_neg h0];exact⟨by omega,⟨by omega,by omega⟩,fun _ _ _ _=>hf.resolve_left (fun e=>h0 (by rw[e];rfl)),fun _ _ _ _=>⟨rfl,rfl,rfl⟩⟩
def d3R(o:Obv)(t:Int):Q1 U:=⟨[(o.b9:List Rl)=[]∨F6 (ix (α:=Rl) o.b9 0)=true],[],.E7 [.int .i64 ((onS o t).1),H9 ((onS o t).2.1),.err ((onS o t).2.2)]⟩
def czo(a:List (SV U)):Option (Q1 U):=match a with|[.agg l_o,.int .i64 t]=>(b74.bk (.agg l_o)).bind fun o=>some (d3R o t)|_=>none
def Nzo:Env:=NzR.A5 189 czo
def Nzo_ok:c8 Nzo:=NzR_ok.A5 Tryz.call189 fun(args:List (SV U)) (q:Q1 U) (h:czo args=some q) ho=>by
 unfold czo at h;split at h
 . rename_i l_o t;obtain⟨o,hb_o,h⟩:=d4O.1 h;cases h;refine A3.conv (E:=NzR) (args':=[.agg [.str o.Name,.int .i64 o.Start.Day.Year,.int .i64 o.Start.Day.Month,.int .i64 o.Start.Day.Date,.int .i64 o.Start.Hour,.int .i64 o.Start.Min,.int .i64 o.Start.D6,H9 o.Start.n5,H9 o.Start.UTC,.int .i64 o.a8N,.int .i64 o.To,.sl 64 o.b9],.int .i64 t]) (c5K (an:=c9I 189) NzR_ok (inlHN_ok NzR_ok H0_ok c9I 2) Tryz.func189 (k1:=.int .i64) (k2:=.bool) (k3:=.err) trivial trivial (b10 _ _) (kc (pzo o t ho.1) (by kernel_rfl)) 0) fun D w vs hr=>N8 [.agg l_o,.int .i64 t] [.agg [.str o.Name,.int .i64 o.Start.Day.Year,.int .i64 o.Start.Day.Month,.int .i64 o.Start.Day.Date,.int .i64 o.Start.Hour,.int .i64 o.Start.Min,.int .i64 o.Start.D6,H9 o.Start.n5,H9 o.Start.UTC,.int .i64 o.a8N,.int .i64 o.To,.sl (N:=U) 64 o.b9],.int .i64 t] _ ⟨fun _ h=>b39 hb_o h,fun _ h=>h,trivial⟩ hr
 . cases h
def c9Z:Nat->D1:=fun|171=>⟨3,nn,nn⟩|_=>⟨0,nn,nn⟩
def Vzb(o:Obv)(Q:Int->Prop):Prop:=
Q (0:Int)
def pzb(o:Obv)  : Vzb o (fun y0=>y0=0):=by unfold Vzb;rfl
def Nzb:Env:=Nzo.kL 171 (d3D.c .n) (.int .i64) (fun _=>[]) (fun y=>(0:Int))
def Nzb_ok:c8 Nzb:=Nzo_ok.kL Tryz.call171 Tryz.func171 (inlHN_ok Nzo_ok H0_ok c9Z 2) (an:=c9Z 171) (fun _ _=>trivial) fun y ho=>kc (pzb y.1 ) (by kernel_rfl)
def d1N:Nat->D1:=fun|190=>⟨10,nn,nn⟩|_=>⟨0,nn,nn⟩
def Vzt(e:l8)(Q:l8->Prop):Prop:=
Proofs.YtapnoejokajcoaaGreatDoor.asB e=true/\(bR (e.num.isSome=true) (Q (l8.no (e.num.getD 0))) (Q e))
def a9n{e:l8}(h:asB e=true):U6 e=.nil∨∃n,U6 e=.no n:=by
 cases e with
 |nil=>exact .inl rfl
 |no n=>exact .inr ⟨n,rfl⟩
 |p t s n=>exact .inr ⟨n,rfl⟩
 |_=>cases h
def b1h{e:l8}(h:e.num.isSome=true):l8.no (e.num.getD 0)=U6 e:=by
 unfold U6;cases hn:e.num with
 |none=>rw[hn]at h;cases h
 |some n=>rfl
def a9e{e:l8}(h:¬e.num.isSome=true):e=U6 e:=by
 unfold U6;cases hn:e.num with
 |none=>rfl
 |some n=>rw[hn]at h;exact absurd rfl h
def pzt(e:l8)(he:asB e=true):Vzt e (fun y0=>y0=U6 e):=by unfold Vzt;exact⟨he,b1h,a9e⟩
def Nzt:Env:=Nzb.kL 190 (rE.c .n) (.err) (fun y=>[asB y.1=true]) (fun y=>U6 y.1)
def Nzt_ok:c8 Nzt:=Nzb_ok.kL Tryz.call190 Tryz.func190 (inlHN_ok Nzb_ok H0_ok d1N 2) (an:=d1N 190) (fun y ho=>(a9n ho.1)) fun y ho=>kc (pzt y.1 ho.1) (by kernel_rfl)
def c8N:Nat->D1:=fun|170=>⟨80,fun|4=>some ⟨[1,2,3,18,19],[.slot 8 (.int .i64),.slot 9 (.int .i64),.slot 10 .bool,.slot 11 (.int .i64),.slot 20 (.int .i64)]⟩|_=>none,nn⟩|_=>⟨0,nn,nn⟩
def a6B(z:V8)(x_4:Int)(t:Int):=onS (etO (ix z.D8 x_4)) (t+0)
def Vzd(z:V8)(t:Int)(Q:Int->l8->Prop):Prop:=
∃(I:Int->Int->Bool->Int->Int->Prop),∃(m:Int->Int->Bool->Int->Int->Nat),I 0 0 false 0 0/\∀(x x_1:Int)(x_2:Bool)(x_3 x_4:Int),I x x_1 x_2 x_3 x_4->(bR (x_4<(↑z.D8.length:Int)) (0<=x_4/\x_4<(↑z.D8.length:Int)/\c6 (t+0)/\((ix z.D8 x_4).b9=[]∨F6 (ix (ix z.D8 x_4).b9 0)=true)/\(bR ((a6B z x_4 t).snd.snd≠l8.nil) (asB (a6B z x_4 t).snd.snd=true/\Q 0 (U6 (a6B z x_4 t).snd.snd)) (c6 ((a6B z x_4 t).fst-0)/\(bR ((a6B z x_4 t).snd.fst=true/\(¬x_2=true∨x<=(a6B z x_4 t).fst-0)) ((0<=x_3/\x_3<(↑z.D8.length:Int))/\(bR (b8 (j6 (ix z.D8 x_4).Start)<b8 (j6 (ix z.D8 x_3).Start)) (c6 (x_4+1)/\I ((a6B z x_4 t).fst-0) (ix z.D8 x_4).To true x_4 (x_4+1)/\m ((a6B z x_4 t).fst-0) (ix z.D8 x_4).To true x_4 (x_4+1)<m x x_1 x_2 x_3 x_4) (c6 (x_4+1)/\I ((a6B z x_4 t).fst-0) (ix z.D8 x_4).To true x_3 (x_4+1)/\m ((a6B z x_4 t).fst-0) (ix z.D8 x_4).To true x_3 (x_4+1)<m x x_1 x_2 x_3 x_4))) ((0<=x_3/\x_3<(↑z.D8.length:Int))/\(bR (b8 (j6 (ix z.D8 x_4).Start)<b8 (j6 (ix z.D8 x_3).Start)) (c6 (x_4+1)/\I x x_1 (decide (x_2=true)) x_4 (x_4+1)/\m x x_1 (decide (x_2=true)) x_4 (x_4+1)<m x x_1 x_2 x_3 x_4) (c6 (x_4+1)/\I x x_1 (decide (x_2=true)) x_3 (x_4+1)/\m x x_1 (decide (x_2=true)) x_3 (x_4+1)<m x x_1 x_2 x_3 x_4))))))) ((bR (¬x_2=true) (0<=x_3/\x_3<(↑z.D8.length:Int)/\Q (ix z.D8 x_3).a8N l8.nil) (Q x_1 l8.nil))))
def b5i(l:List Obv)(t:Int):∀n e,fzE l t n=some e->∃k,e=.no k
 |0,e,h=>by cases h
 |n+1,e,h=>by
  unfold fzE at h;cases hp:fzE l t n with
  |some e' =>
   rw[hp]at h;cases h;exact b5i l t n e hp
  |none =>
   rw[hp]at h;dsimp only at h;split at h
   . cases h
   . rename_i hn;cases h;rcases b10 (ix l n) t with h1|⟨k,h1⟩
     . exact absurd h1 hn
     . exact⟨k,by rw[h1];rfl⟩
def a9h(z:V8)(t:Int):(U7 z t).2=.nil∨∃n,(U7 z t).2=.no n:=by
 unfold U7;split
 . rename_i e he;obtain⟨k,rfl⟩:=b5i _ _ _ _ he;exact .inr ⟨k,rfl⟩
 . split <;> exact .inl rfl
def b1J{l:List Obv}{t:Int}{n:Nat}{e:l8}(h:fzE l t n=some e):∀k,fzE l t (n+k)=some e
 |0=>h
 |k+1=>by
  show fzE l t (n+k+1)=_
  unfold fzE;rw[b1J h k]
def a7H(l:List Obv)(t:Int):∀n:Nat,0<=(fz l t n).early/\((fz l t n).early<n∨(fz l t n).early=0)
 |0=>⟨d4T _,.inr rfl⟩
 |n+1=>by
  have ih:=a7H l t n;unfold fz fzN;dsimp only
  (repeat' split) <;> dsimp only <;> omega
def x9(t:Tm):-1<=b8 t/\b8 t<315537897600:=by
 unfold b8;split
 . rename_i h;have:=a1R h;omega
 . omega
def d1S(o:Obv)(t:Int):-1<=(onS o t).1/\(onS o t).1<315537897600:=by
 unfold onS;split
 . dsimp only;omega
 split
 . exact x9 _
 . exact x9 _
def c1P{e:l8}(h:e=.nil∨∃n,e=.no n):asB e=true:=by rcases h with rfl|⟨n,rfl⟩ <;> rfl
def pzd(z:V8)(t:Int)(hf:X5 z)(h0:z.D8≠[])(t0:-4000000000000000000<=t)(t1:t<=4000000000000000000):Vzd z t (fun y0 y1=>y0=(U7 z t).1/\y1=(U7 z t).2):=by
 unfold Vzd a6B;simp only[y6,A7,B3,C9,C6,C5,C4,C3,C2,D0,B7,d4F];have hl:z.D8.length≠0:=fun e=>h0 (List.length_eq_zero_iff.1 e);have hl2:=hf.1;refine⟨fun a b c d i=>0<=i/\i<=z.D8.length/\fzE z.D8 t i.toNat=none/\fz z.D8 t i.toNat=⟨a,b,c,d⟩,fun _ _ _ _ i=>((z.D8.length:Int)-i).toNat,⟨by omega,by omega,rfl,rfl⟩,?_⟩;rintro a b c d i ⟨i0,i1,he,hz⟩;have er:=a7H z.D8 t i.toNat;rw[hz]at er;dsimp only at er;refine⟨fun hi=>?_,fun hi=>?_⟩
 . have hr:=hf.2.2 _ (u7 i0 hi);have hb:=b10 (ix z.D8 i) t;have en:(i+1).toNat=i.toNat+1:=by omega
   have ei:((i.toNat:Nat):Int)=i:=by omega
   have nE:fzE z.D8 t (i+1).toNat=if(onS (ix z.D8 i) t).2.2=.nil then none else some (U6 (onS (ix z.D8 i) t).2.2):=by rw[en,fzE,he];dsimp only;rw[ei]
   have nZ:fz z.D8 t (i+1).toNat=fzN z.D8 t ⟨a,b,c,d⟩ i:=by rw[en,fz,hz,ei]
   unfold fzN at nZ;dsimp only at nZ;simp only[Int.add_zero,d8v];generalize hon:onS (ix z.D8 i) t=r at *;refine⟨i0,hi,⟨by omega,by omega⟩,?_,fun hn=>⟨c1P hb,?_⟩,fun hn=>?_⟩
   . by_cases e:(ix z.D8 i).b9=[]
     . exact .inl e
     . exact .inr (hr (by have:=d7n.2 e;omega))
   . rw[if_neg hn]at nE;have:=b1J nE (z.D8.length-(i+1).toNat);rw[show(i+1).toNat+(z.D8.length-(i+1).toNat)=z.D8.length by omega]at this;unfold U7;rw[this];exact⟨rfl,rfl⟩
   . have hn:=d4y.1 hn;rw[if_pos hn]at nE;have rg:=d1S (ix z.D8 i) t;rw[hon]at rg;have hcd:(r.2.1=true/\(¬c=true∨a<=r.1))↔(r.2.1=true/\(c=false∨a<=r.1)):=by rw[<- d5l]
     refine⟨⟨by omega,by omega⟩,fun hc=>?_,fun hc=>?_⟩
     . rw[if_pos (hcd.1 hc)]at nZ;refine⟨⟨er.1,by omega⟩,fun hs=>?_,fun hs=>?_⟩
       . rw[if_pos hs]at nZ;exact⟨⟨by omega,by omega⟩,⟨by omega,by omega,nE,nZ⟩,by omega⟩
       . rw[if_neg hs]at nZ;exact⟨⟨by omega,by omega⟩,⟨by omega,by omega,nE,nZ⟩,by omega⟩
     . rw[if_neg (fun h=>hc (hcd.2 h))]at nZ;refine⟨⟨er.1,by omega⟩,fun hs=>?_,fun hs=>?_⟩
       . rw[if_pos hs]at nZ;exact⟨⟨by omega,by omega⟩,⟨by omega,by omega,nE,nZ⟩,by omega⟩
       . rw[if_neg hs]at nZ;exact⟨⟨by omega,by omega⟩,⟨by omega,by omega,nE,nZ⟩,by omega⟩
 . have e:i.toNat=z.D8.length:=by omega
   rw[e]at he hz;unfold U7;rw[he,hz];dsimp only;refine⟨fun hc=>⟨er.1,by omega,by rw[if_neg hc];exact⟨rfl,rfl⟩⟩,fun hc=>by rw[if_pos (d4y.1 hc)];exact⟨rfl,rfl⟩⟩
def d3L(z:V8)(t:Int):Q1 U:=⟨[X5 z,(z.D8:List Obv)≠[],-4000000000000000000<=t,t<=4000000000000000000],[],.E7 [.int .i64 ((U7 z t).1),.err ((U7 z t).2)]⟩
def czd(a:List (SV U)):Option (Q1 U):=match a with|[.agg l_z,.int .i64 t,.fn 171]=>(y92.bk (.agg l_z)).bind fun z=>some (d3L z t)|_=>none
def Nzd:Env:=Nzt.A5 170 czd
def Nzd_ok:c8 Nzd:=Nzt_ok.A5 Tryz.call170 fun(args:List (SV U)) (q:Q1 U) (h:czd args=some q) ho=>by
 unfold czd at h;split at h
 . rename_i l_z t;obtain⟨z,hb_z,h⟩:=d4O.1 h;cases h;refine A3.conv (E:=Nzt) (args':=[.agg [.str z.ID,.sl 101 z.D8],.int .i64 t,.fn 171]) (c5R (an:=c8N 170) Nzt_ok (inlHN_ok Nzt_ok H0_ok c8N 2) Tryz.func170 (k1:=.int .i64) (k2:=.err) trivial (a9h _ _) (kc (pzd z t ho.1 ho.2.1 ho.2.2.1 ho.2.2.2.1) (by kernel_rfl)) 0) fun D w vs hr=>N8 [.agg l_z,.int .i64 t,.fn 171] [.agg [.str z.ID,.sl (N:=U) 101 z.D8],.int .i64 t,.fn 171] _ ⟨fun _ h=>b4Y hb_z h,fun _ h=>h,fun _ h=>h,trivial⟩ hr
 . cases h
def d2e:Nat->D1:=fun|133=>⟨25,nn,nn⟩|_=>⟨0,nn,nn⟩
def Vzf(z:V8)(t:Tm)(Q:Int->l8->Prop):Prop:=
X5 (etZ z)/\(bR ((¬bo (a3W (etZ z))=true∨¬o7 (j6 t)=true)∨t.UTC=true) (Q 0 (l8.no 2)) ((X5 (etZ z)/\z.D8≠[]/\(-4000000000000000000:Int)<=b8 (j6 t)/\b8 (j6 t)<=4000000000000000000)/\Q (U7 (etZ z) (b8 (j6 t))).fst (U7 (etZ z) (b8 (j6 t))).snd))
def b2f(z:V8)(t:Tm):(U9 z t).2=.nil∨∃n,(U9 z t).2=.no n:=by
 unfold U9;split
 . exact a9h _ _
 . exact .inr ⟨2,rfl⟩
def pzf(z:V8)(t:Tm)(hf:X5 z):Vzf z t (fun y0 y1=>y0=(U9 z t).1/\y1=(U9 z t).2):=by
 unfold Vzf;simp only[y6,A7,B3,C9,C6,C5,C4,C3,C2,D0,B7,d4F];refine⟨hf,fun h=>?_,fun h=>?_⟩
 . unfold U9;rw[if_neg]
   . exact⟨rfl,rfl⟩
   . rintro⟨a,b,c⟩;rcases h with(h|h)|h
     . exact h (z6.2 a)
     . exact h b
     . rw[c]at h;cases h
 . have a:a3W z:=z6.1 (d4y.1 fun e=>h (.inl (.inl e)));have b:o7 t=true:=d4y.1 fun e=>h (.inl (.inr e));have c:t.UTC=false:=d5l _ ▸ fun e=>h (.inr e);have rg:=x9 t;unfold U9;rw[if_pos ⟨a,b,c⟩];exact⟨⟨hf,fun e=>a.2.2.2.1 (by rw[e];rfl),by omega,by omega⟩,rfl,rfl⟩
def Nzf:Env:=Nzd.kM 133 (r92.c (r26.c .n)) (.int .i64) (.err) (fun y=>[X5 y.1]) (fun y=>((U9 y.1 y.2.1).1:Int)) (fun y=>((U9 y.1 y.2.1).2:l8))
def Nzf_ok:c8 Nzf:=Nzd_ok.kM Tryz.call133 Tryz.func133 (inlHN_ok Nzd_ok H0_ok d2e 2) (an:=d2e 133) (fun _ _=>trivial) (fun y ho=>(b2f _ _)) fun y ho=>kc (pzf y.1 y.2.1 ho.1) (by kernel_rfl)
def d1o:Nat->D1:=fun|134=>⟨23,nn,nn⟩|_=>⟨0,nn,nn⟩
def Vzm(t:Tm)(n:Int)(u:Bool)(Q:Tm->l8->Prop):Prop:=
c6 (b8 (j6 t)+n)/\b8 (j6 t)+n<=9000000000000000000/\(bR ((K8 (b8 (j6 t)+n) (Tm.mk (Dy.mk 0 0 0) 0 0 0 false (decide (u=true)))).Day.Year=0) (Q (Tm.mk (Dy.mk 0 0 0) 0 0 0 false false) (l8.no 3)) (Q (j6 (K8 (b8 (j6 t)+n) (Tm.mk (Dy.mk 0 0 0) 0 0 0 false (decide (u=true))))) l8.nil))
def b21(t:Tm)(n:Int)(u:Bool):(a4N t n u).2=.nil∨∃k,(a4N t n u).2=.no k:=by
 unfold a4N;split
 . exact .inr ⟨3,rfl⟩
 . exact .inl rfl
def pzm(t:Tm)(n:Int)(u:Bool)(n0:-1000000000<=n)(n1:n<=1000000000):Vzm t n u (fun y0 y1=>y0=(a4N t n u).1/\y1=(a4N t n u).2):=by
 unfold Vzm;simp only[y6,A7,B3,C9,C6,C5,C4,C3,C2,D0,B7,d4F];have rg:=x9 t;refine⟨⟨by omega,by omega⟩,by omega,fun h=>?_,fun h=>?_⟩
 . unfold a4N;rw[if_pos h];exact⟨rfl,rfl⟩
 . unfold a4N;rw[if_neg h];exact⟨rfl,rfl⟩
def Nzm:Env:=Nzf.kM 134 (r26.c (rI.c (rbo.c .n))) (.val 26) (.err) (fun y=>[-1000000000<=y.2.1,y.2.1<=1000000000]) (fun y=>((a4N y.1 y.2.1 y.2.2.1).1:Tm)) (fun y=>((a4N y.1 y.2.1 y.2.2.1).2:l8))
def Nzm_ok:c8 Nzm:=Nzf_ok.kM Tryz.call134 Tryz.func134 (inlHN_ok Nzf_ok H0_ok d1o 2) (an:=d1o 134) (fun y ho=>⟨_,_,rfl,rfl,rfl⟩) (fun y ho=>(b21 _ _ _)) fun y ho=>kc (pzm y.1 y.2.1 y.2.2.1 ho.1 ho.2.1) (by kernel_rfl)
def d1e:Nat->D1:=fun|89=>⟨35,nn,nn⟩|_=>⟨0,nn,nn⟩
def Vzu(z:V8)(t:Tm)(Q:Tm->l8->Prop):Prop:=
X5 (etZ z)/\(bR ((bo (a3W (etZ z))=true/\o7 (j6 t)=true)/\t.UTC=true) (Q (j6 t) l8.nil) (X5 (etZ z)/\(bR ((U9 (etZ z) (j6 t)).snd≠l8.nil) (Q (Tm.mk (Dy.mk 0 0 0) 0 0 0 false false) (U9 (etZ z) (j6 t)).snd) (c6 ((0:Int)-(U9 (etZ z) (j6 t)).fst)/\(-1000000000:Int)<=(0:Int)-(U9 (etZ z) (j6 t)).fst/\(0:Int)-(U9 (etZ z) (j6 t)).fst<=1000000000/\Q (j6 (a4N (j6 t) ((0:Int)-(U9 (etZ z) (j6 t)).fst) true).fst) (a4N (j6 t) ((0:Int)-(U9 (etZ z) (j6 t)).fst) true).snd))))
def c1L{l:List Obv}(h:q7 l.length fun j=>c1S (ix l j))(t:Int):∀n:Nat,n<=l.length->-86400<=(fz l t n).out/\(fz l t n).out<=86400
 |0,_=>by show(-86400:Int)<=0/\(0:Int)<=86400;omega
 |n+1,hn=>by
  have ih:=c1L h t n (by omega);have o:=(h n (by omega) (by omega)).2.2.2.1;unfold b9a at o;have o:=d5t o;unfold fz fzN;dsimp only
  (repeat' split) <;> dsimp only <;> omega
def b4Q(z:V8)(t:Tm):-86400<=(U9 z t).1/\(U9 z t).1<=86400:=by
 unfold U9;split
 . rename_i h;have hz:=h.1.2.2.2.2.2;unfold U7;split
   . dsimp only;omega
   split
   . exact c1L hz _ _ (d4R _)
   . have e:=a7H z.D8 (b8 t) z.D8.length;have p:=h.1.2.2.2.1;have o:=(hz (fz z.D8 (b8 t) z.D8.length).early e.1 (by omega)).2.2.1;unfold b9a at o;have o:=d5t o;dsimp only;omega
 . dsimp only;omega
def b2z(z:V8)(t:Tm):(W3 z t).2=.nil∨∃n,(W3 z t).2=.no n:=by
 unfold W3;split
 . exact .inl rfl
 split
 . exact b21 _ _ _
 . exact b2f _ _
def pzu(z:V8)(t:Tm)(hf:X5 z):Vzu z t (fun y0 y1=>y0=(W3 z t).1/\y1=(W3 z t).2):=by
 unfold Vzu;simp only[y6,A7,B3,C9,C6,C5,C4,C3,C2,D0,B7,d4F];have rg:=b4Q z t;refine⟨hf,fun h=>?_,fun h=>⟨hf,fun he=>?_,fun he=>?_⟩⟩
 . unfold W3;rw[if_pos ⟨z6.1 h.1.1,h.1.2,h.2⟩];exact⟨rfl,rfl⟩
 . unfold W3;rw[if_neg (fun e=>h ⟨⟨z6.2 e.1,e.2.1⟩,e.2.2⟩),if_neg he];exact⟨rfl,rfl⟩
 . refine⟨⟨by omega,by omega⟩,by omega,by omega,?_⟩;unfold W3;rw[if_neg (fun e=>h ⟨⟨z6.2 e.1,e.2.1⟩,e.2.2⟩),if_pos (d4y.1 he),Int.zero_sub];exact⟨rfl,rfl⟩
def Nzu:Env:=Nzm.kM 89 (r92.c (r26.c .n)) (.val 26) (.err) (fun y=>[X5 y.1]) (fun y=>((W3 y.1 y.2.1).1:Tm)) (fun y=>((W3 y.1 y.2.1).2:l8))
def Nzu_ok:c8 Nzu:=Nzm_ok.kM Tryz.call89 Tryz.func89 (inlHN_ok Nzm_ok H0_ok d1e 2) (an:=d1e 89) (fun y ho=>⟨_,_,rfl,rfl,rfl⟩) (fun y ho=>(b2z _ _)) fun y ho=>kc (pzu y.1 y.2.1 ho.1) (by kernel_rfl)
def d1q:Nat->D1:=fun|78=>⟨13,nn,nn⟩|_=>⟨0,nn,nn⟩
def Vrw(p:K3)(Q:y8->Prop):Prop:=
z7 (etP p)/\(bR ((a0l (etP p)).snd≠l8.nil) (Q []) (Q (a0l (etP p)).fst))
def prw(p:K3)(hp:z7 p):Vrw p (fun y0=>y0=G8 p):=by unfold Vrw;simp only[y6,A7,B3,C9,C6,C5,C4,C3,C2,D0,B7,d4F];unfold G8;exact⟨hp,fun h=>by rw[if_neg h],fun h=>by rw[if_pos (d4y.1 h)]⟩
def Nrw:Env:=Nzu.kL 78 (r86.c .n) (.str) (fun y=>[z7 y.1]) (fun y=>G8 y.1)
def Nrw_ok:c8 Nrw:=Nzu_ok.kL Tryz.call78 Tryz.func78 (inlHN_ok Nzu_ok H0_ok d1q 2) (an:=d1q 78) (fun _ _=>trivial) fun y ho=>kc (prw y.1 ho.1) (by kernel_rfl)
def d2c:Nat->D1:=fun|42=>⟨28,nn,nn⟩|_=>⟨0,nn,nn⟩
def Vfo(a:I8)(b:I8)(Q:Bool->Prop):Prop:=
Q (decide (((a.Time.n5=true↔b.Time.n5=true)/\(a.Time.UTC=true↔b.Time.UTC=true))/\a.I3=b.I3))
def pfo(a:I8)(b:I8)  : Vfo a b (fun y0=>y0=R5 a b):=by
 unfold Vfo;show _=decide _
 exact d5r.2 (by simp[and_assoc])
def Nfo:Env:=Nrw.kL 42 (r28.c (r28.c .n)) (.bool) (fun _=>[]) (fun y=>R5 y.1 y.2.1)
def Nfo_ok:c8 Nfo:=Nrw_ok.kL Tryz.call42 Tryz.func42 (inlHN_ok Nrw_ok H0_ok d2c 2) (an:=d2c 42) (fun _ _=>trivial) fun y ho=>kc (pfo y.1 y.2.1 ) (by kernel_rfl)
def d2o:Nat->D1:=fun|83=>⟨14,nn,nn⟩|_=>⟨0,nn,nn⟩
def Vkn(s:y8)(Q:Bool->Prop):Prop:=
(bR (s=([85,73,68]:List UInt8)) ((bR (s=([85,73,68]:List UInt8)) (Q true) (Q false))) ((bR (s=([82,69,67,85,82,82,69,78,67,69,45,73,68]:List UInt8)) ((bR (s=([82,69,67,85,82,82,69,78,67,69,45,73,68]:List UInt8)) (Q true) (Q false))) ((bR (s=([68,84,83,84,65,82,84]:List UInt8)) ((bR (s=([68,84,83,84,65,82,84]:List UInt8)) (Q true) (Q false))) ((bR (s=([68,84,69,78,68]:List UInt8)) ((bR (s=([68,84,69,78,68]:List UInt8)) (Q true) (Q false))) ((bR (s=([68,85,69]:List UInt8)) ((bR (s=([68,85,69]:List UInt8)) (Q true) (Q false))) ((bR (s=([68,85,82,65,84,73,79,78]:List UInt8)) ((bR (s=([68,85,82,65,84,73,79,78]:List UInt8)) (Q true) (Q false))) ((bR (s=([82,82,85,76,69]:List UInt8)) ((bR (s=([82,82,85,76,69]:List UInt8)) (Q true) (Q false))) ((bR (s=([82,68,65,84,69]:List UInt8)) ((bR (s=([82,68,65,84,69]:List UInt8)) (Q true) (Q false))) ((bR (s=([69,88,68,65,84,69]:List UInt8)) (Q true) (Q false))))))))))))))))))
def pkn(s:y8)  : Vkn s (fun y0=>y0=a2s s):=by
 unfold Vkn;unfold a2s;refine⟨fun h=>⟨fun _=>?_,fun h'=>absurd h h'⟩,fun h1=>⟨fun h=>⟨fun _=>?_,fun h'=>absurd h h'⟩,fun h2=>⟨fun h=>⟨fun _=>?_,fun h'=>absurd h h'⟩,fun h3=>⟨fun h=>⟨fun _=>?_,fun h'=>absurd h h'⟩,fun h4=>⟨fun h=>⟨fun _=>?_,fun h'=>absurd h h'⟩,fun h5=>⟨fun h=>⟨fun _=>?_,fun h'=>absurd h h'⟩,fun h6=>⟨fun h=>⟨fun _=>?_,fun h'=>absurd h h'⟩,fun h7=>⟨fun h=>⟨fun _=>?_,fun h'=>absurd h h'⟩,fun h8=>⟨fun h=>?_,fun h9=>?_⟩⟩⟩⟩⟩⟩⟩⟩⟩
 all_goals show _=decide _
 all_goals symm
 all_goals first|exact d4V (by rintro(h|h|h|h|h|h|h|h|h) <;> contradiction)|exact d4K (by subst h;simp)
def Nkn:Env:=Nfo.kL 83 (rS.c .n) (.bool) (fun _=>[]) (fun y=>a2s y.1)
def Nkn_ok:c8 Nkn:=Nfo_ok.kL Tryz.call83 Tryz.func83 (inlHN_ok Nfo_ok H0_ok d2o 2) (an:=d2o 83) (fun _ _=>trivial) fun y ho=>kc (pkn y.1 ) (by kernel_rfl)
def d1M:Env:=Nkn.y7 40 Tryz.f40
def NI40_ok:c8 d1M:=Nkn_ok.y7 Tryz.call40 Tryz.func40
def c99:Env:=d1M.y7 88 Tryz.f88
def NI88_ok:c8 c99:=NI40_ok.y7 Tryz.call88 Tryz.func88
def c5t:Env:=c99.y7 128 Tryz.f128
def NI128_ok:c8 c5t:=NI88_ok.y7 Tryz.call128 Tryz.func128
def c8Z:Nat->D1:=fun|79=>⟨29,nn,nn⟩|40=>⟨9,nn,nn⟩|88=>⟨19,fun|2=>some ⟨[0,1,7],[.slot 8 (.int .i64)]⟩|_=>none,nn⟩|128=>⟨9,nn,nn⟩|_=>⟨0,nn,nn⟩
def Vmo(o:F3)(m:I8)(Q:Bool->Prop):Prop:=
(bR (¬o7 (j6 m.Time)=true) (Q false) ((bR (m.I3=[]) (Q true) ((bR (¬m.Time.n5=true/\¬m.Time.UTC=true) (∃(I:Int->Prop),∃(m_1:Int->Nat),I 0/\∀(x:Int),I x->(bR (x<(↑o.c9.length:Int)) (0<=x/\x<(↑o.c9.length:Int)/\(bR ((ix o.c9 x).ID=m.I3) (Q (decide (0<=x))) (c6 (x+1)/\I (x+1)/\m_1 (x+1)<m_1 x))) (Q (decide ((0:Int)<=(-1:Int)))))) (Q false))))))
def pmo(o:F3)(m:I8)(hz:o.c9.length<=1000):Vmo o m (fun y0=>y0=bo (V0 o.c9 m)):=by
 unfold Vmo;simp only[y6,A7,B3,C9,C6,C5,C4,C3,C2,D0,B7,d4F];refine⟨fun h=>G2 fun e=>h e.1,fun h=>?_⟩;have h:=d4y.1 h;refine⟨fun e=>a3q ⟨h,fun n=>absurd e n⟩,fun e=>⟨fun hh=>?_,fun hh=>G2 fun p=>hh ⟨by rw[(p.2 e).1];exact d5u,by rw[(p.2 e).2.1];exact d5u⟩⟩⟩;refine⟨fun x=>0<=x/\x<=o.c9.length/\q7 x fun j=>(ix o.c9 j).ID≠m.I3,fun x=>((o.c9.length:Int)-x).toNat,⟨by omega,by omega,q7.zero⟩,?_⟩;rintro x ⟨x0,x1,hx⟩;refine⟨fun hi=>⟨x0,hi,fun hd=>?_,fun hd=>⟨⟨by omega,by omega⟩,⟨by omega,by omega,hx.succ hd⟩,by dsimp only;omega⟩⟩,fun hi=>?_⟩
 . rw[d4K x0];exact a3q ⟨h,fun _=>⟨d5l _ ▸ hh.1,d5l _ ▸ hh.2,x,x0,hi,hd⟩⟩
 . exact G2 fun p=>by obtain⟨j,j0,j1,hj⟩:=(p.2 e).2.2;exact hx j j0 (by omega) hj
def Nmo:Env:=c5t.kL 79 (r38.c (r28.c .n)) (.bool) (fun y=>[y.1.c9.length<=1000]) (fun y=>bo (V0 y.1.c9 y.2.1))
def Nmo_ok:c8 Nmo:=NI128_ok.kL Tryz.call79 Tryz.func79 (inlHN_ok NI128_ok H0_ok c8Z 4) (an:=c8Z 79) (fun _ _=>trivial) fun y ho=>kc (pmo y.1 y.2.1 ho.1) (by kernel_rfl)
end Go.Proofs.YtapnoejokajcoaaGreatDoor
section
namespace Go.Proofs.YtapnoejokajcoaaGreatDoor
open Go Go.Wk Go.Wl Go.Rx Go.Re Go.Li Go.Qu Go.Fo 
def a9U(l:List K3)(no:y8->Bool)(j:Int):Prop:=G8 (ix l j)≠[]/\((G8 (ix l j)).length:Int)<=5000/\(ix l j).Name≠bgN/\(ix l j).Name≠enN/\no (ix l j).Name=false/\(0<j->(Op.bytesLess (G8 (ix l (j-1))) (G8 (ix l j))=true∨G8 (ix l (j-1))=G8 (ix l j)))
attribute [local irreducible] i7
def d2x:Nat->D1:=fun|130=>⟨9,nn,nn⟩|_=>⟨0,nn,nn⟩
def Vaq(s:y8)(Q:Bool->Prop):Prop:=
Q (decide (s=([65,67,84,73,79,78]:List UInt8)∨s=([84,82,73,71,71,69,82]:List UInt8)))
def paq(s:y8)  : Vaq s (fun y0=>y0=a29 s):=by
 unfold Vaq;unfold a29
 first|rfl|exact d5r.2 d7m
def Naq:Env:=Nmo.kL 130 (rS.c .n) (.bool) (fun _=>[]) (fun y=>a29 y.1)
def Naq_ok:c8 Naq:=Nmo_ok.kL Tryz.call130 Tryz.func130 (inlHN_ok Nmo_ok H0_ok d2x 2) (an:=d2x 130) (fun _ _=>trivial) fun y ho=>kc (paq y.1 ) (by kernel_rfl)
end Go.Proofs.YtapnoejokajcoaaGreatDoor
end
namespace Go.Proofs.YtapnoejokajcoaaGreatDoor
open Go Go.Wk Go.Wl Go.Rx Go.Re Go.Li Go.Qu Go.Fo 
attribute [local irreducible] i7
def d2k:Nat->D1:=fun|37=>⟨5,nn,nn⟩|_=>⟨0,nn,nn⟩
def Vrq(s:y8)(Q:Bool->Prop):Prop:=
Q (decide (s=([86,69,82,83,73,79,78]:List UInt8)))
def prq(s:y8)  : Vrq s (fun y0=>y0=a0J s):=by
 unfold Vrq;unfold a0J
 first|rfl|exact d5r.2 d7m
def Nrq:Env:=Naq.kL 37 (rS.c .n) (.bool) (fun _=>[]) (fun y=>a0J y.1)
def Nrq_ok:c8 Nrq:=Naq_ok.kL Tryz.call37 Tryz.func37 (inlHN_ok Naq_ok H0_ok d2k 2) (an:=d2k 37) (fun _ _=>trivial) fun y ho=>kc (prq y.1 ) (by kernel_rfl)
def c4O:Nat->D1:=fun|36=>⟨59,fun|2=>some ⟨[0,1,8,9],[.slot 10 (.int .i64)]⟩|_=>none,nn⟩|_=>⟨0,nn,nn⟩
def a8t  := ([66,69,71,73,78]:List UInt8)
def a7p(l:List K3)(x:Int):=List.length (G8 (etP (ix l x)))
def a7k  := ([69,78,68]:List UInt8)
def d2j(l:List K3)(Q:Bool->Prop):Prop:=
∃(I:Int->Prop),∃(m:Int->Nat),I 0/\∀(x:Int),I x->(bR (x<(↑l.length:Int)) (0<=x/\x<(↑l.length:Int)/\z7 (etP (ix l x))/\(¬((((G8 (etP (ix l x))=[]∨5000<(↑(a7p l x):Int))∨(ix l x).Name=a8t)∨(ix l x).Name=a7k)∨a2s (ix l x).Name=true)/\0<x->c6 (x-1))/\((¬((((G8 (etP (ix l x))=[]∨5000<(↑(a7p l x):Int))∨(ix l x).Name=a8t)∨(ix l x).Name=a7k)∨a2s (ix l x).Name=true)/\0<x->0<=x-1)/\(¬((((G8 (etP (ix l x))=[]∨5000<(↑(a7p l x):Int))∨(ix l x).Name=a8t)∨(ix l x).Name=a7k)∨a2s (ix l x).Name=true)/\0<x->x-1<(↑l.length:Int)))/\(¬((((G8 (etP (ix l x))=[]∨5000<(↑(a7p l x):Int))∨(ix l x).Name=a8t)∨(ix l x).Name=a7k)∨a2s (ix l x).Name=true)/\0<x->z7 (etP (ix l (x-1))))/\(¬((((G8 (etP (ix l x))=[]∨5000<(↑(a7p l x):Int))∨(ix l x).Name=a8t)∨(ix l x).Name=a7k)∨a2s (ix l x).Name=true)/\0<x->z7 (etP (ix l x)))/\(bR (((((G8 (etP (ix l x))=[]∨5000<(↑(a7p l x):Int))∨(ix l x).Name=a8t)∨(ix l x).Name=a7k)∨a2s (ix l x).Name=true)∨0<x/\¬(Op.bytesLess (G8 (etP (ix l (x-1)))) (G8 (etP (ix l x)))=true∨G8 (etP (ix l (x-1)))=G8 (etP (ix l x)))) (Q false) (c6 (x+1)/\I (x+1)/\m (x+1)<m x))) (Q (decide ((↑l.length:Int)<=100))))
def d3W(l:List K3)(hp:∀p∈l,z7 p)(hl:(l.length:Int)<=1000000):d2j l (fun y0=>y0=bo (a1z l a2s)):=by
 unfold d2j a7k a7p a8t;simp only[y6,A7,B3,C9,C6,C5,C4,C3,C2,D0,B7,d4F];refine⟨fun x=>0<=x/\x<=l.length/\q7 x (a9U l a2s),fun x=>((l.length:Int)-x).toNat,⟨by omega,by omega,q7.zero⟩,?_⟩;rintro x ⟨x0,x1,hx⟩;refine⟨fun hi=>?_,fun hi=>?_⟩
 . have sp:=hp _ (u7 x0 hi);refine⟨x0,hi,sp,fun h=>⟨by omega,by omega⟩,⟨fun h=>by omega,fun h=>by omega⟩,fun h=>hp _ (u7 (by omega) (by omega)),fun _=>sp,fun h=>G2 fun e=>?_,fun h=>?_⟩
   . obtain⟨a,b,c,d,n,g⟩:a9U l a2s x:=e.1 x x0 hi;rcases h with((((h|h)|h)|h)|h)|h
     . exact a h
     . omega
     . exact c h
     . exact d h
     . rw[h]at n;cases n
     . exact h.2 (g h.1)
   . have:a9U l a2s x:=⟨fun e=>h (.inl (.inl (.inl (.inl (.inl e))))),d5n.1 fun e=>h (.inl (.inl (.inl (.inl (.inr e))))),fun e=>h (.inl (.inl (.inl (.inr e)))),fun e=>h (.inl (.inl (.inr e))),d5l _ ▸ fun e=>h (.inl (.inr e)),fun p=>d4y.1 fun e=>h (.inr ⟨p,e⟩)⟩;exact⟨⟨by omega,by omega⟩,⟨by omega,by omega,hx.succ this⟩,by dsimp only;omega⟩
 . refine a1o ⟨fun e=>⟨fun j j0 j1=>hx j j0 (by omega),e⟩,fun e=>e.2⟩
def b77(a:List (SV U)):Option (Q1 U):=match a with|[.sl 86 l,.fn 83]=>some ⟨[∀p∈l,z7 p,(l.length:Int)<=1000000],[],H9 (bo (a1z l a2s))⟩|_=>none
def ceu1_ok(args:List (SV U))(q:Q1 U)(h:b77 args=some q)(ho:p9 q.ob):A3 Nrq 36 args ⟨q.ob,q.hy,q.v,[]⟩:=by
 unfold b77 at h;split at h
 . rename_i l;cases h;exact G9 (an:=c4O 36) Nrq_ok (inlHN_ok Nrq_ok H0_ok c4O 4) Tryz.func36 (k:=.bool) (x:=bo (a1z l a2s)) trivial (kc (d3W l ho.1 ho.2.1) (by kernel_rfl)) 0
 . cases h
def b6T:Env:=Nrq.A5 36 b77
def Neu1_ok:c8 b6T:=Nrq_ok.A5 Tryz.call36 ceu1_ok
def c4w:Nat->D1:=fun|36=>⟨59,fun|2=>some ⟨[0,1,8,9],[.slot 10 (.int .i64)]⟩|_=>none,nn⟩|_=>⟨0,nn,nn⟩
def a7U  := ([66,69,71,73,78]:List UInt8)
def a7Q(l:List K3)(x:Int):=List.length (G8 (etP (ix l x)))
def a7I  := ([69,78,68]:List UInt8)
def d1z(l:List K3)(Q:Bool->Prop):Prop:=
∃(I:Int->Prop),∃(m:Int->Nat),I 0/\∀(x:Int),I x->(bR (x<(↑l.length:Int)) (0<=x/\x<(↑l.length:Int)/\z7 (etP (ix l x))/\(¬((((G8 (etP (ix l x))=[]∨5000<(↑(a7Q l x):Int))∨(ix l x).Name=a7U)∨(ix l x).Name=a7I)∨a29 (ix l x).Name=true)/\0<x->c6 (x-1))/\((¬((((G8 (etP (ix l x))=[]∨5000<(↑(a7Q l x):Int))∨(ix l x).Name=a7U)∨(ix l x).Name=a7I)∨a29 (ix l x).Name=true)/\0<x->0<=x-1)/\(¬((((G8 (etP (ix l x))=[]∨5000<(↑(a7Q l x):Int))∨(ix l x).Name=a7U)∨(ix l x).Name=a7I)∨a29 (ix l x).Name=true)/\0<x->x-1<(↑l.length:Int)))/\(¬((((G8 (etP (ix l x))=[]∨5000<(↑(a7Q l x):Int))∨(ix l x).Name=a7U)∨(ix l x).Name=a7I)∨a29 (ix l x).Name=true)/\0<x->z7 (etP (ix l (x-1))))/\(¬((((G8 (etP (ix l x))=[]∨5000<(↑(a7Q l x):Int))∨(ix l x).Name=a7U)∨(ix l x).Name=a7I)∨a29 (ix l x).Name=true)/\0<x->z7 (etP (ix l x)))/\(bR (((((G8 (etP (ix l x))=[]∨5000<(↑(a7Q l x):Int))∨(ix l x).Name=a7U)∨(ix l x).Name=a7I)∨a29 (ix l x).Name=true)∨0<x/\¬(Op.bytesLess (G8 (etP (ix l (x-1)))) (G8 (etP (ix l x)))=true∨G8 (etP (ix l (x-1)))=G8 (etP (ix l x)))) (Q false) (c6 (x+1)/\I (x+1)/\m (x+1)<m x))) (Q (decide ((↑l.length:Int)<=100))))
def d4r(l:List K3)(hp:∀p∈l,z7 p)(hl:(l.length:Int)<=1000000):d1z l (fun y0=>y0=bo (a1z l a29)):=by
 unfold d1z a7I a7Q a7U;simp only[y6,A7,B3,C9,C6,C5,C4,C3,C2,D0,B7,d4F];refine⟨fun x=>0<=x/\x<=l.length/\q7 x (a9U l a29),fun x=>((l.length:Int)-x).toNat,⟨by omega,by omega,q7.zero⟩,?_⟩;rintro x ⟨x0,x1,hx⟩;refine⟨fun hi=>?_,fun hi=>?_⟩
 . have sp:=hp _ (u7 x0 hi);refine⟨x0,hi,sp,fun h=>⟨by omega,by omega⟩,⟨fun h=>by omega,fun h=>by omega⟩,fun h=>hp _ (u7 (by omega) (by omega)),fun _=>sp,fun h=>G2 fun e=>?_,fun h=>?_⟩
   . obtain⟨a,b,c,d,n,g⟩:a9U l a29 x:=e.1 x x0 hi;rcases h with((((h|h)|h)|h)|h)|h
     . exact a h
     . omega
     . exact c h
     . exact d h
     . rw[h]at n;cases n
     . exact h.2 (g h.1)
   . have:a9U l a29 x:=⟨fun e=>h (.inl (.inl (.inl (.inl (.inl e))))),d5n.1 fun e=>h (.inl (.inl (.inl (.inl (.inr e))))),fun e=>h (.inl (.inl (.inl (.inr e)))),fun e=>h (.inl (.inl (.inr e))),d5l _ ▸ fun e=>h (.inl (.inr e)),fun p=>d4y.1 fun e=>h (.inr ⟨p,e⟩)⟩;exact⟨⟨by omega,by omega⟩,⟨by omega,by omega,hx.succ this⟩,by dsimp only;omega⟩
 . refine a1o ⟨fun e=>⟨fun j j0 j1=>hx j j0 (by omega),e⟩,fun e=>e.2⟩
def b7J(a:List (SV U)):Option (Q1 U):=match a with|[.sl 86 l,.fn 130]=>some ⟨[∀p∈l,z7 p,(l.length:Int)<=1000000],[],H9 (bo (a1z l a29))⟩|_=>none
def ceu2_ok(args:List (SV U))(q:Q1 U)(h:b7J args=some q)(ho:p9 q.ob):A3 b6T 36 args ⟨q.ob,q.hy,q.v,[]⟩:=by
 unfold b7J at h;split at h
 . rename_i l;cases h;exact G9 (an:=c4w 36) Neu1_ok (inlHN_ok Neu1_ok H0_ok c4w 4) Tryz.func36 (k:=.bool) (x:=bo (a1z l a29)) trivial (kc (d4r l ho.1 ho.2.1) (by kernel_rfl)) 0
 . cases h
def b8d:Env:=b6T.A5 36 b7J
def Neu2_ok:c8 b8d:=Neu1_ok.A5 Tryz.call36 ceu2_ok
def c61:Nat->D1:=fun|36=>⟨59,fun|2=>some ⟨[0,1,8,9],[.slot 10 (.int .i64)]⟩|_=>none,nn⟩|_=>⟨0,nn,nn⟩
def a7b  := ([66,69,71,73,78]:List UInt8)
def a7t(l:List K3)(x:Int):=List.length (G8 (etP (ix l x)))
def a7s  := ([69,78,68]:List UInt8)
def c9i(l:List K3)(Q:Bool->Prop):Prop:=
∃(I:Int->Prop),∃(m:Int->Nat),I 0/\∀(x:Int),I x->(bR (x<(↑l.length:Int)) (0<=x/\x<(↑l.length:Int)/\z7 (etP (ix l x))/\(¬((((G8 (etP (ix l x))=[]∨5000<(↑(a7t l x):Int))∨(ix l x).Name=a7b)∨(ix l x).Name=a7s)∨a0J (ix l x).Name=true)/\0<x->c6 (x-1))/\((¬((((G8 (etP (ix l x))=[]∨5000<(↑(a7t l x):Int))∨(ix l x).Name=a7b)∨(ix l x).Name=a7s)∨a0J (ix l x).Name=true)/\0<x->0<=x-1)/\(¬((((G8 (etP (ix l x))=[]∨5000<(↑(a7t l x):Int))∨(ix l x).Name=a7b)∨(ix l x).Name=a7s)∨a0J (ix l x).Name=true)/\0<x->x-1<(↑l.length:Int)))/\(¬((((G8 (etP (ix l x))=[]∨5000<(↑(a7t l x):Int))∨(ix l x).Name=a7b)∨(ix l x).Name=a7s)∨a0J (ix l x).Name=true)/\0<x->z7 (etP (ix l (x-1))))/\(¬((((G8 (etP (ix l x))=[]∨5000<(↑(a7t l x):Int))∨(ix l x).Name=a7b)∨(ix l x).Name=a7s)∨a0J (ix l x).Name=true)/\0<x->z7 (etP (ix l x)))/\(bR (((((G8 (etP (ix l x))=[]∨5000<(↑(a7t l x):Int))∨(ix l x).Name=a7b)∨(ix l x).Name=a7s)∨a0J (ix l x).Name=true)∨0<x/\¬(Op.bytesLess (G8 (etP (ix l (x-1)))) (G8 (etP (ix l x)))=true∨G8 (etP (ix l (x-1)))=G8 (etP (ix l x)))) (Q false) (c6 (x+1)/\I (x+1)/\m (x+1)<m x))) (Q (decide ((↑l.length:Int)<=100))))
def d3v(l:List K3)(hp:∀p∈l,z7 p)(hl:(l.length:Int)<=1000000):c9i l (fun y0=>y0=bo (a1z l a0J)):=by
 unfold c9i a7s a7t a7b;simp only[y6,A7,B3,C9,C6,C5,C4,C3,C2,D0,B7,d4F];refine⟨fun x=>0<=x/\x<=l.length/\q7 x (a9U l a0J),fun x=>((l.length:Int)-x).toNat,⟨by omega,by omega,q7.zero⟩,?_⟩;rintro x ⟨x0,x1,hx⟩;refine⟨fun hi=>?_,fun hi=>?_⟩
 . have sp:=hp _ (u7 x0 hi);refine⟨x0,hi,sp,fun h=>⟨by omega,by omega⟩,⟨fun h=>by omega,fun h=>by omega⟩,fun h=>hp _ (u7 (by omega) (by omega)),fun _=>sp,fun h=>G2 fun e=>?_,fun h=>?_⟩
   . obtain⟨a,b,c,d,n,g⟩:a9U l a0J x:=e.1 x x0 hi;rcases h with((((h|h)|h)|h)|h)|h
     . exact a h
     . omega
     . exact c h
     . exact d h
     . rw[h]at n;cases n
     . exact h.2 (g h.1)
   . have:a9U l a0J x:=⟨fun e=>h (.inl (.inl (.inl (.inl (.inl e))))),d5n.1 fun e=>h (.inl (.inl (.inl (.inl (.inr e))))),fun e=>h (.inl (.inl (.inl (.inr e)))),fun e=>h (.inl (.inl (.inr e))),d5l _ ▸ fun e=>h (.inl (.inr e)),fun p=>d4y.1 fun e=>h (.inr ⟨p,e⟩)⟩;exact⟨⟨by omega,by omega⟩,⟨by omega,by omega,hx.succ this⟩,by dsimp only;omega⟩
 . refine a1o ⟨fun e=>⟨fun j j0 j1=>hx j j0 (by omega),e⟩,fun e=>e.2⟩
def b7Y(a:List (SV U)):Option (Q1 U):=match a with|[.sl 86 l,.fn 37]=>some ⟨[∀p∈l,z7 p,(l.length:Int)<=1000000],[],H9 (bo (a1z l a0J))⟩|_=>none
def ceu3_ok(args:List (SV U))(q:Q1 U)(h:b7Y args=some q)(ho:p9 q.ob):A3 b8d 36 args ⟨q.ob,q.hy,q.v,[]⟩:=by
 unfold b7Y at h;split at h
 . rename_i l;cases h;exact G9 (an:=c61 36) Neu2_ok (inlHN_ok Neu2_ok H0_ok c61 4) Tryz.func36 (k:=.bool) (x:=bo (a1z l a0J)) trivial (kc (d3v l ho.1 ho.2.1) (by kernel_rfl)) 0
 . cases h
def c2b:Env:=b8d.A5 36 b7Y
def Neu3_ok:c8 c2b:=Neu2_ok.A5 Tryz.call36 ceu3_ok
def A3.up{E:Env}{K k:Nat}{C:List E.SV->Option (Q1 E.N)}{args:List E.SV}{q:CR E.N}(h:A3 E K args q):A3 (E.A5 k C) K args q:=h
def c6i{args:List (SV U)}{q:CR U}(h:A3 Nrq 36 args q):A3 b6T 36 args q:=A3.up (E:=Nrq) (K:=36) (k:=36) (C:=b77) (args:=args) (q:=q) h
def c1k{args:List (SV U)}{q:CR U}(h:A3 b6T 36 args q):A3 b8d 36 args q:=A3.up (E:=b6T) (K:=36) (k:=36) (C:=b7J) (args:=args) (q:=q) h
def b57{args:List (SV U)}{q:CR U}(h:A3 b8d 36 args q):A3 c2b 36 args q:=A3.up (E:=b8d) (K:=36) (k:=36) (C:=b7Y) (args:=args) (q:=q) h
def ceu(a:List (SV U)):Option (Q1 U):=match b77 a with
 |some q=>some q
 |none=>match b7J a with
  |some q=>some q
  |none=>b7Y a
def c3d{a:List (SV U)}{q:Q1 U}(h:ceu a=some q):b77 a=some q∨b7J a=some q∨b7Y a=some q:=by
 unfold ceu at h;split at h
 . rename_i q' e;cases h;exact .inl e
 . split at h
   . rename_i q' e;cases h;exact .inr (.inl e)
   . exact .inr (.inr h)
def eu_ok(args:List (SV U))(q:Q1 U)(h:ceu args=some q)(ho:p9 q.ob):A3 c2b 36 args ⟨q.ob,q.hy,q.v,[]⟩:=by
 rcases c3d h with e|e|e
 . exact b57 (c1k (c6i (ceu1_ok _ _ e ho)))
 . exact b57 (c1k (ceu2_ok _ _ e ho))
 . exact b57 (ceu3_ok _ _ e ho)
def Neu:Env:=c2b.A5 36 ceu
def Neu_ok:c8 Neu:=Neu3_ok.A5 Tryz.call36 eu_ok
def d2t:Nat->D1:=fun|81=>⟨33,nn,nn⟩|_=>⟨0,nn,nn⟩
def Vam(a:Alm)(Q:Bool->Prop):Prop:=
((((a.Action=([65,85,68,73,79]:List UInt8)∨a.Action=([68,73,83,80,76,65,89]:List UInt8))∨a.Action=([69,77,65,73,76]:List UInt8))/\(-1000000000:Int)<=a.T6)/\a.T6<=1000000000->∀(p:K3),p∈a.Extra->z7 p)/\((((a.Action=([65,85,68,73,79]:List UInt8)∨a.Action=([68,73,83,80,76,65,89]:List UInt8))∨a.Action=([69,77,65,73,76]:List UInt8))/\(-1000000000:Int)<=a.T6)/\a.T6<=1000000000->(↑a.Extra.length:Int)<=1000000)/\Q (decide (((((a.Action=([65,85,68,73,79]:List UInt8)∨a.Action=([68,73,83,80,76,65,89]:List UInt8))∨a.Action=([69,77,65,73,76]:List UInt8))/\(-1000000000:Int)<=a.T6)/\a.T6<=1000000000)/\bo (a1z a.Extra a29)=true))
def pam(a:Alm)(hp:∀p∈a.Extra,z7 p)(hl:(a.Extra.length:Int)<=1000000):Vam a (fun y0=>y0=bo (b7W a)):=by unfold Vam;refine⟨fun _=>hp,fun _=>hl,a1o ?_⟩;rw[z6];exact⟨fun⟨⟨⟨a,b⟩,c⟩,d⟩=>⟨or_assoc.1 a,b,c,d⟩,fun⟨a,b,c,d⟩=>⟨⟨⟨or_assoc.2 a,b⟩,c⟩,d⟩⟩
def d3G(a:Alm):Q1 U:=⟨[(∀p∈a.Extra,z7 p),(a.Extra.length:Int)<=1000000],[],H9 (bo (b7W a))⟩
def cam(a:List (SV U)):Option (Q1 U):=match a with|[.agg l_a]=>(c16.bk (.agg l_a)).bind fun a=>some (d3G a)|_=>none
def Nam:Env:=Neu.A5 81 cam
def Nam_ok:c8 Nam:=Neu_ok.A5 Tryz.call81 fun(args:List (SV U)) (q:Q1 U) (h:cam args=some q) ho=>by
 unfold cam at h;split at h
 . rename_i l_a;obtain⟨a,hb_a,h⟩:=d4O.1 h;cases h;refine A3.conv (E:=Neu) (args':=[.agg [.str a.Action,.int .i64 a.T6,.sl 86 a.Extra]]) (G9 (an:=d2t 81) Neu_ok (inlHN_ok Neu_ok H0_ok d2t 2) Tryz.func81 (k:=.bool) trivial (kc (pam a ho.1 ho.2.1) (by kernel_rfl)) 0) fun D w vs hr=>N8 [.agg l_a] [.agg [.str a.Action,.int .i64 a.T6,.sl (N:=U) 86 a.Extra]] _ ⟨fun _ h=>b3r hb_a h,trivial⟩ hr
 . cases h
def c8D:Nat->D1:=fun|82=>⟨47,fun|2=>some ⟨[1,3,5,9,10],[.slot 11 (.int .i64)]⟩|_=>none,nn⟩|_=>⟨0,nn,nn⟩
def Vdt(o:F3)(l:List I8)(y:I8)(Q:Bool->Prop):Prop:=
∃(I:Int->Prop),∃(m:Int->Nat),I 0/\∀(x:Int),I x->(bR (x<(↑l.length:Int)) (0<=x/\x<(↑l.length:Int)/\o.c9.length<=1000/\(¬(¬bo (V0 o.c9 (etM (ix l x)))=true∨¬R5 (etM (ix l x)) (etM y)=true)/\0<x->c6 (x-1))/\((¬(¬bo (V0 o.c9 (etM (ix l x)))=true∨¬R5 (etM (ix l x)) (etM y)=true)/\0<x->0<=x-1)/\(¬(¬bo (V0 o.c9 (etM (ix l x)))=true∨¬R5 (etM (ix l x)) (etM y)=true)/\0<x->x-1<(↑l.length:Int)))/\(bR ((¬bo (V0 o.c9 (etM (ix l x)))=true∨¬R5 (etM (ix l x)) (etM y)=true)∨0<x/\b8 (j6 (ix l x).Time)<=b8 (j6 (ix l (x-1)).Time)) (Q false) (c6 (x+1)/\I (x+1)/\m (x+1)<m x))) (Q (decide ((↑l.length:Int)<=100))))
def pdt(o:F3)(l:List I8)(y:I8)(hz:o.c9.length<=1000)(hl:(l.length:Int)<=1000000):Vdt o l y (fun y0=>y0=bo (b0S o.c9 l y)):=by
 unfold Vdt;simp only[y6,A7,B3,C9,C6,C5,C4,C3,C2,D0,B7,d4F];refine⟨fun x=>0<=x/\x<=l.length/\q7 x fun j=>V0 o.c9 (ix l j)/\R5 (ix l j) y=true/\(0<j->b8 (ix l (j-1)).Time<b8 (ix l j).Time),fun x=>((l.length:Int)-x).toNat,⟨by omega,by omega,q7.zero⟩,?_⟩;rintro x ⟨x0,x1,hx⟩;refine⟨fun hi=>⟨x0,hi,hz,fun h=>⟨by omega,by omega⟩,⟨fun h=>by omega,fun h=>by omega⟩,fun h=>G2 fun e=>?_,fun h=>⟨⟨by omega,by omega⟩,⟨by omega,by omega,hx.succ ⟨z6.1 (d4y.1 fun e=>h (.inl (.inl e))),d4y.1 fun e=>h (.inl (.inr e)),fun p=>d8m.1 fun e=>h (.inr ⟨p,e⟩)⟩⟩,by dsimp only;omega⟩⟩,fun hi=>a1o ⟨fun e=>⟨fun j j0 j1=>hx j j0 (by omega),e⟩,fun e=>e.2⟩⟩;obtain⟨a,b,c⟩:=e.1 x x0 hi;rcases h with(h|h)|h
 . exact h (z6.2 a)
 . exact h b
 . exact absurd (c h.1) (by omega)
def d3Q(o:F3)(l:List I8)(y:I8):Q1 U:=⟨[o.c9.length<=1000,(l.length:Int)<=1000000],[],H9 (bo (b0S o.c9 l y))⟩
def cdt(a:List (SV U)):Option (Q1 U):=match a with|[.agg l_o,.sl 28 l,.agg l_y]=>(y38.bk (.agg l_o)).bind fun o=>(y28.bk (.agg l_y)).bind fun y=>some (d3Q o l y)|_=>none
def Ndt:Env:=Nam.A5 82 cdt
def Ndt_ok:c8 Ndt:=Nam_ok.A5 Tryz.call82 fun(args:List (SV U)) (q:Q1 U) (h:cdt args=some q) ho=>by
 unfold cdt at h;split at h
 . rename_i l_o l l_y;obtain⟨o,hb_o,h⟩:=d4O.1 h;obtain⟨y,hb_y,h⟩:=d4O.1 h;cases h;refine A3.conv (E:=Nam) (args':=[.agg [.str o.Kind,.str o.UID,.sl 92 o.c9,.int .i64 o.Main.Start.Time.Day.Year,.int .i64 o.Main.Start.Time.Day.Month,.int .i64 o.Main.Start.Time.Day.Date,.int .i64 o.Main.Start.Time.Hour,.int .i64 o.Main.Start.Time.Min,.int .i64 o.Main.Start.Time.D6,H9 o.Main.Start.Time.n5,H9 o.Main.Start.Time.UTC,.str o.Main.Start.I3,.sl 28 o.Main.End,.sl 3 o.Main.Span,.sl 64 o.Main.b9,.sl 28 o.Main.o6,.sl 28 o.Main.s6,.sl 28 o.Main.p5,.sl 136 o.Main.w5,.sl 86 o.Main.Extra,.sl 35 o.Over,.sl 86 o.Extra],.sl 28 l,.agg [.int .i64 y.Time.Day.Year,.int .i64 y.Time.Day.Month,.int .i64 y.Time.Day.Date,.int .i64 y.Time.Hour,.int .i64 y.Time.Min,.int .i64 y.Time.D6,H9 y.Time.n5,H9 y.Time.UTC,.str y.I3]]) (G9 (an:=c8D 82) Nam_ok (inlHN_ok Nam_ok H0_ok c8D 2) Tryz.func82 (k:=.bool) trivial (kc (pdt o l y ho.1 ho.2.1) (by kernel_rfl)) 0) fun D w vs hr=>N8 [.agg l_o,.sl 28 l,.agg l_y] [.agg [.str o.Kind,.str o.UID,.sl (N:=U) 92 o.c9,.int .i64 o.Main.Start.Time.Day.Year,.int .i64 o.Main.Start.Time.Day.Month,.int .i64 o.Main.Start.Time.Day.Date,.int .i64 o.Main.Start.Time.Hour,.int .i64 o.Main.Start.Time.Min,.int .i64 o.Main.Start.Time.D6,H9 o.Main.Start.Time.n5,H9 o.Main.Start.Time.UTC,.str o.Main.Start.I3,.sl (N:=U) 28 o.Main.End,.sl (N:=U) 3 o.Main.Span,.sl (N:=U) 64 o.Main.b9,.sl (N:=U) 28 o.Main.o6,.sl (N:=U) 28 o.Main.s6,.sl (N:=U) 28 o.Main.p5,.sl (N:=U) 136 o.Main.w5,.sl (N:=U) 86 o.Main.Extra,.sl (N:=U) 35 o.Over,.sl (N:=U) 86 o.Extra],.sl (N:=U) 28 l,.agg [.int .i64 y.Time.Day.Year,.int .i64 y.Time.Day.Month,.int .i64 y.Time.Day.Date,.int .i64 y.Time.Hour,.int .i64 y.Time.Min,.int .i64 y.Time.D6,H9 y.Time.n5,H9 y.Time.UTC,.str y.I3]] _ ⟨fun _ h=>a8h hb_o h,fun _ h=>h,fun _ h=>a8k hb_y h,trivial⟩ hr
 . cases h
def c9h:Nat->D1:=fun|38=>⟨152,fun|28=>some ⟨[2,3,123,124],[.slot 125 (.int .i64)]⟩|22=>some ⟨[2,3,111,112],[.slot 113 (.int .i64)]⟩|16=>some ⟨[2,3,97,98],[.slot 99 (.int .i64)]⟩|10=>some ⟨[2,3,72,73],[.slot 74 (.int .i64)]⟩|4=>some ⟨[2,3,43,44],[.slot 45 (.int .i64)]⟩|_=>none,nn⟩|_=>⟨0,nn,nn⟩
def b7k(o:F3)(x:R1):=b0S o.c9 x.o6 (etM x.Start)
def Vim(o:F3)(x:R1)(Q:Bool->Prop):Prop:=
o.c9.length<=1000/\(¬¬bo (V0 o.c9 (etM x.Start))=true->c6 ((↑x.End.length:Int)+(↑x.Span.length:Int)))/\(bR (((¬bo (V0 o.c9 (etM x.Start))=true∨1<(↑x.End.length:Int)+(↑x.Span.length:Int))∨1<(↑x.b9.length:Int))∨10<(↑x.w5.length:Int)) (Q false) (∃(I:Int->Prop),∃(m:Int->Nat),I 0/\∀(x_1:Int),I x_1->(bR (x_1<(↑x.End.length:Int)) (0<=x_1/\x_1<(↑x.End.length:Int)/\o.c9.length<=1000/\(bR ((¬bo (V0 o.c9 (etM (ix x.End x_1)))=true∨¬R5 (etM (ix x.End x_1)) (etM x.Start)=true)∨b8 (j6 (ix x.End x_1).Time)<=b8 (j6 x.Start.Time)) (Q false) (c6 (x_1+1)/\I (x_1+1)/\m (x_1+1)<m x_1))) (∃(I:Int->Prop),∃(m:Int->Nat),I 0/\∀(x_2:Int),I x_2->(bR (x_2<(↑x.Span.length:Int)) (0<=x_2/\x_2<(↑x.Span.length:Int)/\(c6 (ix x.Span x_2)->(¬(ix x.Span x_2<1∨1000000000<ix x.Span x_2)/\x.Start.Time.n5=true->(86400:Int)≠0)/\(bR ((ix x.Span x_2<1∨1000000000<ix x.Span x_2)∨x.Start.Time.n5=true/\(ix x.Span x_2).tmod (86400:Int)≠0) (Q false) (c6 (x_2+1)/\I (x_2+1)/\m (x_2+1)<m x_2)))) (∃(I:Int->Prop),∃(m:Int->Nat),I 0/\∀(x_3:Int),I x_3->(bR (x_3<(↑x.b9.length:Int)) (0<=x_3/\x_3<(↑x.b9.length:Int)/\(c6 (ix x.b9 x_3).j8->c6 (ix x.b9 x_3).Interval->c6 (ix x.b9 x_3).Count->c6 (ix x.b9 x_3).v7->F6 (L7 (ix x.b9 x_3))=true/\(bR (¬F8 (j6 x.Start.Time) (L7 (ix x.b9 x_3))=true) (Q false) (c6 (x_3+1)/\I (x_3+1)/\m (x_3+1)<m x_3)))) (∃(I:Int->Prop),∃(m:Int->Nat),I 0/\∀(x_4:Int),I x_4->(bR (x_4<(↑x.p5.length:Int)) (0<=x_4/\x_4<(↑x.p5.length:Int)/\o.c9.length<=1000/\(bR (¬bo (V0 o.c9 (etM (ix x.p5 x_4)))=true) (Q false) (c6 (x_4+1)/\I (x_4+1)/\m (x_4+1)<m x_4))) (∃(I:Int->Prop),∃(m:Int->Nat),I 0/\∀(x_5:Int),I x_5->(bR (x_5<(↑x.w5.length:Int)) (0<=x_5/\x_5<(↑x.w5.length:Int)/\(∀(p:K3),p∈(ix x.w5 x_5).Extra->z7 p)/\(↑(ix x.w5 x_5).Extra.length:Int)<=1000000/\(bR (¬bo (b7W (etA (ix x.w5 x_5)))=true) (Q false) (c6 (x_5+1)/\I (x_5+1)/\m (x_5+1)<m x_5))) (o.c9.length<=1000/\(↑x.o6.length:Int)<=1000000/\(bo (b7k o x)=true->o.c9.length<=1000)/\(bo (b7k o x)=true->(↑x.s6.length:Int)<=1000000)/\(bo (b7k o x)=true/\bo (b0S o.c9 x.s6 (etM x.Start))=true->∀(p:K3),p∈x.Extra->z7 p)/\(bo (b7k o x)=true/\bo (b0S o.c9 x.s6 (etM x.Start))=true->(↑x.Extra.length:Int)<=1000000)/\Q (decide ((bo (b7k o x)=true/\bo (b0S o.c9 x.s6 (etM x.Start))=true)/\bo (a1z x.Extra a2s)=true))))))))))))))
def pim(o:F3)(x:R1)(hz:o.c9.length<=1000)(hf:a2g x):Vim o x (fun y0=>y0=bo (R8 o.c9 x)):=by
 unfold Vim b7k;simp only[y6,A7,B3,C9,C6,C5,C4,C3,C2,D0,B7,d4F];obtain⟨f1,f2,f3,f4,f5,f6,f7,f8,f9,f10,f11⟩:=hf;refine⟨hz,fun _=>⟨by omega,by omega⟩,fun h=>G2 fun e=>?_,fun h=>?_⟩
 . rcases h with((h|h)|h)|h
   . exact h (z6.2 e.1)
   . have:=e.2.1;omega
   . have:=e.2.2.1;omega
   . have:=e.2.2.2.1;omega
 have g1:V0 o.c9 x.Start:=z6.1 (d4y.1 fun e=>h (.inl (.inl (.inl e))));have g2:(x.End.length:Int)+x.Span.length<=1:=d5n.1 fun e=>h (.inl (.inl (.inr e)));have g3:(x.b9.length:Int)<=1:=d5n.1 fun e=>h (.inl (.inr e));have g4:(x.w5.length:Int)<=10:=d5n.1 fun e=>h (.inr e);clear h;refine⟨fun k=>0<=k/\k<=x.End.length/\q7 k fun j=>V0 o.c9 (ix x.End j)/\R5 (ix x.End j) x.Start=true/\b8 x.Start.Time<b8 (ix x.End j).Time,fun k=>((x.End.length:Int)-k).toNat,⟨by omega,by omega,q7.zero⟩,?_⟩;rintro k ⟨k0,k1,hk⟩;refine⟨fun hi=>⟨k0,hi,hz,fun h=>G2 fun e=>?_,fun h=>⟨⟨by omega,by omega⟩,⟨by omega,by omega,hk.succ ⟨z6.1 (d4y.1 fun e=>h (.inl (.inl e))),d4y.1 fun e=>h (.inl (.inr e)),d8m.1 fun e=>h (.inr e)⟩⟩,by dsimp only;omega⟩⟩,fun hi=>?_⟩
 . obtain⟨a,b,c⟩:=e.2.2.2.2.1 k k0 hi;rcases h with(h|h)|h
   . exact h (z6.2 a)
   . exact h b
   . omega
 have g5:q7 x.End.length fun j=>V0 o.c9 (ix x.End j)/\R5 (ix x.End j) x.Start=true/\b8 x.Start.Time<b8 (ix x.End j).Time:=hk.le (by omega);clear hk k0 k1 hi k;refine⟨fun k=>0<=k/\k<=x.Span.length/\q7 k fun j=>1<=ix x.Span j/\ix x.Span j<=1000000000/\(x.Start.Time.n5=true->(ix x.Span j).tmod 86400=0),fun k=>((x.Span.length:Int)-k).toNat,⟨by omega,by omega,q7.zero⟩,?_⟩;rintro k ⟨k0,k1,hk⟩;refine⟨fun hi=>⟨k0,hi,fun _=>⟨fun _=>by decide,fun h=>G2 fun e=>?_,fun h=>⟨⟨by omega,by omega⟩,⟨by omega,by omega,hk.succ ⟨d5n.1 fun e=>h (.inl (.inl e)),d5n.1 fun e=>h (.inl (.inr e)),fun p=>d4y.1 fun e=>h (.inr ⟨p,e⟩)⟩⟩,by dsimp only;omega⟩⟩⟩,fun hi=>?_⟩
 . obtain⟨a,b,c⟩:=e.2.2.2.2.2.1 k k0 hi;rcases h with(h|h)|h
   . omega
   . omega
   . exact h.2 (c h.1)
 have g6:q7 x.Span.length fun j=>1<=ix x.Span j/\ix x.Span j<=1000000000/\(x.Start.Time.n5=true->(ix x.Span j).tmod 86400=0):=hk.le (by omega);clear hk k0 k1 hi k;refine⟨fun k=>0<=k/\k<=x.b9.length/\q7 k fun j=>F8 x.Start.Time (ix x.b9 j)=true,fun k=>((x.b9.length:Int)-k).toNat,⟨by omega,by omega,q7.zero⟩,?_⟩;rintro k ⟨k0,k1,hk⟩;refine⟨fun hi=>⟨k0,hi,fun _ _ _ _=>⟨f8 _ (u7 k0 hi),fun h=>G2 fun e=>?_,fun h=>⟨⟨by omega,by omega⟩,⟨by omega,by omega,hk.succ (d4y.1 h)⟩,by dsimp only;omega⟩⟩⟩,fun hi=>?_⟩
 . exact h (e.2.2.2.2.2.2.1 k k0 hi)
 have g7:q7 x.b9.length fun j=>F8 x.Start.Time (ix x.b9 j)=true:=hk.le (by omega);clear hk k0 k1 hi k;refine⟨fun k=>0<=k/\k<=x.p5.length/\q7 k fun j=>V0 o.c9 (ix x.p5 j),fun k=>((x.p5.length:Int)-k).toNat,⟨by omega,by omega,q7.zero⟩,?_⟩;rintro k ⟨k0,k1,hk⟩;refine⟨fun hi=>⟨k0,hi,hz,fun h=>G2 fun e=>?_,fun h=>⟨⟨by omega,by omega⟩,⟨by omega,by omega,hk.succ (z6.1 (d4y.1 h))⟩,by dsimp only;omega⟩⟩,fun hi=>?_⟩
 . exact h (z6.2 (e.2.2.2.2.2.2.2.1 k k0 hi))
 have g8:q7 x.p5.length fun j=>V0 o.c9 (ix x.p5 j):=hk.le (by omega);clear hk k0 k1 hi k;refine⟨fun k=>0<=k/\k<=x.w5.length/\q7 k fun j=>b7W (ix x.w5 j),fun k=>((x.w5.length:Int)-k).toNat,⟨by omega,by omega,q7.zero⟩,?_⟩;rintro k ⟨k0,k1,hk⟩;refine⟨fun hi=>⟨k0,hi,(f9 _ (u7 k0 hi)).1,(f9 _ (u7 k0 hi)).2,fun h=>G2 fun e=>?_,fun h=>⟨⟨by omega,by omega⟩,⟨by omega,by omega,hk.succ (z6.1 (d4y.1 h))⟩,by dsimp only;omega⟩⟩,fun hi=>?_⟩
 . exact h (z6.2 (e.2.2.2.2.2.2.2.2.1 k k0 hi))
 have g9:q7 x.w5.length fun j=>b7W (ix x.w5 j):=hk.le (by omega);clear hk k0 k1 hi k;refine⟨hz,by omega,fun _=>hz,fun _=>by omega,fun _=>f10,fun _=>f11,a1o ?_⟩;rw[z6,z6,z6];exact⟨fun⟨⟨a,b⟩,c⟩=>⟨g1,g2,g3,g4,g5,g6,g7,g8,g9,a,b,c⟩,fun⟨_,_,_,_,_,_,_,_,_,a,b,c⟩=>⟨⟨a,b⟩,c⟩⟩
def Nim:Env:=Ndt.kL 38 (r38.c (r35.c .n)) (.bool) (fun y=>[y.1.c9.length<=1000,a2g y.2.1]) (fun y=>bo (R8 y.1.c9 y.2.1))
def Nim_ok:c8 Nim:=Ndt_ok.kL Tryz.call38 Tryz.func38 (inlHN_ok Ndt_ok H0_ok c9h 2) (an:=c9h 38) (fun _ _=>trivial) fun y ho=>kc (pim y.1 y.2.1 ho.1 ho.2.1) (by kernel_rfl)
def c95:Env:=Nim.y7 41 Tryz.f41
def NI41_ok:c8 c95:=Nim_ok.y7 Tryz.call41 Tryz.func41
def d0q:Nat->D1:=fun|14=>⟨152,fun|13=>some ⟨[1,3,87,88],[.slot 89 (.int .i64)]⟩|7=>some ⟨[1,3,67,68],[.slot 69 (.int .i64)]⟩|_=>none,nn⟩|40=>⟨9,nn,nn⟩|88=>⟨19,fun|2=>some ⟨[0,1,7],[.slot 8 (.int .i64)]⟩|_=>none,nn⟩|41=>⟨9,nn,nn⟩|_=>⟨0,nn,nn⟩
def b3S(o:F3):=K3.mk [] ([85,73,68]:List UInt8) [] o.UID
def Ver(o:F3)(Q:Bool->Prop):Prop:=
(bR (((((o.Kind≠([86,69,86,69,78,84]:List UInt8)/\o.Kind≠([86,84,79,68,79]:List UInt8)∨o.UID=[])∨100<(↑(List.length o.UID):Int))∨5<(↑o.c9.length:Int))∨50<(↑o.Over.length:Int))∨0<(↑o.Main.p5.length:Int)) (Q false) (z7 (b3S o)/\(¬¬Li.D4 (b3S o)=true->∀(p:K3),p∈o.Extra->z7 p)/\(¬¬Li.D4 (b3S o)=true->(↑o.Extra.length:Int)<=1000000)/\(¬(¬Li.D4 (b3S o)=true∨¬bo (a1z o.Extra a0J)=true)->o.c9.length<=1000)/\(¬(¬Li.D4 (b3S o)=true∨¬bo (a1z o.Extra a0J)=true)->a2g (etI o.Main))/\(bR ((¬Li.D4 (b3S o)=true∨¬bo (a1z o.Extra a0J)=true)∨¬bo (R8 o.c9 (etI o.Main))=true) (Q false) (∃(I:Int->Prop),∃(m:Int->Nat),I 0/\∀(x:Int),I x->(bR (x<(↑o.c9.length:Int)) (0<=x/\x<(↑o.c9.length:Int)/\X5 (etZ (ix o.c9 x))/\(bR (¬bo (a3W (etZ (ix o.c9 x)))=true) (Q false) (0<=x/\x<=(↑o.c9.length:Int)/\∃(I_1:Int->Prop),∃(m_1:Int->Nat),I_1 0/\∀(x_1:Int),I_1 x_1->(bR (x_1<(↑(List.take x.toNat o.c9).length:Int)) (0<=x_1/\x_1<(↑(List.take x.toNat o.c9).length:Int)/\(bR ((ix (List.take x.toNat o.c9) x_1).ID=(ix o.c9 x).ID) ((bR (0<=x_1) (Q false) (c6 (x+1)/\I (x+1)/\m (x+1)<m x))) (c6 (x_1+1)/\I_1 (x_1+1)/\m_1 (x_1+1)<m_1 x_1))) ((bR ((0:Int)<=(-1:Int)) (Q false) (c6 (x+1)/\I (x+1)/\m (x+1)<m x))))))) (∃(I:Int->Prop),∃(m:Int->Nat),I 0/\∀(x:Int),I x->(bR (x<(↑o.Over.length:Int)) (0<=x/\x<(↑o.Over.length:Int)/\(¬(↑(ix o.Over x).p5.length:Int)≠1->c6 ((↑(ix o.Over x).b9.length:Int)+(↑(ix o.Over x).o6.length:Int)))/\(¬(↑(ix o.Over x).p5.length:Int)≠1->c6 ((↑(ix o.Over x).b9.length:Int)+(↑(ix o.Over x).o6.length:Int)+(↑(ix o.Over x).s6.length:Int)))/\((¬((↑(ix o.Over x).p5.length:Int)≠1∨0<(↑(ix o.Over x).b9.length:Int)+(↑(ix o.Over x).o6.length:Int)+(↑(ix o.Over x).s6.length:Int))->o.c9.length<=1000)/\(¬((↑(ix o.Over x).p5.length:Int)≠1∨0<(↑(ix o.Over x).b9.length:Int)+(↑(ix o.Over x).o6.length:Int)+(↑(ix o.Over x).s6.length:Int))->a2g (etI (ix o.Over x))))/\((¬(((↑(ix o.Over x).p5.length:Int)≠1∨0<(↑(ix o.Over x).b9.length:Int)+(↑(ix o.Over x).o6.length:Int)+(↑(ix o.Over x).s6.length:Int))∨¬bo (R8 o.c9 (etI (ix o.Over x)))=true)->(0:Int)<=0)/\(¬(((↑(ix o.Over x).p5.length:Int)≠1∨0<(↑(ix o.Over x).b9.length:Int)+(↑(ix o.Over x).o6.length:Int)+(↑(ix o.Over x).s6.length:Int))∨¬bo (R8 o.c9 (etI (ix o.Over x)))=true)->0<(↑(ix o.Over x).p5.length:Int)))/\(bR ((((↑(ix o.Over x).p5.length:Int)≠1∨0<(↑(ix o.Over x).b9.length:Int)+(↑(ix o.Over x).o6.length:Int)+(↑(ix o.Over x).s6.length:Int))∨¬bo (R8 o.c9 (etI (ix o.Over x)))=true)∨¬R5 (etM (ix (ix o.Over x).p5 0)) (etM o.Main.Start)=true) (Q false) ((0<x->c6 (x-1))/\((0<x->0<=x-1)/\(0<x->x-1<(↑o.Over.length:Int)))/\((0<x->(0:Int)<=0)/\(0<x->0<(↑(ix o.Over (x-1)).p5.length:Int)))/\((0<x->(0:Int)<=0)/\(0<x->0<(↑(ix o.Over x).p5.length:Int)))/\(bR (0<x/\b8 (j6 (ix (ix o.Over x).p5 0).Time)<=b8 (j6 (ix (ix o.Over (x-1)).p5 0).Time)) (Q false) (c6 (x+1)/\I (x+1)/\m (x+1)<m x))))) (Q true))))))))
def d2A{α:Type}[Inhabited α]{l:List α}{n:Nat}{i:Int}(h0:0<=i)(h1:i<n)(h2:i<l.length):ix (l.take n) i=ix l i:=by rw[u6 (by rw[d4Y];omega),u6 (by omega),d6Q]
def c1M(o:F3)(j:Int):Prop:=((ix o.Over j).p5.length:Int)=1/\((ix o.Over j).b9.length:Int)+(ix o.Over j).o6.length+(ix o.Over j).s6.length<=0/\R8 o.c9 (ix o.Over j)/\R5 (ix (ix o.Over j).p5 0) o.Main.Start=true/\(0<j->b8 (ix (ix o.Over (j-1)).p5 0).Time<b8 (ix (ix o.Over j).p5 0).Time)
def per(o:F3)(hf:a1D o):Ver o (fun y0=>y0=bo (a0s o)):=by
 unfold Ver b3S;simp only[y6,A7,B3,C9,C6,C5,C4,C3,C2,D0,B7,d4F];obtain⟨k1,k2,k3,k4,k5,k6,k7,k8,k9⟩:=hf;have sp:z7 ⟨[],c8d,[],o.UID⟩:=⟨by show 3<=100000;decide,d6d _,by show o.UID.length<=5000;omega,d6d _,fun x hx=>by cases hx⟩;refine⟨fun h=>G2 fun e=>?_,fun h=>?_⟩
 . rcases h with((((h|h)|h)|h)|h)|h
   . exact e.1.1.elim h.1 h.2
   . exact e.1.2.1 h
   . have:=e.1.2.2.1;omega
   . have:=e.1.2.2.2.1;omega
   . have:=e.1.2.2.2.2.1;omega
   . have:=e.1.2.2.2.2.2;omega
 have hk:o.Kind=evN∨o.Kind=tdN:=d5O fun e=>h (.inl (.inl (.inl (.inl (.inl ⟨fun a=>e (.inl a),fun a=>e (.inr a)⟩)))));have g1:(o.Kind=evN∨o.Kind=tdN)/\o.UID≠[]/\(o.UID.length:Int)<=100/\(o.c9.length:Int)<=5/\(o.Over.length:Int)<=50/\(o.Main.p5.length:Int)<=0:=⟨hk,fun e=>h (.inl (.inl (.inl (.inl (.inr e))))),d5n.1 fun e=>h (.inl (.inl (.inl (.inr e)))),d5n.1 fun e=>h (.inl (.inl (.inr e))),d5n.1 fun e=>h (.inl (.inr e)),d5n.1 fun e=>h (.inr e)⟩;clear h;refine⟨sp,fun _=>k5,fun _=>k6,fun _=>by omega,fun _=>k7,fun h=>G2 fun e=>?_,fun h=>?_⟩
 . rcases h with(h|h)|h
   . exact h e.2.1
   . exact h (z6.2 e.2.2.1)
   . exact h (z6.2 e.2.2.2.1)
 have g2:D4 ⟨[],c8d,[],o.UID⟩=true:=d4y.1 fun e=>h (.inl (.inl e));have g3:a1z o.Extra a0J:=z6.1 (d4y.1 fun e=>h (.inl (.inr e)));have g4:R8 o.c9 o.Main:=z6.1 (d4y.1 fun e=>h (.inr e));clear h;refine⟨fun x=>0<=x/\x<=o.c9.length/\q7 x fun j=>a3W (ix o.c9 j)/\q7 j fun k=>(ix o.c9 k).ID≠(ix o.c9 j).ID,fun x=>((o.c9.length:Int)-x).toNat,⟨by omega,by omega,q7.zero⟩,?_⟩;rintro x ⟨x0,x1,hx⟩;refine⟨fun hi=>⟨x0,hi,k8 _ (u7 x0 hi),fun h=>G2 fun e=>h (z6.2 (e.2.2.2.2.1 x x0 hi).1),fun h=>⟨x0,x1,?_⟩⟩,fun hi=>?_⟩
 . have hz:a3W (ix o.c9 x):=z6.1 (d4y.1 h);have lt:((o.c9.take x.toNat).length:Int)=x:=by rw[d4Y];omega
   refine⟨fun k=>0<=k/\k<=x/\q7 k fun j=>(ix o.c9 j).ID≠(ix o.c9 x).ID,fun k=>(x-k).toNat,⟨by omega,by omega,q7.zero⟩,?_⟩;rintro k ⟨j0,j1,hk'⟩;rw[lt];refine⟨fun hi2=>⟨j0,hi2,?_⟩,fun hi2=>⟨fun h=>by omega,fun _=>⟨⟨by omega,by omega⟩,⟨by omega,by omega,hx.succ ⟨hz,hk'.le (by omega)⟩⟩,by dsimp only;omega⟩⟩⟩;rw[d2A j0 (by omega) (by omega)];exact⟨fun hd=>⟨fun _=>G2 fun e=>(e.2.2.2.2.1 x x0 hi).2 k j0 hi2 hd,fun h=>absurd j0 h⟩,fun hd=>⟨⟨by omega,by omega⟩,⟨by omega,by omega,hk'.succ hd⟩,by dsimp only;omega⟩⟩
 have g5:q7 o.c9.length fun j=>a3W (ix o.c9 j)/\q7 j fun k=>(ix o.c9 k).ID≠(ix o.c9 j).ID:=hx.le (by omega);clear hx x0 x1 hi x;refine⟨fun x=>0<=x/\x<=o.Over.length/\q7 x (c1M o),fun x=>((o.Over.length:Int)-x).toNat,⟨by omega,by omega,q7.zero⟩,?_⟩;rintro x ⟨x0,x1,hx⟩;refine⟨fun hi=>?_,fun hi=>a3q ⟨g1,g2,g3,g4,g5,fun j j0 j1=>hx j j0 (by omega)⟩⟩;have fi:=k9 _ (u7 x0 hi);have l1:=fi.2.2.1;have l2:=fi.2.2.2.1;have l3:=fi.2.2.2.2.1;refine⟨x0,hi,fun _=>⟨by omega,by omega⟩,fun _=>⟨by omega,by omega⟩,⟨fun _=>by omega,fun _=>fi⟩,⟨fun _=>d4T 0,fun h=>?_⟩,fun h=>G2 fun e=>?_,fun h=>?_⟩
 . have:((ix o.Over x).p5.length:Int)=1:=d4y.1 fun e=>h (.inl (.inl e));omega
 . obtain⟨a,b,c,d,_⟩:c1M o x:=e.2.2.2.2.2 x x0 hi;rcases h with((h|h)|h)|h
   . exact h a
   . omega
   . exact h (z6.2 c)
   . exact h d
 . have a:((ix o.Over x).p5.length:Int)=1:=d4y.1 fun e=>h (.inl (.inl (.inl e)));have b:((ix o.Over x).b9.length:Int)+(ix o.Over x).o6.length+(ix o.Over x).s6.length<=0:=d5n.1 fun e=>h (.inl (.inl (.inr e)));have c:R8 o.c9 (ix o.Over x):=z6.1 (d4y.1 fun e=>h (.inl (.inr e)));have d:=d4y.1 fun e=>h (.inr e);have pv:0<x->((ix o.Over (x-1)).p5.length:Int)=1:=fun p=>(hx (x-1) (by omega) (by omega)).1;refine⟨fun _=>⟨by omega,by omega⟩,⟨fun _=>by omega,fun _=>by omega⟩,⟨fun _=>d4T 0,fun p=>by have:=pv p;omega⟩,⟨fun _=>d4T 0,fun _=>by omega⟩,fun h=>G2 fun e=>?_,fun h=>⟨⟨by omega,by omega⟩,⟨by omega,by omega,hx.succ ⟨a,b,c,d,fun p=>d8m.1 fun e=>h ⟨p,e⟩⟩⟩,by dsimp only;omega⟩⟩;have ov:c1M o x:=e.2.2.2.2.2 x x0 hi;exact absurd (ov.2.2.2.2 h.1) (by omega)
def Ner:Env:=c95.kL 14 (r38.c .n) (.bool) (fun y=>[a1D y.1]) (fun y=>bo (a0s y.1))
def Ner_ok:c8 Ner:=NI41_ok.kL Tryz.call14 Tryz.func14 (inlHN_ok NI41_ok H0_ok d0q 4) (an:=d0q 14) (fun _ _=>trivial) fun y ho=>kc (per y.1 ho.1) (by kernel_rfl)
end Go.Proofs.YtapnoejokajcoaaGreatDoor
namespace Go.Qu
open Go Go.Wk Go.Wl Go.Rx Go.Re Go.Li Go.Fo
noncomputable section
def A8(x:R1):Int:=
 if 0<(x.Span.length:Int)/\0<ix x.Span 0 then ix x.Span 0 else
 if 0<(x.End.length:Int)/\b8 x.Start.Time<b8 (ix x.End 0).Time then b8 (ix x.End 0).Time-b8 x.Start.Time else
 if x.Start.Time.n5=true then 86400 else 0
def a11(qa:Nat)(m:I8):List V8->Tm×l8
 |[]=>(K8 (b8 m.Time) tmU,.nil)
 |z::r=>if m.I3≠[]/\z.ID=m.I3 then(if(W3 z m.Time).2=.nil then((W3 z m.Time).1,.nil)else((W3 z m.Time).1,.p qa z.ID ((W3 z m.Time).2.num.getD 0)))else a11 qa m r
def w6(qa:Nat)(o:F3)(m:I8):Tm×l8:=a11 qa m o.c9
def P8(n:Int)(y:Tm):Tm:=K8 (if y.n5=true then(max 0 (min n 315537897599)).tdiv 86400*86400 else max 0 (min n 315537897599)) y
open Classical in
def b8c(o:F3)(x:R1):Int:=if a0s o/\o7 x.Start.Time=true then A8 x else 0
open Classical in
def a7j(qa:Nat)(o:F3)(m:I8):Tm×l8:=if a0s o/\V0 o.c9 m then((w6 qa o m).1,U6 (w6 qa o m).2)else(tmZ,.no 2)
def X7(o:F3)(t:Tm):Bool:=o.Main.s6.any fun m=>decide (m.Time=t)
def isN:y8:=[105,115]
def a4e(qa:Nat)(s t:Tm):Bool->List Rl->Bool×l8
 |b,[]=>(b,.nil)
 |_,r::l=>if(isP s r t).2=.nil then a4e qa s t (isP s r t).1 l else(false,.p qa isN ((isP s r t).2.num.getD 0))
def Y5(qa:Nat)(o:F3)(t:Tm):Bool×l8:=
 let h:=a4e qa o.Main.Start.Time t (decide ((o.Main.b9.length:Int)=0/\t=o.Main.Start.Time)) o.Main.b9
 if h.2=.nil then((h.1 || o.Main.o6.any fun m=>decide (m.Time=t)) && !X7 o t,.nil)else(false,h.2)
def nrL:List Int:=[2500,2500,1200,500,40,3,1]
def c6P{i:Int}(i0:0<=i)(i1:i<=6):0<=ix nrL i/\ix nrL i<=2500:=by
 have h:∀x∈nrL,0<=x/\x<=2500:=by decide
 exact h _ (u7 i0 (by show i<7;omega))
def a48(f:Int)(s t:Tm):Bool:=decide (o7 s=true->o7 t=true->b8 t-b8 s<=86400*ix nrL (max 0 (min f 6)))
def c8s(z:V8)(t:Tm)(k:Int):Prop:=0<((ix z.D8 k).b9.length:Int)->a48 (ix (ix z.D8 k).b9 0).j8 (ix z.D8 k).Start t=true
def c3L(o:F3)(t:Tm):Bool:=bo (q7 o.c9.length fun j=>q7 (ix o.c9 j).D8.length (c8s (ix o.c9 j) t))
def a3X(x:R1):List Tm:=x.Start.Time::x.p5.map I8.Time
def a5I(o:F3)(t:Tm):List Tm:=[t,o.Main.Start.Time]++o.Main.o6.map I8.Time++o.Over.flatMap a3X
def lsN(a t:Tm):Tm:=if o7 t=true/\(¬o7 a=true∨b8 a<b8 t)then t else a
def b1q(o:F3)(t:Tm):Tm:=(a5I o t).foldl lsN t
def T7{α:Type}[Inhabited α]{l:List α}{i:Int}(i0:0<=i)(i1:i<l.length):l.take (i+1).toNat=l.take i.toNat++[ix l i]:=by rw[show(i+1).toNat=i.toNat+1 by omega,d5Y (by omega),u6 (by omega)]
def b5D(o:F3)(t:Tm):(a5I o t).length=2+o.Main.o6.length+(o.Over.flatMap a3X).length:=by unfold a5I;rw[d4E,d4E,d5N];rfl
def a9w(l:List R1)(n:Nat):((l.take n).flatMap a3X).length<=(l.flatMap a3X).length:=by
 conv=>rhs;rw[<- d6O n l,d7W,d4E]
 exact d8t _ _
def b1k:∀l:List R1,l.length<=(l.flatMap a3X).length
 |[]=>d4R _
 |x::r=>by have:=b1k r;rw[d6R,d4E,d4P];unfold a3X at *;rw[d4P];omega
def teq{a t:Tm}:((a.Day.Year=t.Day.Year/\a.Day.Month=t.Day.Month/\a.Day.Date=t.Day.Date/\True)/\a.Hour=t.Hour/\a.Min=t.Min/\a.D6=t.D6/\(a.n5=true↔t.n5=true)/\(a.UTC=true↔t.UTC=true)/\True)↔a=t:=by
 constructor
 . obtain⟨⟨a1,a2,a3⟩,a4,a5,a6,a7,a8⟩:=a;obtain⟨⟨t1,t2,t3⟩,t4,t5,t6,t7,t8⟩:=t;rintro⟨⟨rfl,rfl,rfl,-⟩,rfl,rfl,rfl,h1,h2,-⟩;obtain rfl:a7=t7:=d6p.2 h1;obtain rfl:a8=t8:=d6p.2 h2;rfl
 . rintro rfl;exact⟨⟨rfl,rfl,rfl,trivial⟩,rfl,rfl,rfl,d7m,d7m,trivial⟩
def b0M{α:Type}[Inhabited α]{l:List α}{p:α->Bool}{j:Int}(j0:0<=j)(j1:j<l.length)(h:p (ix l j)=true):l.any p=true:=d6E.2 ⟨_,u7 j0 j1,h⟩
def b4K{α:Type}[Inhabited α]{l:List α}{p:α->Bool}(h:q7 l.length fun j=>p (ix l j)=false):l.any p=false:=by rw[d8l];intro x hx;rw[(q7.list (p:=fun y=>p y=false)).1 h x hx];exact d5u
def ieq{a t:Ins}:(a.Start=t.Start/\a.End=t.End/\a.u9=t.u9/\(a.Over=true↔t.Over=true)/\True)↔a=t:=by
 constructor
 . obtain⟨a1,a2,a3,a4⟩:=a;obtain⟨t1,t2,t3,t4⟩:=t;rintro⟨rfl,rfl,rfl,h,-⟩;obtain rfl:a4=t4:=d6p.2 h;rfl
 . rintro rfl;exact⟨rfl,rfl,rfl,d7m,trivial⟩
def inB(l:List Ins)(x:Ins):Bool:=l.any fun y=>decide (x=y)
def c7C{α:Type}[Inhabited α]{a b:List α}(hl:a.length=b.length)(h:q7 a.length fun j=>ix a j=ix b j):a=b:=by
 refine d8s hl fun i h1 h2=>?_;have this:ix a i=ix b i:=h i (by omega) (by omega)
 rwa [u6 (by omega),u6 (by omega)]at this
end
end Go.Qu
namespace Go.Proofs.YtapnoejokajcoaaGreatDoor
open Go Go.Wk Go.Wl Go.Rx Go.Re Go.Li Go.Qu Go.Fo 
attribute [local irreducible] i7
def c8U:Nat->D1:=fun|27=>⟨10,nn,nn⟩|_=>⟨0,nn,nn⟩
def Vqt(e:l8)(Q:l8->Prop):Prop:=
Proofs.YtapnoejokajcoaaGreatDoor.asB e=true/\(bR (e.num.isSome=true) (Q (l8.no (e.num.getD 0))) (Q e))
def pqt(e:l8)(he:asB e=true):Vqt e (fun y0=>y0=U6 e):=by unfold Vqt;exact⟨he,b1h,a9e⟩
def Nqt:Env:=Ner.kL 27 (rE.c .n) (.err) (fun y=>[asB y.1=true]) (fun y=>U6 y.1)
def Nqt_ok:c8 Nqt:=Ner_ok.kL Tryz.call27 Tryz.func27 (inlHN_ok Ner_ok H0_ok c8U 2) (an:=c8U 27) (fun y ho=>(a9n ho.1)) fun y ho=>kc (pqt y.1 ho.1) (by kernel_rfl)
def c5H:Nat->D1:=fun|47=>⟨53,nn,nn⟩|_=>⟨0,nn,nn⟩
def b2p(x:R1):=b8 (j6 (ix x.End 0).Time)-b8 (j6 x.Start.Time)
def d1k(x:R1)(Q:Int->Prop):Prop:=
(bR (0<(↑x.Span.length:Int)) ((0:Int)<=0/\0<(↑x.Span.length:Int)/\(c6 (ix x.Span 0)->(bR (0<ix x.Span 0) ((0:Int)<=0/\0<(↑x.Span.length:Int)/\(c6 (ix x.Span 0)->Q (ix x.Span 0))) ((0<(↑x.End.length:Int)->(0:Int)<=0)/\(0<(↑x.End.length:Int)->0<(↑x.End.length:Int))/\(bR (0<(↑x.End.length:Int)/\b8 (j6 x.Start.Time)<b8 (j6 (ix x.End 0).Time)) ((0:Int)<=0/\0<(↑x.End.length:Int)/\c6 (b2p x)/\Q (b2p x)) ((bR (x.Start.Time.n5=true) (Q 86400) (Q 0)))))))) ((bR (0<(↑x.End.length:Int)) ((0<(↑x.End.length:Int)->(0:Int)<=0)/\(0<(↑x.End.length:Int)->0<(↑x.End.length:Int))/\(bR (0<(↑x.End.length:Int)/\b8 (j6 x.Start.Time)<b8 (j6 (ix x.End 0).Time)) ((0:Int)<=0/\0<(↑x.End.length:Int)/\c6 (b2p x)/\Q (b2p x)) ((bR (x.Start.Time.n5=true) (Q 86400) (Q 0))))) ((bR (x.Start.Time.n5=true) (Q 86400) (Q 0))))))
def d3Y(x:R1)  : d1k x (fun y0=>y0=A8 x):=by
 unfold d1k b2p;simp only[y6,A7,B3,C9,C6,C5,C4,C3,C2,D0,B7,d4F];have r0:=x9 x.Start.Time;have r1:=x9 (ix x.End 0).Time;have D:¬(0<(x.Span.length:Int)/\0<ix x.Span 0)->¬(0<(x.End.length:Int)/\b8 x.Start.Time<b8 (ix x.End 0).Time)->(x.Start.Time.n5=true->86400=A8 x)/\(¬x.Start.Time.n5=true->0=A8 x):=fun a b=>⟨fun c=>by unfold A8;rw[if_neg a,if_neg b,if_pos c],fun c=>by unfold A8;rw[if_neg a,if_neg b,if_neg c]⟩;have E:¬(0<(x.Span.length:Int)/\0<ix x.Span 0)->(0<(x.End.length:Int)/\b8 x.Start.Time<b8 (ix x.End 0).Time)->b8 (ix x.End 0).Time-b8 x.Start.Time=A8 x:=fun a b=>by unfold A8;rw[if_neg a,if_pos b]
 refine⟨fun s=>⟨d4T 0,s,fun _=>⟨fun p=>⟨d4T 0,s,fun _=>by unfold A8;rw[if_pos ⟨s,p⟩]⟩,fun p=>?_⟩⟩,fun s=>?_⟩
 . have a:¬(0<(x.Span.length:Int)/\0<ix x.Span 0):=fun e=>p e.2;exact⟨fun _=>d4T 0,fun e=>e,fun b=>⟨d4T 0,b.1,⟨by omega,by omega⟩,E a b⟩,fun b=>D a b⟩
 . have a:¬(0<(x.Span.length:Int)/\0<ix x.Span 0):=fun e=>s e.1;exact⟨fun e=>⟨fun _=>d4T 0,fun e=>e,fun b=>⟨d4T 0,b.1,⟨by omega,by omega⟩,E a b⟩,fun b=>D a b⟩,fun e=>D a fun b=>e b.1⟩
def c6A:Env:=Nqt.kL 47 (r35.c .n) (.int .i64) (fun _=>[]) (fun y=>A8 y.1)
def Nqlo_ok:c8 c6A:=Nqt_ok.kL Tryz.call47 Tryz.func47 (inlHN_ok Nqt_ok H0_ok c5H 2) (an:=c5H 47) (fun _ _=>trivial) fun y ho=>kc (d3Y y.1 ) (by kernel_rfl)
def c4u:Nat->D1:=fun|55=>⟨23,nn,nn⟩|_=>⟨0,nn,nn⟩
def a6K(n:Int):=bif true then max (0:Int) (bif false then max n (b8 (Tm.mk (Dy.mk 9999 12 31) 0 0 0 false false)+86400-1)else min n (b8 (Tm.mk (Dy.mk 9999 12 31) 0 0 0 false false)+86400-1))else min (0:Int) (bif false then max n (b8 (Tm.mk (Dy.mk 9999 12 31) 0 0 0 false false)+86400-1)else min n (b8 (Tm.mk (Dy.mk 9999 12 31) 0 0 0 false false)+86400-1))
def d01(n:Int)(y:Tm)(Q:Tm->Prop):Prop:=
c6 (b8 (Tm.mk (Dy.mk 9999 12 31) 0 0 0 false false)+86400)/\c6 (b8 (Tm.mk (Dy.mk 9999 12 31) 0 0 0 false false)+86400-1)/\(bR (y.n5=true) ((86400:Int)≠0/\c6 ((a6K n).tdiv 86400)/\c6 ((a6K n).tdiv (86400:Int)*86400)/\(a6K n).tdiv (86400:Int)*86400<=9000000000000000000/\Q (j6 (K8 ((a6K n).tdiv (86400:Int)*86400) (j6 y)))) ((a6K n)<=9000000000000000000/\Q (j6 (K8 (a6K n) (j6 y)))))
def b7F:b8 (Tm.mk (Dy.mk 9999 12 31) 0 0 0 false false)=315537811200:=by kernel_rfl
def d2T(n:Int)(y:Tm)  : d01 n y (fun y0=>y0=P8 n y):=by
 unfold d01 a6K;simp only[y6,A7,B3,C9,C6,C5,C4,C3,C2,D0,B7,d4F,b7F,d4W,d5c];have e:(315537811200:Int)+86400-1=315537897599:=by decide
 simp only[e];unfold P8;have b0:0<=max 0 (min n 315537897599):=by omega
 have b1:max 0 (min n 315537897599)<=315537897599:=by omega
 generalize max 0 (min n 315537897599)=k at *;rw[d4H b0];refine⟨⟨by omega,by omega⟩,⟨by omega,by omega⟩,fun h=>⟨by decide,⟨by omega,by omega⟩,⟨by omega,by omega⟩,by omega,?_⟩,fun h=>⟨by omega,?_⟩⟩
 . rw[if_pos h]
 . rw[if_neg h]
def d2n(n:Int)(y:Tm):Q1 U:=⟨[],[],.agg [.int .i64 (P8 n y).Day.Year,.int .i64 (P8 n y).Day.Month,.int .i64 (P8 n y).Day.Date,.int .i64 (P8 n y).Hour,.int .i64 (P8 n y).Min,.int .i64 (P8 n y).D6,H9 (P8 n y).n5,H9 (P8 n y).UTC]⟩
def c8g(a:List (SV U)):Option (Q1 U):=match a with|[.int .i64 n,.agg l_y]=>(y26.bk (.agg l_y)).bind fun y=>some (d2n n y)|_=>none
def c9M:Env:=c6A.A5 55 c8g
def Nqed_ok:c8 c9M:=Nqlo_ok.A5 Tryz.call55 fun(args:List (SV U)) (q:Q1 U) (h:c8g args=some q) ho=>by
 unfold c8g at h;split at h
 . rename_i n l_y;obtain⟨y,hb_y,h⟩:=d4O.1 h;cases h;refine A3.conv (E:=c6A) (args':=[.int .i64 n,.agg [.int .i64 y.Day.Year,.int .i64 y.Day.Month,.int .i64 y.Day.Date,.int .i64 y.Hour,.int .i64 y.Min,.int .i64 y.D6,H9 y.n5,H9 y.UTC]]) (G9 (an:=c4u 55) Nqlo_ok (inlHN_ok Nqlo_ok H0_ok c4u 2) Tryz.func55 (k:=.val 26) ⟨_,_,rfl,rfl,rfl⟩ (kc (d2T n y ) (by kernel_rfl)) 0) fun D w vs hr=>N8 [.int .i64 n,.agg l_y] [.int .i64 n,.agg [.int .i64 y.Day.Year,.int .i64 y.Day.Month,.int .i64 y.Day.Date,.int .i64 y.Hour,.int .i64 y.Min,.int .i64 y.D6,H9 y.n5,H9 y.UTC]] _ ⟨fun _ h=>h,fun _ h=>a19 hb_y h,trivial⟩ hr
 . cases h
def c4Y:Env:=c9M.y7 101 Tryz.f101
def NI101_ok:c8 c4Y:=Nqed_ok.y7 Tryz.call101 Tryz.func101
def c4W:Env:=c4Y.y7 141 Tryz.f141
def NI141_ok:c8 c4W:=NI101_ok.y7 Tryz.call141 Tryz.func141
def c5n:Env:=c4W.y7 102 Tryz.f102
def NI102_ok:c8 c5n:=NI141_ok.y7 Tryz.call102 Tryz.func102
def c4A:Nat->D1:=fun|59=>⟨10,nn,nn⟩|101=>⟨9,nn,nn⟩|141=>⟨19,fun|2=>some ⟨[0,1,7],[.slot 8 (.int .i64)]⟩|_=>none,nn⟩|102=>⟨8,nn,nn⟩|_=>⟨0,nn,nn⟩
def d1c(o:F3)(t:Tm)(Q:Bool->Prop):Prop:=
∃(I:Int->Prop),∃(m:Int->Nat),I 0/\∀(x:Int),I x->(bR (x<(↑o.Main.s6.length:Int)) (0<=x/\x<(↑o.Main.s6.length:Int)/\(bR (((ix o.Main.s6 x).Time.Day.Year=t.Day.Year/\(ix o.Main.s6 x).Time.Day.Month=t.Day.Month/\(ix o.Main.s6 x).Time.Day.Date=t.Day.Date/\True)/\(ix o.Main.s6 x).Time.Hour=t.Hour/\(ix o.Main.s6 x).Time.Min=t.Min/\(ix o.Main.s6 x).Time.D6=t.D6/\((ix o.Main.s6 x).Time.n5=true↔t.n5=true)/\((ix o.Main.s6 x).Time.UTC=true↔t.UTC=true)/\True) (Q (decide (0<=x))) (c6 (x+1)/\I (x+1)/\m (x+1)<m x))) (Q (decide ((0:Int)<=(-1:Int)))))
def d2P(o:F3)(t:Tm)(hl:(o.Main.s6.length:Int)<=1000000):d1c o t (fun y0=>y0=X7 o t):=by
 unfold d1c;refine⟨fun x=>0<=x/\x<=o.Main.s6.length/\q7 x fun j=>decide ((ix o.Main.s6 j).Time=t)=false,fun x=>((o.Main.s6.length:Int)-x).toNat,⟨by omega,by omega,q7.zero⟩,?_⟩;rintro x ⟨x0,x1,hx⟩;rw[teq];refine⟨fun hi=>⟨x0,hi,fun hd=>?_,fun hd=>⟨⟨by omega,by omega⟩,⟨by omega,by omega,hx.succ (d4V hd)⟩,by dsimp only;omega⟩⟩,fun hi=>?_⟩
 . rw[d4K x0];exact(b0M x0 hi (d4K hd)).symm
 . exact(b4K (l:=o.Main.s6) (p:=fun m:I8=>decide (m.Time=t)) fun j j0 j1=>hx j j0 (by omega)).symm
def c9v:Env:=c5n.kL 59 (r38.c (r26.c .n)) (.bool) (fun y=>[(y.1.Main.s6.length:Int)<=1000000]) (fun y=>X7 y.1 y.2.1)
def Nqou_ok:c8 c9v:=NI102_ok.kL Tryz.call59 Tryz.func59 (inlHN_ok NI102_ok H0_ok c4A 4) (an:=c4A 59) (fun _ _=>trivial) fun y ho=>kc (d2P y.1 y.2.1 ho.1) (by kernel_rfl)
def I9(o:F3)(m:I8)(x:Int)(Q:Tm->l8->Prop):Prop:=(W3 (etZ (ix o.c9 x)) (j6 m.Time)).snd=l8.no (W3 (etZ (ix o.c9 x)) (j6 m.Time)).snd.n0/\Q (j6 (W3 (etZ (ix o.c9 x)) (j6 m.Time)).fst) (l8.p 105 (ix o.c9 x).ID (W3 (etZ (ix o.c9 x)) (j6 m.Time)).snd.n0)
def c4B:Nat->D1:=fun|46=>⟨50,fun|2=>some ⟨[3,4,11,12],[.slot 13 (.int .i64),.own 4 [(.int .i64),(.int .i64),(.int .i64),(.int .i64),(.int .i64),(.int .i64),.bool,.bool]]⟩|_=>none,fun|3000007=>some ⟨[],[]⟩|_=>none⟩|_=>⟨0,nn,nn⟩
def d2p(o:F3)(m:I8)(Q:Tm->l8->Prop):Prop:=
∃(I:Int->Int->Int->Int->Int->Int->Int->Bool->Bool->Prop),∃(m_1:Int->Int->Int->Int->Int->Int->Int->Bool->Bool->Nat),I 0 0 0 0 0 0 0 false false/\∀(x x_1 x_2 x_3 x_4 x_5 x_6:Int)(x_7 x_8:Bool),I x x_1 x_2 x_3 x_4 x_5 x_6 x_7 x_8->(bR (x<(↑o.c9.length:Int)) (0<=x/\x<(↑o.c9.length:Int)/\(bR (m.I3≠[]/\(ix o.c9 x).ID=m.I3) (X5 (etZ (ix o.c9 x))/\(bR ((W3 (etZ (ix o.c9 x)) (j6 m.Time)).snd≠l8.nil) ((((((((I9 o m x Q)/\I9 o m x Q)/\I9 o m x Q)/\I9 o m x Q)/\I9 o m x Q)/\(((((I9 o m x Q)/\I9 o m x Q)/\I9 o m x Q)/\I9 o m x Q)/\I9 o m x Q)/\(I9 o m x Q)/\I9 o m x Q)/\((((((I9 o m x Q)/\I9 o m x Q)/\I9 o m x Q)/\I9 o m x Q)/\I9 o m x Q)/\I9 o m x Q)/\((I9 o m x Q)/\I9 o m x Q)/\I9 o m x Q)/\(((((((I9 o m x Q)/\I9 o m x Q)/\I9 o m x Q)/\I9 o m x Q)/\I9 o m x Q)/\(((((I9 o m x Q)/\I9 o m x Q)/\I9 o m x Q)/\I9 o m x Q)/\I9 o m x Q)/\(I9 o m x Q)/\I9 o m x Q)/\((((((I9 o m x Q)/\I9 o m x Q)/\I9 o m x Q)/\I9 o m x Q)/\I9 o m x Q)/\((((I9 o m x Q)/\I9 o m x Q)/\I9 o m x Q)/\I9 o m x Q)/\(((I9 o m x Q)/\I9 o m x Q)/\I9 o m x Q)/\((I9 o m x Q)/\I9 o m x Q)/\I9 o m x Q)/\(((((I9 o m x Q)/\I9 o m x Q)/\I9 o m x Q)/\I9 o m x Q)/\I9 o m x Q)/\((((I9 o m x Q)/\I9 o m x Q)/\I9 o m x Q)/\I9 o m x Q)/\(((I9 o m x Q)/\I9 o m x Q)/\I9 o m x Q)/\((I9 o m x Q)/\I9 o m x Q)/\I9 o m x Q)/\((((((I9 o m x Q)/\I9 o m x Q)/\I9 o m x Q)/\I9 o m x Q)/\I9 o m x Q)/\I9 o m x Q)/\(((((I9 o m x Q)/\I9 o m x Q)/\I9 o m x Q)/\I9 o m x Q)/\I9 o m x Q)/\((((I9 o m x Q)/\I9 o m x Q)/\I9 o m x Q)/\I9 o m x Q)/\(((I9 o m x Q)/\I9 o m x Q)/\I9 o m x Q)/\((I9 o m x Q)/\I9 o m x Q)/\I9 o m x Q) (Q (j6 (W3 (etZ (ix o.c9 x)) (j6 m.Time)).fst) l8.nil))) (c6 (x+1)/\I (x+1) x_1 x_2 x_3 x_4 x_5 x_6 (decide (x_7=true)) (decide (x_8=true))/\m_1 (x+1) x_1 x_2 x_3 x_4 x_5 x_6 (decide (x_7=true)) (decide (x_8=true))<m_1 x x_1 x_2 x_3 x_4 x_5 x_6 x_7 x_8))) (b8 (j6 m.Time)<=9000000000000000000/\Q (j6 (K8 (b8 (j6 m.Time)) (Tm.mk (Dy.mk 0 0 0) 0 0 0 false true))) l8.nil))
def d3X(o:F3)(m:I8)(hf:∀z∈o.c9,X5 z)(hl:(o.c9.length:Int)<=1000000):d2p o m (fun y0 y1=>y0=(w6 105 o m).1/\y1=(w6 105 o m).2):=by
 unfold d2p;refine⟨fun x _ _ _ _ _ _ _ _=>0<=x/\x<=o.c9.length/\a11 105 m o.c9=a11 105 m (o.c9.drop x.toNat),fun x _ _ _ _ _ _ _ _=>((o.c9.length:Int)-x).toNat,⟨by omega,by omega,rfl⟩,?_⟩;rintro x _ _ _ _ _ _ _ _ ⟨x0,x1,hx⟩;have rg:=x9 m.Time;simp only[y6,A7,B3,C9,C6,C5,C4,C3,C2,D0,B7,d4F];have hd:x<o.c9.length->o.c9.drop x.toNat=ix o.c9 x::o.c9.drop (x+1).toNat:=fun hi=>by rw[show(x+1).toNat=x.toNat+1 by omega,u6 (by omega)];exact d6h (by omega)
 have ms:w6 105 o m=a11 105 m (o.c9.drop x.toNat):=hx;rw[ms];refine⟨fun hi=>⟨x0,hi,fun hc=>⟨hf _ (u7 x0 hi),fun he=>?_,fun he=>?_⟩,fun hc=>⟨⟨by omega,by omega⟩,⟨by omega,by omega,?_⟩,by omega⟩⟩,fun hi=>⟨by omega,?_⟩⟩
 . have T:I9 o m x (fun y0 y1=>y0=(a11 105 m (o.c9.drop x.toNat)).1/\y1=(a11 105 m (o.c9.drop x.toNat)).2):=by
     unfold I9;simp only[y6,A7,B3,C9,C6,C5,C4,C3,C2,D0,B7,d4F];obtain⟨k,hk⟩:=(b2z (ix o.c9 x) m.Time).resolve_left he;rw[hd hi];unfold a11;rw[if_pos hc,if_neg he,hk];exact⟨rfl,rfl,rfl⟩
   simp only[and_self];exact T
 . have he:=d4y.1 he;rw[hd hi];unfold a11;rw[if_pos hc,if_pos he];exact⟨rfl,rfl⟩
 . rw[hx,hd hi,a11,if_neg hc]
 . rw[d6g (by omega),a11];exact⟨rfl,rfl⟩
def d0b(o:F3)(m:I8)(nx:Nat):CR U:=⟨[(∀z∈o.c9,X5 z),(o.c9.length:Int)<=1000000],[],.E7 [.agg [.int .i64 ((w6 105 o m).1).Day.Year,.int .i64 ((w6 105 o m).1).Day.Month,.int .i64 ((w6 105 o m).1).Day.Date,.int .i64 ((w6 105 o m).1).Hour,.int .i64 ((w6 105 o m).1).Min,.int .i64 ((w6 105 o m).1).D6,H9 ((w6 105 o m).1).n5,H9 ((w6 105 o m).1).UTC],.err ((w6 105 o m).2)],[]⟩
def c7Z(a:List (SV U))(nx:Nat):Option (CR U):=match a with|[.agg l_o,.agg l_m]=>(y38.bk (.agg l_o)).bind fun o=>(y28.bk (.agg l_m)).bind fun m=>some (d0b o m nx)|_=>none
def d0n:Env:=c9v.a0K 46 c7Z
def Nqmo_ok:c8 d0n:=Nqou_ok.a0K Tryz.call46 fun(args:List (SV U)) nx (c:CR U) (h:c7Z args nx=some c) hp ho=>by
 unfold c7Z at h;split at h
 . rename_i l_o l_m;obtain⟨o,hb_o,h⟩:=d4O.1 h;obtain⟨m,hb_m,h⟩:=d4O.1 h;cases h;exact O8.a3u (b:=[.agg [.str o.Kind,.str o.UID,.sl (N:=U) 92 o.c9,.int .i64 o.Main.Start.Time.Day.Year,.int .i64 o.Main.Start.Time.Day.Month,.int .i64 o.Main.Start.Time.Day.Date,.int .i64 o.Main.Start.Time.Hour,.int .i64 o.Main.Start.Time.Min,.int .i64 o.Main.Start.Time.D6,H9 o.Main.Start.Time.n5,H9 o.Main.Start.Time.UTC,.str o.Main.Start.I3,.sl (N:=U) 28 o.Main.End,.sl (N:=U) 3 o.Main.Span,.sl (N:=U) 64 o.Main.b9,.sl (N:=U) 28 o.Main.o6,.sl (N:=U) 28 o.Main.s6,.sl (N:=U) 28 o.Main.p5,.sl (N:=U) 136 o.Main.w5,.sl (N:=U) 86 o.Main.Extra,.sl (N:=U) 35 o.Over,.sl (N:=U) 86 o.Extra],.agg [.int .i64 m.Time.Day.Year,.int .i64 m.Time.Day.Month,.int .i64 m.Time.Day.Date,.int .i64 m.Time.Hour,.int .i64 m.Time.Min,.int .i64 m.Time.D6,H9 m.Time.n5,H9 m.Time.UTC,.str m.I3]]) (c6u (an:=c4B 46) Nqou_ok (inlHN_ok Nqou_ok H0_ok c4B 2) Tryz.func46 (k1:=.val 26) (k2:=.err) rfl rfl (kc (d3X o m ho.1 ho.2.1) (by kernel_rfl))) fun ρ Z w v hr=>N8 [.agg l_o,.agg l_m] [.agg [.str o.Kind,.str o.UID,.sl (N:=U) 92 o.c9,.int .i64 o.Main.Start.Time.Day.Year,.int .i64 o.Main.Start.Time.Day.Month,.int .i64 o.Main.Start.Time.Day.Date,.int .i64 o.Main.Start.Time.Hour,.int .i64 o.Main.Start.Time.Min,.int .i64 o.Main.Start.Time.D6,H9 o.Main.Start.Time.n5,H9 o.Main.Start.Time.UTC,.str o.Main.Start.I3,.sl (N:=U) 28 o.Main.End,.sl (N:=U) 3 o.Main.Span,.sl (N:=U) 64 o.Main.b9,.sl (N:=U) 28 o.Main.o6,.sl (N:=U) 28 o.Main.s6,.sl (N:=U) 28 o.Main.p5,.sl (N:=U) 136 o.Main.w5,.sl (N:=U) 86 o.Main.Extra,.sl (N:=U) 35 o.Over,.sl (N:=U) 86 o.Extra],.agg [.int .i64 m.Time.Day.Year,.int .i64 m.Time.Day.Month,.int .i64 m.Time.Day.Date,.int .i64 m.Time.Hour,.int .i64 m.Time.Min,.int .i64 m.Time.D6,H9 m.Time.n5,H9 m.Time.UTC,.str m.I3]] _ ⟨fun _ h=>a8h hb_o h,fun _ h=>a8k hb_m h,trivial⟩ hr
 . cases h
def c5c:Nat->D1:=fun|17=>⟨17,nn,nn⟩|_=>⟨0,nn,nn⟩
def d0C(o:F3)(x:R1)(Q:Int->Prop):Prop:=
a1D (V9 o)/\(bR (¬bo (a0s (V9 o))=true∨¬o7 (j6 x.Start.Time)=true) (Q 0) (Q (A8 (etI x))))
def d2V(o:F3)(x:R1)(hf:a1D o):d0C o x (fun y0=>y0=b8c o x):=by
 unfold d0C;simp only[y6,A7,B3,C9,C6,C5,C4,C3,C2,D0,B7,d4F];unfold b8c;refine⟨hf,fun h=>?_,fun h=>?_⟩
 . rw[if_neg fun e=>h.elim (fun n=>n (z6.2 e.1)) (fun n=>n e.2)]
 . rw[if_pos ⟨z6.1 (d4y.1 fun e=>h (.inl e)),d4y.1 fun e=>h (.inr e)⟩]
def d1d:Env:=d0n.kL 17 (r38.c (r35.c .n)) (.int .i64) (fun y=>[a1D y.1]) (fun y=>b8c y.1 y.2.1)
def Nqlg_ok:c8 d1d:=Nqmo_ok.kL Tryz.call17 Tryz.func17 (inlHN_ok Nqmo_ok H0_ok c5c 2) (an:=c5c 17) (fun _ _=>trivial) fun y ho=>kc (d2V y.1 y.2.1 ho.1) (by kernel_rfl)
def d1Q:Env:=d1d.y7 45 Tryz.f45
def NI45_ok:c8 d1Q:=Nqlg_ok.y7 Tryz.call45 Tryz.func45
def c4C:Nat->D1:=fun|16=>⟨50,nn,nn⟩|40=>⟨9,nn,nn⟩|88=>⟨19,fun|2=>some ⟨[0,1,7],[.slot 8 (.int .i64)]⟩|_=>none,nn⟩|45=>⟨9,nn,nn⟩|_=>⟨0,nn,nn⟩
def a3h(o:F3)(m:I8):=w6 (105:Nat) (V9 o) (etM m)
def b1t  := Tm.mk (Dy.mk 0 0 0) 0 0 0 false false
def d0v(o:F3)(m:I8)(Q:Tm->l8->Prop):Prop:=
a1D (V9 o)/\(bR (¬bo (a0s (V9 o))=true∨¬o7 (j6 m.Time)=true) (Q b1t (l8.no 2)) ((bR (m.I3≠[]) ((bR (m.Time.n5=true∨m.Time.UTC=true) (Q b1t (l8.no 2)) (∃(I:Int->Prop),∃(m_1:Int->Nat),I 0/\∀(x:Int),I x->(bR (x<(↑o.c9.length:Int)) (0<=x/\x<(↑o.c9.length:Int)/\(bR ((ix o.c9 x).ID=m.I3) ((bR (¬0<=x) (Q b1t (l8.no 2)) ((∀(z:V8),z∈o.c9->X5 z)/\(↑o.c9.length:Int)<=1000000/\asB (a3h o m).snd=true/\Q (j6 (a3h o m).fst) (U6 (a3h o m).snd)))) (c6 (x+1)/\I (x+1)/\m_1 (x+1)<m_1 x))) ((bR (¬(0:Int)<=(-1:Int)) (Q b1t (l8.no 2)) ((∀(z:V8),z∈o.c9->X5 z)/\(↑o.c9.length:Int)<=1000000/\asB (a3h o m).snd=true/\Q (j6 (a3h o m).fst) (U6 (a3h o m).snd)))))))) ((∀(z:V8),z∈o.c9->X5 z)/\(↑o.c9.length:Int)<=1000000/\asB (a3h o m).snd=true/\Q (j6 (a3h o m).fst) (U6 (a3h o m).snd)))))
def b0e(m:I8):∀l:List V8,asB (a11 105 m l).2=true
 |[]=>rfl
 |z::r=>by
  unfold a11;split
  . split <;> rfl
  . exact b0e m r
def d3e(o:F3)(m:I8)(hf:a1D o):d0v o m (fun y0 y1=>y0=(a7j 105 o m).1/\y1=(a7j 105 o m).2):=by
 unfold d0v b1t a3h;simp only[y6,A7,B3,C9,C6,C5,C4,C3,C2,D0,B7,d4F];have hz:=hf.2.2.2.2.2.2.2.1;have hl:=hf.2.2.1;have F:¬(a0s o/\V0 o.c9 m)->tmZ=(a7j 105 o m).1/\l8.no 2=(a7j 105 o m).2:=fun h=>by unfold a7j;rw[if_neg h];exact⟨rfl,rfl⟩
 have G:a0s o/\V0 o.c9 m->(∀z∈o.c9,X5 z)/\(o.c9.length:Int)<=1000000/\asB (w6 105 o m).2=true/\(w6 105 o m).1=(a7j 105 o m).1/\U6 (w6 105 o m).2=(a7j 105 o m).2:=fun h=>⟨hz,by omega,b0e _ _,by unfold a7j;rw[if_pos h],by unfold a7j;rw[if_pos h]⟩;refine⟨hf,fun h=>F fun e=>h.elim (fun n=>n (z6.2 e.1)) (fun n=>n e.2.1),fun h=>?_⟩;have ho:a0s o:=z6.1 (d4y.1 fun e=>h (.inl e));have hr:o7 m.Time=true:=d4y.1 fun e=>h (.inr e);refine⟨fun hn=>⟨fun hb=>F fun e=>?_,fun hb=>?_⟩,fun hn=>G ⟨ho,hr,fun e=>absurd e hn⟩⟩
 . rcases hb with hb|hb
   . rw[(e.2.2 hn).1]at hb;cases hb
   . rw[(e.2.2 hn).2.1]at hb;cases hb
 refine⟨fun x=>0<=x/\x<=o.c9.length/\q7 x fun j=>(ix o.c9 j).ID≠m.I3,fun x=>((o.c9.length:Int)-x).toNat,⟨by omega,by omega,q7.zero⟩,?_⟩;rintro x ⟨x0,x1,hx⟩;refine⟨fun hi=>⟨x0,hi,fun hd=>⟨fun h=>absurd x0 h,fun _=>G ⟨ho,hr,fun _=>⟨d5l _ ▸ fun e=>hb (.inl e),d5l _ ▸ fun e=>hb (.inr e),x,x0,hi,hd⟩⟩⟩,fun hd=>⟨⟨by omega,by omega⟩,⟨by omega,by omega,hx.succ hd⟩,by dsimp only;omega⟩⟩,fun hi=>⟨fun _=>F fun e=>?_,fun h=>absurd (d4y.1 h) (by decide)⟩⟩;obtain⟨j,j0,j1,hj⟩:=(e.2.2 hn).2.2;exact hx j j0 (by omega) hj
def d03:Env:=d1Q.kD 16 (r38.c (r28.c .n)) (.val 26) (.err) (fun y=>[a1D y.1]) (fun y=>((a7j 105 y.1 y.2.1).1:Tm)) (fun y=>((a7j 105 y.1 y.2.1).2:l8))
def Nqmm_ok:c8 d03:=NI45_ok.kD Tryz.call16 Tryz.func16 (inlHN_ok NI45_ok H0_ok c4C 4) (an:=c4C 16) (fun _=>rfl) fun y ho=>kc (d3e y.1 y.2.1 ho.1) (by kernel_rfl)
def c5j:Env:=d03.y7 109 Tryz.f109
def NI109_ok:c8 c5j:=Nqmm_ok.y7 Tryz.call109 Tryz.func109
def c5M:Nat->D1:=fun|64=>⟨63,fun|3=>some ⟨[2,3,25,26],[.slot 6 .bool,.slot 27 (.int .i64)]⟩|_=>none,nn⟩|101=>⟨9,nn,nn⟩|141=>⟨19,fun|2=>some ⟨[0,1,7],[.slot 8 (.int .i64)]⟩|_=>none,nn⟩|109=>⟨8,nn,nn⟩|_=>⟨0,nn,nn⟩
def a7u(o:F3)(x_1:Int)(t:Tm):=isP (j6 o.Main.Start.Time) (L7 (ix o.Main.b9 x_1)) (j6 t)
def c8V(o:F3)(t:Tm)(Q:Bool->l8->Prop):Prop:=
∃(I:Bool->Int->Prop),∃(m:Bool->Int->Nat),I (decide ((↑o.Main.b9.length:Int)=0/\(t.Day.Year=o.Main.Start.Time.Day.Year/\t.Day.Month=o.Main.Start.Time.Day.Month/\t.Day.Date=o.Main.Start.Time.Day.Date/\True)/\t.Hour=o.Main.Start.Time.Hour/\t.Min=o.Main.Start.Time.Min/\t.D6=o.Main.Start.Time.D6/\(t.n5=true↔o.Main.Start.Time.n5=true)/\(t.UTC=true↔o.Main.Start.Time.UTC=true)/\True)) 0/\∀(x:Bool)(x_1:Int),I x x_1->(bR (x_1<(↑o.Main.b9.length:Int)) (0<=x_1/\x_1<(↑o.Main.b9.length:Int)/\(c6 (ix o.Main.b9 x_1).j8->c6 (ix o.Main.b9 x_1).Interval->c6 (ix o.Main.b9 x_1).Count->c6 (ix o.Main.b9 x_1).v7->F6 (L7 (ix o.Main.b9 x_1))=true/\(bR ((a7u o x_1 t).snd≠l8.nil) ((a7u o x_1 t).snd=l8.no (a7u o x_1 t).snd.n0/\Q false (l8.p (105:Nat) ([105,115]:List UInt8) (a7u o x_1 t).snd.n0)) (c6 (x_1+1)/\I (decide ((a7u o x_1 t).fst=true)) (x_1+1)/\m (decide ((a7u o x_1 t).fst=true)) (x_1+1)<m x x_1)))) ((bR (x=true) ((↑o.Main.s6.length:Int)<=1000000/\Q (decide ¬X7 (V9 o) (j6 t)=true) l8.nil) (∃(I:Int->Prop),∃(m:Int->Nat),I 0/\∀(x:Int),I x->(bR (x<(↑o.Main.o6.length:Int)) (0<=x/\x<(↑o.Main.o6.length:Int)/\(bR (((ix o.Main.o6 x).Time.Day.Year=t.Day.Year/\(ix o.Main.o6 x).Time.Day.Month=t.Day.Month/\(ix o.Main.o6 x).Time.Day.Date=t.Day.Date/\True)/\(ix o.Main.o6 x).Time.Hour=t.Hour/\(ix o.Main.o6 x).Time.Min=t.Min/\(ix o.Main.o6 x).Time.D6=t.D6/\((ix o.Main.o6 x).Time.n5=true↔t.n5=true)/\((ix o.Main.o6 x).Time.UTC=true↔t.UTC=true)/\True) ((0<=x->(↑o.Main.s6.length:Int)<=1000000)/\Q (decide (0<=x/\¬X7 (V9 o) (j6 t)=true)) l8.nil) (c6 (x+1)/\I (x+1)/\m (x+1)<m x))) (((0:Int)<=(-1:Int)->(↑o.Main.s6.length:Int)<=1000000)/\Q (decide ((0:Int)<=(-1:Int)/\¬X7 (V9 o) (j6 t)=true)) l8.nil))))))
def d4a(o:F3)(t:Tm)(hf:a2g o.Main):c8V o t (fun y0 y1=>y0=(Y5 105 o t).1/\y1=(Y5 105 o t).2):=by
 unfold c8V a7u;simp only[y6,A7,B3,C9,C6,C5,C4,C3,C2,D0,B7,d4F,teq];obtain⟨f1,f2,f3,f4,f5,f6,f7,f8,f9,f10,f11⟩:=hf;have hd:∀i:Int,0<=i->i<o.Main.b9.length->o.Main.b9.drop i.toNat=ix o.Main.b9 i::o.Main.b9.drop (i+1).toNat:=fun i i0 hi=>by rw[show(i+1).toNat=i.toNat+1 by omega,u6 (by omega)];exact d6h (by omega)
 refine⟨fun b i=>0<=i/\i<=o.Main.b9.length/\a4e 105 o.Main.Start.Time t (decide ((o.Main.b9.length:Int)=0/\t=o.Main.Start.Time)) o.Main.b9=a4e 105 o.Main.Start.Time t b (o.Main.b9.drop i.toNat),fun _ i=>((o.Main.b9.length:Int)-i).toNat,⟨by omega,by omega,rfl⟩,?_⟩;rintro b i ⟨i0,i1,hb⟩;refine⟨fun hi=>⟨i0,hi,fun _ _ _ _=>⟨f8 _ (u7 i0 hi),fun he=>?_,fun he=>⟨⟨by omega,by omega⟩,⟨by omega,by omega,?_⟩,by dsimp only;omega⟩⟩⟩,fun hi=>?_⟩
 . obtain⟨k,hk⟩:=(b6P o.Main.Start.Time (ix o.Main.b9 i) t).resolve_left he;have hL:a4e 105 o.Main.Start.Time t (decide ((o.Main.b9.length:Int)=0/\t=o.Main.Start.Time)) o.Main.b9=(false,.p 105 isN k):=by
    rw[hb,hd i i0 hi,a4e,if_neg he,hk];rfl
   have H:Y5 105 o t=(false,.p 105 isN k):=by unfold Y5;dsimp only;rw[hL,if_neg (fun e=>by cases e)]
   rw[H,hk];exact⟨rfl,rfl,rfl⟩
 . rw[hb,hd i i0 hi,a4e,if_pos (d4y.1 he)]
 . have hL:a4e 105 o.Main.Start.Time t (decide ((o.Main.b9.length:Int)=0/\t=o.Main.Start.Time)) o.Main.b9=(b,.nil):=by
     rw[hb,d6g (by omega)];rfl
   have H:Y5 105 o t=((b || o.Main.o6.any fun m=>decide (m.Time=t)) && !X7 o t,.nil):=by unfold Y5;dsimp only;rw[hL,if_pos rfl]
   rw[H];refine⟨fun hx=>⟨by omega,?_,rfl⟩,fun hx=>⟨fun x=>0<=x/\x<=o.Main.o6.length/\q7 x fun j=>decide ((ix o.Main.o6 j).Time=t)=false,fun x=>((o.Main.o6.length:Int)-x).toNat,⟨by omega,by omega,q7.zero⟩,?_⟩⟩
   . rw[hx,Bool.true_or,Bool.true_and];cases X7 o t <;> rfl
   rintro x ⟨x0,x1,hx'⟩;refine⟨fun hi2=>⟨x0,hi2,fun hd=>⟨fun _=>by omega,?_,rfl⟩,fun hd=>⟨⟨by omega,by omega⟩,⟨by omega,by omega,hx'.succ (d4V hd)⟩,by dsimp only;omega⟩⟩,fun hi2=>⟨fun h=>by omega,?_,rfl⟩⟩
   . rw[b0M (p:=fun m:I8=>decide (m.Time=t)) x0 hi2 (d4K hd),Bool.or_true,Bool.true_and];cases X7 o t <;> simp[x0]
   . rw[b4K (l:=o.Main.o6) (p:=fun m:I8=>decide (m.Time=t)) fun j j0 j1=>hx' j j0 (by omega),d8i.2 hx];exact d4V fun e=>absurd e.1 (by decide)
def d0B:Env:=c5j.kD 64 (r38.c (r26.c .n)) (.bool) (.err) (fun y=>[a2g y.1.Main]) (fun y=>((Y5 105 y.1 y.2.1).1:Bool)) (fun y=>((Y5 105 y.1 y.2.1).2:l8))
def Nqha_ok:c8 d0B:=NI109_ok.kD Tryz.call64 Tryz.func64 (inlHN_ok NI109_ok H0_ok c5M 4) (an:=c5M 64) (fun _=>rfl) fun y ho=>kc (d4a y.1 y.2.1 ho.1) (by kernel_rfl)
end Go.Proofs.YtapnoejokajcoaaGreatDoor
section
namespace Go.Proofs.YtapnoejokajcoaaGreatDoor
open Go Go.Wk Go.Wl Go.Rx Go.Re Go.Li Go.Qu Go.Fo 
def a9p{p:K3}(h:b2J p=true):z7 p:=by unfold b2J at h;obtain⟨h1,h2⟩:=d5t h;unfold c6Z at h2;have a1:=J9 p.Value.length;have a2:=J9 p.Name.length;have a3:=J9 p.D9.length;have a4:=a5W (p.Params.take 31);have e:p.Params.take 31=p.Params:=d5e (by omega);rw[e]at h2 a4;have b1:=S2 (n:=p.Value.length) (k:=5000) (by omega) (by decide);have b2:=S2 (n:=p.Name.length) (k:=5000) (by omega) (by decide);have b3:=S2 (n:=p.D9.length) (k:=5000) (by omega) (by decide);refine⟨by omega,by omega,by omega,by omega,fun x hx=>?_⟩;have c:=b9E hx;unfold a8D at c;have c1:=J9 x.Name.length;have c2:=J9 x.o9.length;have c3:=a42 (x.o9.take 31);have d1:=S2 (n:=x.Name.length) (k:=5000) (by omega) (by decide);have d2:=S2 (n:=x.o9.length) (k:=5000) (by omega) (by decide);refine⟨by omega,by omega,fun v hv=>?_⟩;have c4:=c01 hv;have d3:=S2 (n:=v.length) (k:=5000) (by omega) (by decide);omega
attribute [local irreducible] i7
def prS(l:List K3):Nat->Int
 |0=>0
 |n+1=>prS l n+10+(ix l n).Value.length
def a3g(l:List K3):Bool:=bo ((l.length:Int)<=110/\(q7 l.length fun j=>b2J (ix l j)=true)/\prS l l.length<=6000)
def c4o:Nat->D1:=fun|48=>⟨31,fun|5=>some ⟨[0,9],[.slot 3 (.int .i64),.slot 10 (.int .i64)]⟩|_=>none,nn⟩|_=>⟨0,nn,nn⟩
def c8R(l:List K3)(Q:Bool->Prop):Prop:=
(bR (110<(↑l.length:Int)) (Q false) (∃(I:Int->Int->Prop),∃(m:Int->Int->Nat),I 0 0/\∀(x x_1:Int),I x x_1->(bR (x_1<(↑l.length:Int)) (0<=x_1/\x_1<(↑l.length:Int)/\(bR (¬b2J (etP (ix l x_1))=true) (Q false) (c6 (x+10)/\0<=x_1/\x_1<(↑l.length:Int)/\c6 (x+10+(↑(List.length (ix l x_1).Value):Int))/\c6 (x_1+1)/\I (x+10+(↑(List.length (ix l x_1).Value):Int)) (x_1+1)/\m (x+10+(↑(List.length (ix l x_1).Value):Int)) (x_1+1)<m x x_1))) (Q (decide (x<=6000))))))
def d3l(l:List K3)  : c8R l (fun y0=>y0=a3g l):=by
 unfold c8R;simp only[y6,A7,B3,C9,C6,C5,C4,C3,C2,D0,B7,d4F];refine⟨fun h=>G2 fun e=>by omega,fun h=>?_⟩;refine⟨fun x i=>0<=i/\i<=l.length/\(q7 i fun j=>b2J (ix l j)=true)/\x=prS l i.toNat/\0<=x/\x<=5010*i,fun _ i=>((l.length:Int)-i).toNat,⟨by omega,by omega,q7.zero,rfl,by omega,by omega⟩,?_⟩;rintro x i ⟨i0,i1,hx,hs,s0,s1⟩;refine⟨fun hi=>⟨i0,hi,fun hf=>G2 fun e=>hf (e.2.1 i i0 hi),fun hf=>?_⟩,fun hi=>?_⟩
 . have hf:=d4y.1 hf;have v:=(a9p hf).value;refine⟨⟨by omega,by omega⟩,i0,hi,⟨by omega,by omega⟩,⟨by omega,by omega⟩,⟨by omega,by omega,hx.succ hf,?_,by omega,by omega⟩,by dsimp only;omega⟩;rw[show(i+1).toNat=i.toNat+1 by omega,prS,<- hs,show((i.toNat:Nat):Int)=i by omega]
 . have e:i.toNat=l.length:=by omega
   rw[hs,e];exact a1o ⟨fun q=>⟨by omega,fun j j0 j1=>hx j j0 (by omega),q⟩,fun q=>q.2.2⟩
def c9X:Env:=d0B.kL 48 ((rL 86).c .n) (.bool) (fun _=>[]) (fun y=>a3g y.1)
def Nl3p_ok:c8 c9X:=Nqha_ok.kL Tryz.call48 Tryz.func48 (inlHN_ok Nqha_ok H0_ok c4o 2) (an:=c4o 48) (fun _ _=>trivial) fun y ho=>kc (d3l y.1 ) (by kernel_rfl)
end Go.Proofs.YtapnoejokajcoaaGreatDoor
end
namespace Go.Proofs.YtapnoejokajcoaaGreatDoor
open Go Go.Wk Go.Wl Go.Rx Go.Re Go.Li Go.Qu Go.Fo 
attribute [local irreducible] i7
def c7m(x:R1)(j:Int):Prop:=(((ix x.w5 j).Action.length:Nat):Int)<=2000/\((ix x.w5 j).Extra.length:Int)<=20/\a3g (ix x.w5 j).Extra=true
def d1B(x:R1):Prop:=(x.End.length:Int)<=60/\(x.Span.length:Int)<=60/\(x.b9.length:Int)<=5/\(x.o6.length:Int)<=120/\(x.s6.length:Int)<=120/\(x.p5.length:Int)<=60/\(x.w5.length:Int)<=15/\a3g x.Extra=true
def a8B(x:R1):Bool:=bo (d1B x/\(q7 x.b9.length fun j=>F6 (ix x.b9 j)=true)/\q7 x.w5.length (c7m x))
def c4x:Nat->D1:=fun|49=>⟨100,fun|10=>some ⟨[1,67],[.slot 68 (.int .i64)]⟩|4=>some ⟨[1,53],[.slot 54 (.int .i64)]⟩|_=>none,nn⟩|_=>⟨0,nn,nn⟩
def d1p(x:R1)(Q:Bool->Prop):Prop:=
(bR (((((((60<(↑x.End.length:Int)∨60<(↑x.Span.length:Int))∨5<(↑x.b9.length:Int))∨120<(↑x.o6.length:Int))∨120<(↑x.s6.length:Int))∨60<(↑x.p5.length:Int))∨15<(↑x.w5.length:Int))∨¬a3g x.Extra=true) (Q false) (∃(I:Int->Prop),∃(m:Int->Nat),I 0/\∀(x_1:Int),I x_1->(bR (x_1<(↑x.b9.length:Int)) (0<=x_1/\x_1<(↑x.b9.length:Int)/\(c6 (ix x.b9 x_1).j8->c6 (ix x.b9 x_1).Interval->c6 (ix x.b9 x_1).Count->c6 (ix x.b9 x_1).v7->(bR (¬F6 (L7 (ix x.b9 x_1))=true) (Q false) (c6 (x_1+1)/\I (x_1+1)/\m (x_1+1)<m x_1)))) (∃(I:Int->Prop),∃(m:Int->Nat),I 0/\∀(x_2:Int),I x_2->(bR (x_2<(↑x.w5.length:Int)) (0<=x_2/\x_2<(↑x.w5.length:Int)/\(¬2000<(↑(List.length (ix x.w5 x_2).Action):Int)->0<=x_2)/\(¬2000<(↑(List.length (ix x.w5 x_2).Action):Int)->x_2<(↑x.w5.length:Int))/\(¬(2000<(↑(List.length (ix x.w5 x_2).Action):Int)∨20<(↑(ix x.w5 x_2).Extra.length:Int))->0<=x_2)/\(¬(2000<(↑(List.length (ix x.w5 x_2).Action):Int)∨20<(↑(ix x.w5 x_2).Extra.length:Int))->x_2<(↑x.w5.length:Int))/\(bR ((2000<(↑(List.length (ix x.w5 x_2).Action):Int)∨20<(↑(ix x.w5 x_2).Extra.length:Int))∨¬a3g (ix x.w5 x_2).Extra=true) (Q false) (c6 (x_2+1)/\I (x_2+1)/\m (x_2+1)<m x_2))) (Q true))))))
def d3p(x:R1)  : d1p x (fun y0=>y0=a8B x):=by
 unfold d1p;simp only[y6,A7,B3,C9,C6,C5,C4,C3,C2,D0,B7,d4F];refine⟨fun h=>G2 fun⟨⟨a,b,c,d,e,f,g,p⟩,_⟩=>?_,fun h=>?_⟩
 . rcases h with((((((h|h)|h)|h)|h)|h)|h)|h
   . omega
   . omega
   . omega
   . omega
   . omega
   . omega
   . omega
   . exact h p
 have g1:d1B x:=⟨d5n.1 fun e=>h (.inl (.inl (.inl (.inl (.inl (.inl (.inl e))))))),d5n.1 fun e=>h (.inl (.inl (.inl (.inl (.inl (.inl (.inr e))))))),d5n.1 fun e=>h (.inl (.inl (.inl (.inl (.inl (.inr e)))))),d5n.1 fun e=>h (.inl (.inl (.inl (.inl (.inr e))))),d5n.1 fun e=>h (.inl (.inl (.inl (.inr e)))),d5n.1 fun e=>h (.inl (.inl (.inr e))),d5n.1 fun e=>h (.inl (.inr e)),d4y.1 fun e=>h (.inr e)⟩;clear h;have l1:=g1.2.2.1;have l2:=g1.2.2.2.2.2.2.1;refine⟨fun k=>0<=k/\k<=x.b9.length/\q7 k fun j=>F6 (ix x.b9 j)=true,fun k=>((x.b9.length:Int)-k).toNat,⟨by omega,by omega,q7.zero⟩,?_⟩;rintro k ⟨k0,k1,hk⟩;refine⟨fun hi=>⟨k0,hi,fun _ _ _ _=>⟨fun h=>G2 fun e=>?_,fun h=>⟨⟨by omega,by omega⟩,⟨by omega,by omega,hk.succ (d4y.1 h)⟩,by dsimp only;omega⟩⟩⟩,fun hi=>?_⟩
 . exact h (e.2.1 k k0 hi)
 have g2:q7 x.b9.length fun j=>F6 (ix x.b9 j)=true:=hk.le (by omega);clear hk k0 k1 hi k;refine⟨fun k=>0<=k/\k<=x.w5.length/\q7 k fun j=>c7m x j,fun k=>((x.w5.length:Int)-k).toNat,⟨by omega,by omega,q7.zero⟩,?_⟩;rintro k ⟨k0,k1,hk⟩;refine⟨fun hi=>⟨k0,hi,fun _=>k0,fun _=>hi,fun _=>k0,fun _=>hi,fun h=>G2 fun e=>?_,fun h=>⟨⟨by omega,by omega⟩,⟨by omega,by omega,hk.succ ⟨d5n.1 fun e=>h (.inl (.inl e)),d5n.1 fun e=>h (.inl (.inr e)),d4y.1 fun e=>h (.inr e)⟩⟩,by dsimp only;omega⟩⟩,fun hi=>?_⟩
 . obtain⟨a,b,c⟩:=e.2.2 k k0 hi;rcases h with(h|h)|h
   . omega
   . omega
   . exact h c
 have g3:q7 x.w5.length fun j=>c7m x j:=hk.le (by omega);clear hk k0 k1 hi k;exact a3q ⟨g1,g2,g3⟩
def d2G:Env:=c9X.kL 49 (r35.c .n) (.bool) (fun _=>[]) (fun y=>a8B y.1)
def Nl3i_ok:c8 d2G:=Nl3p_ok.kL Tryz.call49 Tryz.func49 (inlHN_ok Nl3p_ok H0_ok c4x 2) (an:=c4x 49) (fun _ _=>trivial) fun y ho=>kc (d3p y.1 ) (by kernel_rfl)
def c85(z:V8)(k:Int):Prop:=((ix z.D8 k).b9.length:Int)<=3/\(((ix z.D8 k).Name.length:Nat):Int)<=2000/\(0<((ix z.D8 k).b9.length:Int)->F6 (ix (ix z.D8 k).b9 0)=true)
def b7a(o:F3)(j:Int):Prop:=((ix o.c9 j).D8.length:Int)<=25/\(((ix o.c9 j).ID.length:Nat):Int)<=2000/\q7 (ix o.c9 j).D8.length (c85 (ix o.c9 j))
def ovS(l:List R1):Nat->Int
 |0=>0
 |n+1=>ovS l n+1+(ix l n).Extra.length+5*(ix l n).w5.length
def b0u(o:F3):Bool:=bo (((o.Kind.length:Int)+o.UID.length<=3000/\(o.c9.length:Int)<=8/\(o.Over.length:Int)<=60/\a3g o.Extra=true/\a8B o.Main=true)/\q7 o.c9.length (b7a o)/\(q7 o.Over.length fun j=>a8B (ix o.Over j)=true)/\ovS o.Over o.Over.length<=300)
def c2o{x:R1}(h:a8B x=true):(x.Extra.length:Int)<=110/\(x.w5.length:Int)<=15:=by have r:=(z6.1 h).1;exact⟨(z6.1 r.2.2.2.2.2.2.2).1,r.2.2.2.2.2.2.1⟩
def c4P:Nat->D1:=fun|20=>⟨144,fun|18=>some ⟨[1,111],[.slot 6 (.int .i64),.slot 112 (.int .i64)]⟩|4=>some ⟨[1,42],[.slot 43 (.int .i64)]⟩|9=>some ⟨[1,3,42,43,70],[.slot 71 (.int .i64)]⟩|_=>none,nn⟩|_=>⟨0,nn,nn⟩
def M6(o:F3)(x:Int)(x_1:Int):=ix (ix o.c9 x).D8 x_1
def b5p(x:Int)(o:F3)(x_1:Int):=x+1+(↑(ix o.Over x_1).Extra.length:Int)+5*(↑(ix o.Over x_1).w5.length:Int)
def a5y(o:F3)(x:Int)(x_1:Int):=List.length (M6 o x x_1).Name
def c8Q(o:F3)(Q:Bool->Prop):Prop:=
c6 ((↑(List.length o.Kind):Int)+(↑(List.length o.UID):Int))/\(bR ((((3000<(↑(List.length o.Kind):Int)+(↑(List.length o.UID):Int)∨8<(↑o.c9.length:Int))∨60<(↑o.Over.length:Int))∨¬a3g o.Extra=true)∨¬a8B (etI o.Main)=true) (Q false) (∃(I:Int->Prop),∃(m:Int->Nat),I 0/\∀(x:Int),I x->(bR (x<(↑o.c9.length:Int)) (0<=x/\x<(↑o.c9.length:Int)/\(¬25<(↑(ix o.c9 x).D8.length:Int)->0<=x)/\(¬25<(↑(ix o.c9 x).D8.length:Int)->x<(↑o.c9.length:Int))/\(bR (25<(↑(ix o.c9 x).D8.length:Int)∨2000<(↑(List.length (ix o.c9 x).ID):Int)) (Q false) (0<=x/\x<(↑o.c9.length:Int)/\∃(I_1:Int->Prop),∃(m_1:Int->Nat),I_1 0/\∀(x_1:Int),I_1 x_1->(bR (x_1<(↑(ix o.c9 x).D8.length:Int)) (0<=x/\x<(↑o.c9.length:Int)/\0<=x_1/\x_1<(↑(ix o.c9 x).D8.length:Int)/\(¬(3<(↑(M6 o x x_1).b9.length:Int)∨2000<(↑(a5y o x x_1):Int))/\0<(↑(M6 o x x_1).b9.length:Int)->(0:Int)<=0)/\(¬(3<(↑(M6 o x x_1).b9.length:Int)∨2000<(↑(a5y o x x_1):Int))/\0<(↑(M6 o x x_1).b9.length:Int)->0<(↑(M6 o x x_1).b9.length:Int))/\((¬(3<(↑(M6 o x x_1).b9.length:Int)∨2000<(↑(a5y o x x_1):Int))/\0<(↑(M6 o x x_1).b9.length:Int)->c6 (ix (M6 o x x_1).b9 0).j8)->(¬(3<(↑(M6 o x x_1).b9.length:Int)∨2000<(↑(a5y o x x_1):Int))/\0<(↑(M6 o x x_1).b9.length:Int)->c6 (ix (M6 o x x_1).b9 0).Interval)->(¬(3<(↑(M6 o x x_1).b9.length:Int)∨2000<(↑(a5y o x x_1):Int))/\0<(↑(M6 o x x_1).b9.length:Int)->c6 (ix (M6 o x x_1).b9 0).Count)->(¬(3<(↑(M6 o x x_1).b9.length:Int)∨2000<(↑(a5y o x x_1):Int))/\0<(↑(M6 o x x_1).b9.length:Int)->c6 (ix (M6 o x x_1).b9 0).v7)->(bR ((3<(↑(M6 o x x_1).b9.length:Int)∨2000<(↑(a5y o x x_1):Int))∨0<(↑(M6 o x x_1).b9.length:Int)/\¬F6 (L7 (ix (M6 o x x_1).b9 0))=true) (Q false) (c6 (x_1+1)/\I_1 (x_1+1)/\m_1 (x_1+1)<m_1 x_1)))) (c6 (x+1)/\I (x+1)/\m (x+1)<m x))))) (∃(I:Int->Int->Prop),∃(m:Int->Int->Nat),I 0 0/\∀(x x_1:Int),I x x_1->(bR (x_1<(↑o.Over.length:Int)) (0<=x_1/\x_1<(↑o.Over.length:Int)/\(bR (¬a8B (etI (ix o.Over x_1))=true) (Q false) (c6 (x+1)/\0<=x_1/\x_1<(↑o.Over.length:Int)/\c6 (x+1+(↑(ix o.Over x_1).Extra.length:Int))/\0<=x_1/\x_1<(↑o.Over.length:Int)/\c6 ((5:Int)*(↑(ix o.Over x_1).w5.length:Int))/\c6 (b5p x o x_1)/\c6 (x_1+1)/\I (b5p x o x_1) (x_1+1)/\m (b5p x o x_1) (x_1+1)<m x x_1))) (Q (decide (x<=300))))))))
def d3I(o:F3)(hk:(o.Kind.length:Int)<=140737488355328)(hu:(o.UID.length:Int)<=140737488355328):c8Q o (fun y0=>y0=b0u o):=by
 unfold c8Q a5y b5p M6;simp only[y6,A7,B3,C9,C6,C5,C4,C3,C2,D0,B7,d4F];refine⟨⟨by omega,by omega⟩,fun h=>G2 fun⟨⟨a,b,c,d,e⟩,_⟩=>?_,fun h=>?_⟩
 . rcases h with(((h|h)|h)|h)|h
   . omega
   . omega
   . omega
   . exact h d
   . exact h e
 have g1:(o.Kind.length:Int)+o.UID.length<=3000/\(o.c9.length:Int)<=8/\(o.Over.length:Int)<=60/\a3g o.Extra=true/\a8B o.Main=true:=⟨d5n.1 fun e=>h (.inl (.inl (.inl (.inl e)))),d5n.1 fun e=>h (.inl (.inl (.inl (.inr e)))),d5n.1 fun e=>h (.inl (.inl (.inr e))),d4y.1 fun e=>h (.inl (.inr e)),d4y.1 fun e=>h (.inr e)⟩;clear h;have l1:=g1.2.1;have l2:=g1.2.2.1;refine⟨fun x=>0<=x/\x<=o.c9.length/\q7 x (b7a o),fun x=>((o.c9.length:Int)-x).toNat,⟨by omega,by omega,q7.zero⟩,?_⟩;rintro x ⟨x0,x1,hx⟩;refine⟨fun hi=>⟨x0,hi,fun _=>x0,fun _=>hi,fun h=>G2 fun e=>?_,fun h=>⟨x0,hi,?_⟩⟩,fun hi=>?_⟩
 . have z:b7a o x:=e.2.1 x x0 hi;have z1:=z.1;have z2:=z.2.1;omega
 . have z1:((ix o.c9 x).D8.length:Int)<=25:=d5n.1 fun e=>h (.inl e);have z2:(((ix o.c9 x).ID.length:Nat):Int)<=2000:=d5n.1 fun e=>h (.inr e);refine⟨fun k=>0<=k/\k<=(ix o.c9 x).D8.length/\q7 k (c85 (ix o.c9 x)),fun k=>(((ix o.c9 x).D8.length:Int)-k).toNat,⟨by omega,by omega,q7.zero⟩,?_⟩;rintro k ⟨k0,k1,hk'⟩;refine⟨fun hj=>⟨x0,hi,k0,hj,fun _=>d4T 0,fun h=>h.2,fun _ _ _ _=>⟨fun h=>G2 fun e=>?_,fun h=>⟨⟨by omega,by omega⟩,⟨by omega,by omega,hk'.succ ⟨d5n.1 fun e=>h (.inl (.inl e)),d5n.1 fun e=>h (.inl (.inr e)),fun p=>d4y.1 fun e=>h (.inr ⟨p,e⟩)⟩⟩,by dsimp only;omega⟩⟩⟩,fun hj=>⟨⟨by omega,by omega⟩,⟨by omega,by omega,hx.succ ⟨z1,z2,hk'.le (by omega)⟩⟩,by dsimp only;omega⟩⟩;obtain⟨a,b,c⟩:c85 (ix o.c9 x) k:=(show b7a o x from e.2.1 x x0 hi).2.2 k k0 hj;rcases h with(h|h)|h
   . omega
   . omega
   . exact h.2 (c h.1)
 have g2:q7 o.c9.length (b7a o):=hx.le (by omega);clear hx x0 x1 hi x;refine⟨fun s x=>0<=x/\x<=o.Over.length/\(q7 x fun j=>a8B (ix o.Over j)=true)/\s=ovS o.Over x.toNat/\0<=s/\s<=186*x,fun _ x=>((o.Over.length:Int)-x).toNat,⟨by omega,by omega,q7.zero,rfl,by omega,by omega⟩,?_⟩;rintro s x ⟨x0,x1,hx,hs,s0,s1⟩;refine⟨fun hi=>⟨x0,hi,fun h=>G2 fun e=>h (e.2.2.1 x x0 hi),fun h=>?_⟩,fun hi=>?_⟩
 . have h:=d4y.1 h;have q:=c2o h;refine⟨⟨by omega,by omega⟩,x0,hi,⟨by omega,by omega⟩,x0,hi,⟨by omega,by omega⟩,⟨by omega,by omega⟩,⟨by omega,by omega⟩,⟨by omega,by omega,hx.succ h,?_,by omega,by omega⟩,by dsimp only;omega⟩;rw[show(x+1).toNat=x.toNat+1 by omega,ovS,<- hs,show((x.toNat:Nat):Int)=x by omega]
 . have e:x.toNat=o.Over.length:=by omega
   rw[hs,e];exact a1o ⟨fun q=>⟨g1,g2,fun j j0 j1=>hx j j0 (by omega),q⟩,fun q=>q.2.2.2⟩
def d2i:Env:=d2G.kL 20 (r38.c .n) (.bool) (fun y=>[(List.length (α:=UInt8) y.1.Kind:Int)<=140737488355328,(List.length (α:=UInt8) y.1.UID:Int)<=140737488355328]) (fun y=>b0u y.1)
def Nl3f_ok:c8 d2i:=Nl3i_ok.kL Tryz.call20 Tryz.func20 (inlHN_ok Nl3i_ok H0_ok c4P 2) (an:=c4P 20) (fun _ _=>trivial) fun y ho=>kc (d3I y.1 ho.1 ho.2.1) (by kernel_rfl)
def c5J:Nat->D1:=fun|19=>⟨30,nn,nn⟩|_=>⟨0,nn,nn⟩
def b3b(f:Int):=bif true then max (0:Int) (bif false then max f 6 else min f 6)else min (0:Int) (bif false then max f 6 else min f 6)
def d1K(f:Int)(s:Tm)(t:Tm)(Q:Bool->Prop):Prop:=
(bR (¬o7 (j6 s)=true∨¬o7 (j6 t)=true) (Q true) ((0<=bif true then max (0:Int) (bif false then max f 6 else min f 6)else min (0:Int) (bif false then max f 6 else min f 6))/\(b3b f)<(↑[(2500:Int),(2500:Int),(1200:Int),(500:Int),(40:Int),(3:Int),(1:Int)].length:Int)/\(c6 (ix [(2500:Int),(2500:Int),(1200:Int),(500:Int),(40:Int),(3:Int),(1:Int)] (b3b f))->c6 (b8 (j6 t)-b8 (j6 s))/\c6 ((86400:Int)*ix [(2500:Int),(2500:Int),(1200:Int),(500:Int),(40:Int),(3:Int),(1:Int)] (b3b f))/\Q (decide (b8 (j6 t)-b8 (j6 s)<=(86400:Int)*ix [(2500:Int),(2500:Int),(1200:Int),(500:Int),(40:Int),(3:Int),(1:Int)] (b3b f))))))
def d3g(f:Int)(s:Tm)(t:Tm)  : d1K f s t (fun y0=>y0=a48 f s t):=by
 unfold d1K b3b;simp only[y6,A7,B3,C9,C6,C5,C4,C3,C2,D0,B7,d4F,d4W,d5c];have r0:=x9 s;have r1:=x9 t;have b0:0<=max 0 (min f 6):=by omega
 have b1:max 0 (min f 6)<=6:=by omega
 have b2:=c6P b0 b1;unfold a48;refine⟨fun h=>?_,fun h=>⟨b0,by show _<(7:Int);omega,fun _=>⟨⟨by omega,by omega⟩,?_,?_⟩⟩⟩
 . exact(d4K fun a b=>absurd h fun e=>e.elim (fun n=>n a) (fun n=>n b)).symm
 . change c6 (86400*ix nrL _);exact⟨by omega,by omega⟩
 . have a:o7 s=true:=d4y.1 fun e=>h (.inl e);have b:o7 t=true:=d4y.1 fun e=>h (.inr e);exact d5r.2 ⟨fun q _ _=>q,fun q=>q a b⟩
def d0F:Env:=d2i.kL 19 (rI.c (r26.c (r26.c .n))) (.bool) (fun _=>[]) (fun y=>a48 y.1 y.2.1 y.2.2.1)
def Nl4n_ok:c8 d0F:=Nl3f_ok.kL Tryz.call19 Tryz.func19 (inlHN_ok Nl3f_ok H0_ok c5J 2) (an:=c5J 19) (fun _ _=>trivial) fun y ho=>kc (d3g y.1 y.2.1 y.2.2.1 ) (by kernel_rfl)
def c5F:Nat->D1:=fun|21=>⟨51,fun|2=>some ⟨[2,3,10],[.slot 11 (.int .i64)]⟩|5=>some ⟨[2,3,5,10,11,20],[.slot 21 (.int .i64)]⟩|_=>none,nn⟩|_=>⟨0,nn,nn⟩
def a02(o:F3)(x:Int)(x_1:Int):=ix (ix o.c9 x).D8 x_1
def d0A(o:F3)(t:Tm)(Q:Bool->Prop):Prop:=
∃(I:Int->Prop),∃(m:Int->Nat),I 0/\∀(x:Int),I x->(bR (x<(↑o.c9.length:Int)) (0<=x/\x<(↑o.c9.length:Int)/\∃(I_1:Int->Prop),∃(m_1:Int->Nat),I_1 0/\∀(x_1:Int),I_1 x_1->(bR (x_1<(↑(ix o.c9 x).D8.length:Int)) (0<=x/\x<(↑o.c9.length:Int)/\0<=x_1/\x_1<(↑(ix o.c9 x).D8.length:Int)/\((0<(↑(a02 o x x_1).b9.length:Int)->(0:Int)<=0)/\(0<(↑(a02 o x x_1).b9.length:Int)->0<(↑(a02 o x x_1).b9.length:Int)))/\((0<(↑(a02 o x x_1).b9.length:Int)->c6 (ix (a02 o x x_1).b9 0).j8)->(0<(↑(a02 o x x_1).b9.length:Int)->c6 (ix (a02 o x x_1).b9 0).Interval)->(0<(↑(a02 o x x_1).b9.length:Int)->c6 (ix (a02 o x x_1).b9 0).Count)->(0<(↑(a02 o x x_1).b9.length:Int)->c6 (ix (a02 o x x_1).b9 0).v7)->(bR (0<(↑(a02 o x x_1).b9.length:Int)/\¬a48 (ix (a02 o x x_1).b9 0).j8 (j6 (a02 o x x_1).Start) (j6 t)=true) (Q false) (c6 (x_1+1)/\I_1 (x_1+1)/\m_1 (x_1+1)<m_1 x_1)))) (c6 (x+1)/\I (x+1)/\m (x+1)<m x))) (Q true))
def d4h(o:F3)(t:Tm)(hf:b0u o=true):d0A o t (fun y0=>y0=c3L o t):=by unfold d0A a02;simp only[y6,A7,B3,C9,C6,C5,C4,C3,C2,D0,B7,d4F];have fw:=z6.1 hf;have l1:=fw.1.2.1;refine⟨fun x=>0<=x/\x<=o.c9.length/\q7 x fun j=>q7 (ix o.c9 j).D8.length (c8s (ix o.c9 j) t),fun x=>((o.c9.length:Int)-x).toNat,⟨by omega,by omega,q7.zero⟩,?_⟩;rintro x ⟨x0,x1,hx⟩;refine⟨fun hi=>⟨x0,hi,?_⟩,fun hi=>a3q fun j j0 j1=>hx j j0 (by omega)⟩;have l2:((ix o.c9 x).D8.length:Int)<=25:=(show b7a o x from fw.2.1 x x0 hi).1;refine⟨fun k=>0<=k/\k<=(ix o.c9 x).D8.length/\q7 k (c8s (ix o.c9 x) t),fun k=>(((ix o.c9 x).D8.length:Int)-k).toNat,⟨by omega,by omega,q7.zero⟩,?_⟩;rintro k ⟨k0,k1,hk⟩;refine⟨fun hj=>⟨x0,hi,k0,hj,⟨fun _=>d4T 0,fun h=>h⟩,fun _ _ _ _=>⟨fun h=>G2 fun e=>h.2 (e x x0 hi k k0 hj h.1),fun h=>⟨⟨by omega,by omega⟩,⟨by omega,by omega,hk.succ fun p=>d4y.1 fun e=>h ⟨p,e⟩⟩,by dsimp only;omega⟩⟩⟩,fun hj=>⟨⟨by omega,by omega⟩,⟨by omega,by omega,hx.succ (hk.le (by omega))⟩,by dsimp only;omega⟩⟩
def d2B:Env:=d0F.kL 21 (r38.c (r26.c .n)) (.bool) (fun y=>[b0u y.1=true]) (fun y=>c3L y.1 y.2.1)
def Nl4z_ok:c8 d2B:=Nl4n_ok.kL Tryz.call21 Tryz.func21 (inlHN_ok Nl4n_ok H0_ok c5F 2) (an:=c5F 21) (fun _ _=>trivial) fun y ho=>kc (d4h y.1 y.2.1 ho.1) (by kernel_rfl)
def c5g:Nat->D1:=fun|22=>⟨6,nn,nn⟩|_=>⟨0,nn,nn⟩
def c9r(d:Int)(Q:Tm->Prop):Prop:=
Q (Tm.mk (Dy.mk 2000 1 d) 0 0 0 true false)
def d3b(d:Int)  : c9r d (fun y0=>y0=(Tm.mk (Dy.mk 2000 1 d) 0 0 0 true false)):=by unfold c9r;rfl
def c9e:Env:=d2B.kL 22 (rI.c .n) (.val 26) (fun _=>[]) (fun y=>((Tm.mk (Dy.mk 2000 1 y.1) 0 0 0 true false):Tm))
def Nl4d_ok:c8 c9e:=Nl4z_ok.kL Tryz.call22 Tryz.func22 (inlHN_ok Nl4z_ok H0_ok c5g 2) (an:=c5g 22) (fun y ho=>⟨_,_,rfl,rfl,rfl⟩) fun y ho=>kc (d3b y.1 ) (by kernel_rfl)
def c4s:Nat->D1:=fun|23=>⟨6,nn,nn⟩|_=>⟨0,nn,nn⟩
def d0J(d:Int)(Q:Tm->Prop):Prop:=
Q (Tm.mk (Dy.mk 2000 1 d) 0 0 0 false true)
def d4o(d:Int)  : d0J d (fun y0=>y0=(Tm.mk (Dy.mk 2000 1 d) 0 0 0 false true)):=by unfold d0J;rfl
def d0Q:Env:=c9e.kL 23 (rI.c .n) (.val 26) (fun _=>[]) (fun y=>((Tm.mk (Dy.mk 2000 1 y.1) 0 0 0 false true):Tm))
def Nl4u_ok:c8 d0Q:=Nl4d_ok.kL Tryz.call23 Tryz.func23 (inlHN_ok Nl4d_ok H0_ok c4s 2) (an:=c4s 23) (fun y ho=>⟨_,_,rfl,rfl,rfl⟩) fun y ho=>kc (d4o y.1 ) (by kernel_rfl)
def c55:Nat->D1:=fun|18=>⟨86,fun|19=>some ⟨[4,12,63,64],[.slot 65 (.int .i64),.own 12 [(.int .i64),(.int .i64),(.int .i64),(.int .i64),(.int .i64),(.int .i64),.bool,.bool]]⟩|8=>some ⟨[3,4,36,37],[.slot 5 (.acc 26),.slot 38 (.int .i64)]⟩|12=>some ⟨[3,4,36,37,38,49,50],[.slot 5 (.acc 26),.slot 51 (.int .i64)]⟩|3=>some ⟨[2,3,4,23,24],[.slot 5 (.acc 26),.slot 25 (.int .i64)]⟩|_=>none,nn⟩|_=>⟨0,nn,nn⟩
def d1L(o:F3)(t:Tm)(Q:Tm->Prop):Prop:=
∃(I:List Tm->Int->Prop),∃(m:List Tm->Int->Nat),I [j6 t,j6 o.Main.Start.Time] 0/\∀(x:List Tm)(x_1:Int),I x x_1->(bR (x_1<(↑o.Main.o6.length:Int)) (0<=x_1/\x_1<(↑o.Main.o6.length:Int)/\(x.length+[j6 (ix o.Main.o6 x_1).Time].length)*(some (56:Nat)).getD (0:Nat)<=140737488355328/\c6 (x_1+1)/\I (x++[j6 (ix o.Main.o6 x_1).Time]) (x_1+1)/\m (x++[j6 (ix o.Main.o6 x_1).Time]) (x_1+1)<m x x_1) (∃(I:List Tm->Int->Prop),∃(m:List Tm->Int->Nat),I x 0/\∀(x:List Tm)(x_2:Int),I x x_2->(bR (x_2<(↑o.Over.length:Int)) (0<=x_2/\x_2<(↑o.Over.length:Int)/\(x.length+[j6 (ix o.Over x_2).Start.Time].length)*(some (56:Nat)).getD (0:Nat)<=140737488355328/\∃(I_1:List Tm->Int->Prop),∃(m_1:List Tm->Int->Nat),I_1 (x++[j6 (ix o.Over x_2).Start.Time]) 0/\∀(x_3:List Tm)(x_4:Int),I_1 x_3 x_4->(bR (x_4<(↑(ix o.Over x_2).p5.length:Int)) (0<=x_4/\x_4<(↑(ix o.Over x_2).p5.length:Int)/\(x_3.length+[j6 (ix (ix o.Over x_2).p5 x_4).Time].length)*(some (56:Nat)).getD (0:Nat)<=140737488355328/\c6 (x_4+1)/\I_1 (x_3++[j6 (ix (ix o.Over x_2).p5 x_4).Time]) (x_4+1)/\m_1 (x_3++[j6 (ix (ix o.Over x_2).p5 x_4).Time]) (x_4+1)<m_1 x_3 x_4) (c6 (x_2+1)/\I x_3 (x_2+1)/\m x_3 (x_2+1)<m x x_2))) (∃(I:Int->Int->Int->Int->Int->Int->Int->Bool->Bool->Prop),∃(m:Int->Int->Int->Int->Int->Int->Int->Bool->Bool->Nat),I 0 t.Day.Year t.Day.Month t.Day.Date t.Hour t.Min t.D6 (decide (t.n5=true)) (decide (t.UTC=true))/\∀(x_3 x_4 x_5 x_6 x_7 x_8 x_9:Int)(x_10 x_11:Bool),I x_3 x_4 x_5 x_6 x_7 x_8 x_9 x_10 x_11->(bR (x_3<(↑x.length:Int)) (0<=x_3/\x_3<(↑x.length:Int)/\(c6 (ix x x_3).Day.Year->c6 (ix x x_3).Day.Month->c6 (ix x x_3).Day.Date->c6 (ix x x_3).Hour->c6 (ix x x_3).Min->c6 (ix x x_3).D6->(bR (o7 (j6 (ix x x_3))=true/\(¬o7 (Tm.mk (Dy.mk x_4 x_5 x_6) x_7 x_8 x_9 (decide (x_10=true)) (decide (x_11=true)))=true∨b8 (Tm.mk (Dy.mk x_4 x_5 x_6) x_7 x_8 x_9 (decide (x_10=true)) (decide (x_11=true)))<b8 (j6 (ix x x_3)))) (c6 (x_3+1)/\I (x_3+1) (ix x x_3).Day.Year (ix x x_3).Day.Month (ix x x_3).Day.Date (ix x x_3).Hour (ix x x_3).Min (ix x x_3).D6 (decide ((ix x x_3).n5=true)) (decide ((ix x x_3).UTC=true))/\m (x_3+1) (ix x x_3).Day.Year (ix x x_3).Day.Month (ix x x_3).Day.Date (ix x x_3).Hour (ix x x_3).Min (ix x x_3).D6 (decide ((ix x x_3).n5=true)) (decide ((ix x x_3).UTC=true))<m x_3 x_4 x_5 x_6 x_7 x_8 x_9 x_10 x_11) (c6 (x_3+1)/\I (x_3+1) x_4 x_5 x_6 x_7 x_8 x_9 (decide (x_10=true)) (decide (x_11=true))/\m (x_3+1) x_4 x_5 x_6 x_7 x_8 x_9 (decide (x_10=true)) (decide (x_11=true))<m x_3 x_4 x_5 x_6 x_7 x_8 x_9 x_10 x_11)))) (Q (Tm.mk (Dy.mk x_4 x_5 x_6) x_7 x_8 x_9 (decide (x_10=true)) (decide (x_11=true)))))))))
def d4q(o:F3)(t:Tm)(hf:((a5I o t).length:Int)<=1000000):d1L o t (fun y0=>y0=b1q o t):=by
 unfold d1L;simp only[y6,A7,B3,C9,C6,C5,C4,C3,C2,D0,B7,d4F];have hT:=b5D o t;have hO:=b1k o.Over;refine⟨fun l i=>0<=i/\i<=o.Main.o6.length/\l=[t,o.Main.Start.Time]++(o.Main.o6.take i.toNat).map I8.Time/\(l.length:Int)=2+i,fun _ i=>((o.Main.o6.length:Int)-i).toNat,⟨by omega,by omega,rfl,rfl⟩,?_⟩;rintro l i ⟨i0,i1,hl,hn⟩;refine⟨fun hi=>⟨i0,hi,by show(_+1)*56<=_;omega,⟨by omega,by omega⟩,⟨by omega,by omega,?_,?_⟩,by dsimp only;omega⟩,fun hi=>?_⟩
 . rw[T7 i0 hi,d7b,hl,d5b];rfl
 . rw[d4E];simp only[d6P];omega
 have hL:l=[t,o.Main.Start.Time]++o.Main.o6.map I8.Time:=by rw[hl,d5e (by omega)]
 have hn2:(l.length:Int)=2+o.Main.o6.length:=by omega
 clear hl hn i0 i1 hi i;refine⟨fun k i=>0<=i/\i<=o.Over.length/\k=l++(o.Over.take i.toNat).flatMap a3X,fun _ i=>((o.Over.length:Int)-i).toNat,⟨by omega,by omega,by simp⟩,?_⟩;rintro k i ⟨i0,i1,hk⟩;have hkl:k.length=l.length+((o.Over.take i.toNat).flatMap a3X).length:=by rw[hk,d4E]
 have tf:=a9w o.Over i.toNat;refine⟨fun hi=>?_,fun hi=>?_⟩
 . have r:=a9w o.Over (i+1).toNat;have e:([ix o.Over i].flatMap a3X).length=1+(ix o.Over i).p5.length:=by simp[a3X];omega
   rw[T7 i0 hi,d7W,d4E,e]at r;refine⟨i0,hi,by show(_+1)*56<=_;omega,fun q j=>0<=j/\j<=(ix o.Over i).p5.length/\q=(k++[(ix o.Over i).Start.Time])++((ix o.Over i).p5.take j.toNat).map I8.Time/\(q.length:Int)=k.length+1+j,fun _ j=>(((ix o.Over i).p5.length:Int)-j).toNat,⟨by omega,by omega,by simp,by simp⟩,?_⟩;rintro q j ⟨j0,j1,hq,hm⟩;refine⟨fun hj=>⟨j0,hj,by show(_+1)*56<=_;omega,⟨by omega,by omega⟩,⟨by omega,by omega,?_,?_⟩,by dsimp only;omega⟩,fun hj=>⟨⟨by omega,by omega⟩,⟨by omega,by omega,?_⟩,by dsimp only;omega⟩⟩
   . rw[T7 j0 hj,d7b,hq,d5b];rfl
   . rw[d4E];simp only[d6P];omega
   . have tk:(ix o.Over i).p5.take j.toNat=(ix o.Over i).p5:=d5e (by omega);rw[T7 i0 hi,d7W,hq,hk,tk];simp[a3X]
 have hK:k=a5I o t:=by rw[hk,hL,d5e (by omega)];rfl
 refine⟨fun i a b c d e f g h=>0<=i/\i<=k.length/\Tm.mk (Dy.mk a b c) d e f g h=(k.take i.toNat).foldl lsN t,fun i _ _ _ _ _ _ _ _=>((k.length:Int)-i).toNat,⟨by omega,by omega,rfl⟩,?_⟩;rintro j a b c d e f g h ⟨j0,j1,hs⟩;rw[hs];refine⟨fun hj=>⟨j0,hj,fun _ _ _ _ _ _=>⟨fun hc=>⟨⟨by omega,by omega⟩,⟨by omega,by omega,?_⟩,by dsimp only;omega⟩,fun hc=>⟨⟨by omega,by omega⟩,⟨by omega,by omega,?_⟩,by dsimp only;omega⟩⟩⟩,fun hj=>?_⟩
 . rw[T7 j0 hj,d8j];exact(if_pos hc:lsN ((k.take j.toNat).foldl lsN t) (ix k j)=ix k j).symm
 . rw[T7 j0 hj,d8j,hs];exact(if_neg hc:lsN ((k.take j.toNat).foldl lsN t) (ix k j)=_).symm
 . rw[d5e (by omega),hK];rfl
def c9A:Env:=d0Q.kC 18 (r38.c (r26.c .n)) (.val 26) (fun y=>[((a5I y.1 y.2.1).length:Int)<=1000000]) (fun y=>b1q y.1 y.2.1)
def Nl4l_ok:c8 c9A:=Nl4u_ok.kC Tryz.call18 Tryz.func18 (inlHN_ok Nl4u_ok H0_ok c55 2) (an:=c55 18) fun y ho=>kc (d4q y.1 y.2.1 ho.1) (by kernel_rfl)
def c3X(o:F3)(t:Tm):Bool:=bo ((q7 o.Main.b9.length fun j=>a48 (ix o.Main.b9 j).j8 o.Main.Start.Time (b1q o t)=true)/\b0u o=true/\c3L o (b1q o t)=true)
def c5m:Nat->D1:=fun|7=>⟨36,fun|3=>some ⟨[2,5,13,14],[.slot 15 (.int .i64)]⟩|_=>none,nn⟩|_=>⟨0,nn,nn⟩
def c9D(o:F3)(t:Tm)(Q:Bool->Prop):Prop:=
(↑(a5I (V9 o) (j6 t)).length:Int)<=1000000/\∃(I:Int->Prop),∃(m:Int->Nat),I 0/\∀(x:Int),I x->(bR (x<(↑o.Main.b9.length:Int)) (0<=x/\x<(↑o.Main.b9.length:Int)/\(c6 (ix o.Main.b9 x).j8->c6 (ix o.Main.b9 x).Interval->c6 (ix o.Main.b9 x).Count->c6 (ix o.Main.b9 x).v7->(bR (¬a48 (ix o.Main.b9 x).j8 (j6 o.Main.Start.Time) (j6 (b1q (V9 o) (j6 t)))=true) (Q false) (c6 (x+1)/\I (x+1)/\m (x+1)<m x)))) ((↑(List.length o.Kind):Int)<=140737488355328/\(↑(List.length o.UID):Int)<=140737488355328/\(b0u (V9 o)=true->b0u (V9 o)=true)/\Q (decide (b0u (V9 o)=true/\c3L (V9 o) (j6 (b1q (V9 o) (j6 t)))=true))))
def d3s(o:F3)(t:Tm)(hf:((a5I o t).length:Int)<=1000000)(hr:(o.Main.b9.length:Int)<=1000000)(hk:(o.Kind.length:Int)<=140737488355328)(hu:(o.UID.length:Int)<=140737488355328):c9D o t (fun y0=>y0=c3X o t):=by
 unfold c9D;simp only[y6,A7,B3,C9,C6,C5,C4,C3,C2,D0,B7,d4F];refine⟨hf,?_⟩;refine⟨fun k=>0<=k/\k<=o.Main.b9.length/\q7 k fun j=>a48 (ix o.Main.b9 j).j8 o.Main.Start.Time (b1q o t)=true,fun k=>((o.Main.b9.length:Int)-k).toNat,⟨by omega,by omega,q7.zero⟩,?_⟩;rintro k ⟨k0,k1,hk⟩;refine⟨fun hi=>⟨k0,hi,fun _ _ _ _=>⟨fun h=>G2 fun e=>?_,fun h=>⟨⟨by omega,by omega⟩,⟨by omega,by omega,hk.succ (d4y.1 h)⟩,by dsimp only;omega⟩⟩⟩,fun hi=>?_⟩
 . exact h (e.1 k k0 hi)
 have g1:q7 o.Main.b9.length fun j=>a48 (ix o.Main.b9 j).j8 o.Main.Start.Time (b1q o t)=true:=hk.le (by omega);clear hk k0 k1 hi k;exact⟨hk,hu,fun h=>h,a1o ⟨fun e=>⟨g1,e.1,e.2⟩,fun e=>⟨e.2.1,e.2.2⟩⟩⟩
def c8P:Env:=c9A.kC 7 (r38.c (r26.c .n)) (.bool) (fun y=>[((a5I y.1 y.2.1).length:Int)<=1000000,(y.1.Main.b9.length:Int)<=1000000,(List.length (α:=UInt8) y.1.Kind:Int)<=140737488355328,(List.length (α:=UInt8) y.1.UID:Int)<=140737488355328]) (fun y=>c3X y.1 y.2.1)
def Nl4r_ok:c8 c8P:=Nl4l_ok.kC Tryz.call7 Tryz.func7 (inlHN_ok Nl4l_ok H0_ok c5m 2) (an:=c5m 7) fun y ho=>kc (d3s y.1 y.2.1 ho.1 ho.2.1 ho.2.2.1 ho.2.2.2.1) (by kernel_rfl)
def c5b:Nat->D1:=fun|13=>⟨17,fun|2=>some ⟨[3,7,8],[.slot 9 (.int .i64)]⟩|_=>none,nn⟩|_=>⟨0,nn,nn⟩
def c9x(l:List Ins)(x:Ins)(Q:Bool->Prop):Prop:=
∃(I:Int->Prop),∃(m:Int->Nat),I 0/\∀(x_1:Int),I x_1->(bR (x_1<(↑l.length:Int)) (0<=x_1/\x_1<(↑l.length:Int)/\(bR (((x.Start.Day.Year=(ix l x_1).Start.Day.Year/\x.Start.Day.Month=(ix l x_1).Start.Day.Month/\x.Start.Day.Date=(ix l x_1).Start.Day.Date/\True)/\x.Start.Hour=(ix l x_1).Start.Hour/\x.Start.Min=(ix l x_1).Start.Min/\x.Start.D6=(ix l x_1).Start.D6/\(x.Start.n5=true↔(ix l x_1).Start.n5=true)/\(x.Start.UTC=true↔(ix l x_1).Start.UTC=true)/\True)/\((x.End.Day.Year=(ix l x_1).End.Day.Year/\x.End.Day.Month=(ix l x_1).End.Day.Month/\x.End.Day.Date=(ix l x_1).End.Day.Date/\True)/\x.End.Hour=(ix l x_1).End.Hour/\x.End.Min=(ix l x_1).End.Min/\x.End.D6=(ix l x_1).End.D6/\(x.End.n5=true↔(ix l x_1).End.n5=true)/\(x.End.UTC=true↔(ix l x_1).End.UTC=true)/\True)/\((x.u9.Day.Year=(ix l x_1).u9.Day.Year/\x.u9.Day.Month=(ix l x_1).u9.Day.Month/\x.u9.Day.Date=(ix l x_1).u9.Day.Date/\True)/\x.u9.Hour=(ix l x_1).u9.Hour/\x.u9.Min=(ix l x_1).u9.Min/\x.u9.D6=(ix l x_1).u9.D6/\(x.u9.n5=true↔(ix l x_1).u9.n5=true)/\(x.u9.UTC=true↔(ix l x_1).u9.UTC=true)/\True)/\(x.Over=true↔(ix l x_1).Over=true)/\True) (Q true) (c6 (x_1+1)/\I (x_1+1)/\m (x_1+1)<m x_1))) (Q false))
def d3t(l:List Ins)(x:Ins)(hl:(l.length:Int)<=1000000):c9x l x (fun y0=>y0=inB l x):=by
 unfold c9x;simp only[teq,ieq];refine⟨fun i=>0<=i/\i<=l.length/\q7 i fun j=>decide (x=ix l j)=false,fun i=>((l.length:Int)-i).toNat,⟨by omega,by omega,q7.zero⟩,?_⟩;rintro i ⟨i0,i1,hx⟩;refine⟨fun hi=>⟨i0,hi,fun hd=>?_,fun hd=>⟨⟨by omega,by omega⟩,⟨by omega,by omega,hx.succ (d4V hd)⟩,by dsimp only;omega⟩⟩,fun hi=>?_⟩
 . exact(b0M (p:=fun y:Ins=>decide (x=y)) i0 hi (d4K hd)).symm
 . exact(b4K (l:=l) (p:=fun y:Ins=>decide (x=y)) fun j j0 j1=>hx j j0 (by omega)).symm
def d2q:Env:=c8P.kL 13 ((rL 48).c (r48.c .n)) (.bool) (fun y=>[(y.1.length:Int)<=1000000]) (fun y=>inB y.1 y.2.1)
def Nl4i_ok:c8 d2q:=Nl4r_ok.kL Tryz.call13 Tryz.func13 (inlHN_ok Nl4r_ok H0_ok c5b 2) (an:=c5b 13) (fun _ _=>trivial) fun y ho=>kc (d3t y.1 y.2.1 ho.1) (by kernel_rfl)
def c4Z:Nat->D1:=fun|12=>⟨26,fun|4=>some ⟨[0,1],[.slot 5 (.int .i64)]⟩|_=>none,nn⟩|_=>⟨0,nn,nn⟩
def c9a(a:List Ins)(b:List Ins)(Q:Bool->Prop):Prop:=
(bR ((↑a.length:Int)≠(↑b.length:Int)) (Q false) (∃(I:Int->Prop),∃(m:Int->Nat),I 0/\∀(x:Int),I x->(bR (x<(↑a.length:Int)) (0<=x/\x<(↑a.length:Int)/\0<=x/\x<(↑b.length:Int)/\(bR (¬((((ix a x).Start.Day.Year=(ix b x).Start.Day.Year/\(ix a x).Start.Day.Month=(ix b x).Start.Day.Month/\(ix a x).Start.Day.Date=(ix b x).Start.Day.Date/\True)/\(ix a x).Start.Hour=(ix b x).Start.Hour/\(ix a x).Start.Min=(ix b x).Start.Min/\(ix a x).Start.D6=(ix b x).Start.D6/\((ix a x).Start.n5=true↔(ix b x).Start.n5=true)/\((ix a x).Start.UTC=true↔(ix b x).Start.UTC=true)/\True)/\(((ix a x).End.Day.Year=(ix b x).End.Day.Year/\(ix a x).End.Day.Month=(ix b x).End.Day.Month/\(ix a x).End.Day.Date=(ix b x).End.Day.Date/\True)/\(ix a x).End.Hour=(ix b x).End.Hour/\(ix a x).End.Min=(ix b x).End.Min/\(ix a x).End.D6=(ix b x).End.D6/\((ix a x).End.n5=true↔(ix b x).End.n5=true)/\((ix a x).End.UTC=true↔(ix b x).End.UTC=true)/\True)/\(((ix a x).u9.Day.Year=(ix b x).u9.Day.Year/\(ix a x).u9.Day.Month=(ix b x).u9.Day.Month/\(ix a x).u9.Day.Date=(ix b x).u9.Day.Date/\True)/\(ix a x).u9.Hour=(ix b x).u9.Hour/\(ix a x).u9.Min=(ix b x).u9.Min/\(ix a x).u9.D6=(ix b x).u9.D6/\((ix a x).u9.n5=true↔(ix b x).u9.n5=true)/\((ix a x).u9.UTC=true↔(ix b x).u9.UTC=true)/\True)/\((ix a x).Over=true↔(ix b x).Over=true)/\True)) (Q false) (c6 (x+1)/\I (x+1)/\m (x+1)<m x))) (Q true))))
def d3F(a:List Ins)(b:List Ins)(hl:(a.length:Int)<=1000000):c9a a b (fun y0=>y0=bo (a=b)):=by unfold c9a;simp only[teq,ieq];refine⟨fun h=>G2 fun e=>h (by rw[e]),fun h=>?_⟩;have h:a.length=b.length:=Int.ofNat_inj.1 (d4y.1 h);refine⟨fun i=>0<=i/\i<=a.length/\q7 i fun j=>ix a j=ix b j,fun i=>((a.length:Int)-i).toNat,⟨by omega,by omega,q7.zero⟩,?_⟩;rintro i ⟨i0,i1,hx⟩;refine⟨fun hi=>⟨i0,hi,i0,by omega,fun hd=>G2 fun e=>hd (by rw[e]),fun hd=>⟨⟨by omega,by omega⟩,⟨by omega,by omega,hx.succ (d4y.1 hd)⟩,by dsimp only;omega⟩⟩,fun hi=>?_⟩;exact a3q (c7C h fun j j0 j1=>hx j j0 (by omega))
def d0K:Env:=d2q.kL 12 ((rL 48).c ((rL 48).c .n)) (.bool) (fun y=>[(y.1.length:Int)<=1000000]) (fun y=>(bo (y.1=y.2.1):Bool))
def Nr4s_ok:c8 d0K:=Nl4i_ok.kL Tryz.call12 Tryz.func12 (inlHN_ok Nl4i_ok H0_ok c4Z 2) (an:=c4Z 12) (fun _ _=>trivial) fun y ho=>kc (d3F y.1 y.2.1 ho.1) (by kernel_rfl)
end Go.Proofs.YtapnoejokajcoaaGreatDoor
namespace Go.Qu
open Go Go.Wk Go.Wl Go.Rx Go.Re Go.Li Go.Fo
def a56(a b:Int):Int:=if a<b then -1 else if b<a then 1 else 0
def a0R(a b:Tm):Int:=a56 (b8 a) (b8 b)
def orI:List Int->Int
 |[]=>0
 |x::r=>if x=0 then orI r else x
def a7T(a b:Ins):Int:=if a0R a.Start b.Start=0 then a0R a.u9 b.u9 else a0R a.Start b.Start
def a7z(l:List Tm):List Tm:=l.mergeSort fun x y=>!decide (a0R y x<0)
def a9T(l:List Ins):List Ins:=l.mergeSort fun x y=>!decide (a7T y x<0)
def b7z{a b:Int}:a56 a b=0↔a=b:=by
 unfold a56;split
 . simp;omega
 . split
   . simp;omega
   . simp;omega
def a4n{a b:Int}:a56 a b<0↔a<b:=by
 unfold a56;split
 . simp;omega
 . split
   . simp;omega
   . simp;omega
def b9Y{l:List Int}{i:Int}(i0:0<=i)(i1:i<l.length):orI (l.drop i.toNat)=if ix l i=0 then orI (l.drop (i+1).toNat)else ix l i:=by rw[show(i+1).toNat=i.toNat+1 by omega,u6 (by omega),d6h (by omega)];rfl
def a2v{α:Type}[DecidableEq α](x:α):List α->List α
 |[]=>[]
 |y::r=>if y=x then a2v x r else y::a2v y r
def ded{α:Type}[DecidableEq α]:List α->List α
 |[]=>[]
 |x::r=>x::a2v x r
section
variable{α:Type}[DecidableEq α]
def a4T(x:α):∀(l:List α)(y:α),a2v x (l++[y])=if y=(x::l).getLast (by simp)then a2v x l else a2v x l++[y]
 |[],y=>by rw[d5F,List.getLast_singleton,a2v,a2v];rfl
 |z::r,y=>by
  rw[d6e,a2v,a2v,List.getLast_cons (by simp)];by_cases h:z=x
  . rw[if_pos h,if_pos h];have e:(z::r).getLast (by simp)=(x::r).getLast (by simp):=by rw[h]
    rw[a4T x r y,e]
  . rw[if_neg h,if_neg h,a4T z r y];split <;> simp
def b9T{l:List α}(h:l≠[])(y:α):ded (l++[y])=if y=l.getLast h then ded l else ded l++[y]:=by
 cases l with
 |nil=>exact absurd rfl h
 |cons x r =>
  rw[d6e,ded,ded,a4T];split <;> simp
def a6L[Inhabited α]{l:List α}{j:Int}(j0:1<=j)(j1:j<l.length):ded (l.take (j+1).toNat)=if ix l j=ix l (j-1)then ded (l.take j.toNat)else ded (l.take j.toNat)++[ix l j]:=by
 have hne:l.take j.toNat≠[]:=d7n.1 (by rw[d4Y];omega);have hl:(l.take j.toNat).getLast hne=ix l (j-1):=by
  have e:(l.take j.toNat).length-1=(j-1).toNat:=by rw[d4Y];omega
  rw[List.getLast_eq_getElem,u6 (by omega),d6Q];simp only[e]
 rw[T7 (by omega) j1,b9T hne,hl]
def a6y(x:α):∀l:List α,(a2v x l).length<=l.length
 |[]=>d4R _
 |y::r=>by
  rw[a2v];split
  . have:=a6y x r;rw[d4P];omega
  . have:=a6y y r;rw[d4P,d4P];omega
def c29(l:List α):(ded l).length<=l.length:=by
 cases l with
 |nil=>exact d4R _
 |cons x r=>have:=a6y x r;rw[ded,d4P,d4P];omega
def b6I{l:List α}(h:l.length<2):ded l=l:=by
 match l,h with
 |[],_=>rfl
 |[x],_=>rfl
def b1K[Inhabited α]{l:List α}:∀n:Nat,n<=l.length->(∀j:Int,1<=j->j<n->ix l j≠ix l (j-1))->ded (l.take n)=l.take n
 |0,_,_=>by simp[ded]
 |1,h,_=>b6I (by rw[d4Y];omega)
 |n+2,h,hj=>by
  have h1:=b1K (n+1) (by omega) fun j j0 j1=>hj j j0 (by omega);have h2:=a6L (l:=l) (j:=((n+1:Nat):Int)) (by omega) (by omega);have e:(((n+1:Nat):Int)+1).toNat=n+2:=by omega
  have e':((n+1:Nat):Int).toNat=n+1:=by omega
  rw[e,e',if_neg (hj _ (by omega) (by omega)),h1]at h2;have h3:=T7 (l:=l) (i:=((n+1:Nat):Int)) (by omega) (by omega);rw[e,e']at h3;rw[h2,h3]
end
def take_set{α:Type}{l:List α}{i:Nat}(h:i<l.length)(v:α):(l.set i v).take (i+1)=l.take i++[v]:=by rw[d5Y (by rw[d7s];exact h),List.take_set,List.getElem_set_self,List.set_eq_of_length_le (by rw[d4Y];omega)]
def a9C{α:Type}[Inhabited α]{l:List α}{i:Nat}{q:Int}(v:α)(q0:0<=q)(q1:q<l.length)(h:q.toNat≠i):ix (l.set i v) q=ix l q:=by rw[u6 (by rw[d7s];omega),u6 (by omega),List.getElem_set_ne (d5Q h)]
def a7N{α:Type}{l a b:List α}{k:Nat}(h:k<=l.length):(l.take k++a++b).take k=l.take k:=by rw[d5b,List.take_append_of_le_length (by rw[d4Y];omega),List.take_take,Nat.min_self]
end Go.Qu
namespace Go.Proofs.YtapnoejokajcoaaGreatDoor
open Go Go.Wk Go.Wl Go.Rx Go.Re Go.Li Go.Qu Go.Fo 
attribute [local irreducible] i7
def d1T:Nat->D1:=fun|32=>⟨20,nn,nn⟩|68=>⟨6,nn,nn⟩|_=>⟨0,nn,nn⟩
def VcC(a:Int)(b:Int)(Q:Int->Prop):Prop:=
(bR (a≠a) ((bR (b≠b) (Q 0) (Q (-1:Int)))) ((bR (b≠b) (Q 1) ((bR (a<b) (Q (-1:Int)) ((bR (b<a) (Q 1) (Q 0))))))))
def pcC(a:Int)(b:Int)  : VcC a b (fun y0=>y0=a56 a b):=by
 unfold VcC;unfold a56;refine⟨fun h=>absurd rfl h,fun _=>⟨fun h=>absurd rfl h,fun _=>⟨fun h=>?_,fun h=>⟨fun k=>?_,fun k=>?_⟩⟩⟩⟩
 . rw[if_pos h]
 . rw[if_neg h,if_pos k]
 . rw[if_neg h,if_neg k]
def NcC:Env:=d0K.kL 32 (rI.c (rI.c .n)) (.int .i64) (fun _=>[]) (fun y=>a56 y.1 y.2.1)
def NcC_ok:c8 NcC:=Nr4s_ok.kL Tryz.call32 Tryz.func32 (inlHN_ok Nr4s_ok H0_ok d1T 4) (an:=d1T 32) (fun _ _=>trivial) fun y ho=>kc (pcC y.1 y.2.1 ) (by kernel_rfl)
def d0e:Nat->D1:=fun|61=>⟨10,nn,nn⟩|_=>⟨0,nn,nn⟩
def Vtc(a:Tm)(b:Tm)(Q:Int->Prop):Prop:=
Q (a56 (b8 (j6 a)) (b8 (j6 b)))
def ptc(a:Tm)(b:Tm)  : Vtc a b (fun y0=>y0=a0R a b):=by unfold Vtc;simp only[y6,A7,B3,C9,C6,C5,C4,C3,C2,D0,B7,d4F];rfl
def Ntc:Env:=NcC.kL 61 (r26.c (r26.c .n)) (.int .i64) (fun _=>[]) (fun y=>a0R y.1 y.2.1)
def Ntc_ok:c8 Ntc:=NcC_ok.kL Tryz.call61 Tryz.func61 (inlHN_ok NcC_ok H0_ok d0e 2) (an:=d0e 61) (fun _ _=>trivial) fun y ho=>kc (ptc y.1 y.2.1 ) (by kernel_rfl)
def c9n:Nat->D1:=fun|31=>⟨18,fun|3=>some ⟨[3,6,7],[.slot 8 (.int .i64)]⟩|_=>none,nn⟩|_=>⟨0,nn,nn⟩
def VcO(l:List Int)(Q:Int->Prop):Prop:=
∃(I:Int->Prop),∃(m:Int->Nat),I 0/\∀(x:Int),I x->(bR (x<(↑l.length:Int)) (0<=x/\x<(↑l.length:Int)/\(c6 (ix l x)->(bR (ix l x≠0) (Q (ix l x)) (c6 (x+1)/\I (x+1)/\m (x+1)<m x)))) (Q 0))
def pcO(l:List Int)(hl:List.length (α:=Int) l<=1000000):VcO l (fun y0=>y0=orI l):=by
 unfold VcO;refine⟨fun x=>0<=x/\x<=List.length (α:=Int) l/\orI l=orI (List.drop (α:=Int) x.toNat l),fun x=>(List.length (α:=Int) l-x).toNat,⟨by omega,by omega,rfl⟩,?_⟩;rintro x ⟨x0,x1,hx⟩;refine⟨fun hi=>⟨x0,hi,fun _=>?_⟩,fun hi=>?_⟩
 . have h:=b9Y (l:=l) x0 hi;rw[<- hx]at h;refine⟨fun hn=>?_,fun hn=>⟨⟨by omega,by omega⟩,⟨by omega,by omega,?_⟩,by dsimp only;omega⟩⟩
   . rw[h,if_neg hn]
   . rw[h,if_pos (d4y.1 hn)]
 . have e:List.drop (α:=Int) x.toNat l=[]:=d6g (by omega);rw[hx,e];rfl
def NcO:Env:=Ntc.kL 31 ((rL 3).c .n) (.int .i64) (fun y=>[List.length (α:=Int) y.1<=1000000]) (fun y=>orI y.1)
def NcO_ok:c8 NcO:=Ntc_ok.kL Tryz.call31 Tryz.func31 (inlHN_ok Ntc_ok H0_ok c9n 2) (an:=c9n 31) (fun _ _=>trivial) fun y ho=>kc (pcO y.1 ho.1) (by kernel_rfl)
def d0l:Nat->D1:=fun|30=>⟨21,nn,nn⟩|_=>⟨0,nn,nn⟩
def Vic(a:Ins)(b:Ins)(Q:Int->Prop):Prop:=
[a56 (b8 (j6 a.Start)) (b8 (j6 b.Start)),a56 (b8 (j6 a.u9)) (b8 (j6 b.u9))].length<=1000000/\Q (orI [a56 (b8 (j6 a.Start)) (b8 (j6 b.Start)),a56 (b8 (j6 a.u9)) (b8 (j6 b.u9))])
def pic(a:Ins)(b:Ins)  : Vic a b (fun y0=>y0=a7T a b):=by
 unfold Vic;simp only[y6,A7,B3,C9,C6,C5,C4,C3,C2,D0,B7,d4F];refine⟨by show 2<=1000000;decide,?_⟩;show orI [a0R a.Start b.Start,a0R a.u9 b.u9]=a7T a b
 unfold a7T;rw[orI,orI,orI];by_cases h:a0R a.Start b.Start=0
 . rw[if_pos h,if_pos h];by_cases k:a0R a.u9 b.u9=0
   . rw[if_pos k,k]
   . rw[if_neg k]
 . rw[if_neg h,if_neg h]
def Nic:Env:=NcO.kL 30 (r48.c (r48.c .n)) (.int .i64) (fun _=>[]) (fun y=>a7T y.1 y.2.1)
def Nic_ok:c8 Nic:=NcO_ok.kL Tryz.call30 Tryz.func30 (inlHN_ok NcO_ok H0_ok d0l 2) (an:=d0l 30) (fun _ _=>trivial) fun y ho=>kc (pic y.1 y.2.1 ) (by kernel_rfl)
def c8E:Nat->D1:=fun|57=>⟨8,nn,nn⟩|_=>⟨0,nn,nn⟩
def VcT(l:List Tm)(Q:List Tm->Prop):Prop:=
(l=[]->Q [])/\(([]:List UInt8).length+l.length)*(some (56:Nat)).getD (0:Nat)<=140737488355328/\Q ([]++l)
def pcT(l:List Tm)(hl:(l.length:Int)<=1000000):VcT l (fun y0=>y0=l):=by unfold VcT;refine⟨fun h=>h.symm,by show(0+l.length)*56<=_;omega,rfl⟩
def NcT:Env:=Nic.kC 57 ((rL 26).c .n) (.acc 26) (fun y=>[(y.1.length:Int)<=1000000]) (fun y=>y.1)
def NcT_ok:c8 NcT:=Nic_ok.kC Tryz.call57 Tryz.func57 (inlHN_ok Nic_ok H0_ok c8E 2) (an:=c8E 57) fun y ho=>kc (pcT y.1 ho.1) (by kernel_rfl)
def c4S:Nat->D1:=fun|62=>⟨61,fun|4=>some ⟨[0],[.slot 3 (.int .i64),.cont 0 26]⟩|9=>some ⟨[0,4],[.slot 3 (.int .i64),.slot 5 (.int .i64),.cont 0 26]⟩|_=>none,nn⟩|_=>⟨0,nn,nn⟩
def b5z(x_2:Int)(x_4:List Tm):=List.take ((some x_2).getD 0).toNat x_4++List.replicate (none.getD (↑x_4.length:Int)-(some x_2).getD 0).toNat (Tm.mk (Dy.mk 0 0 0) 0 0 0 false false)++List.drop (((some x_2).getD 0).toNat+(none.getD (↑x_4.length:Int)-(some x_2).getD 0).toNat) x_4
def L9(x_4:List Tm)(x:Int)(x_3:Int):=ix x_4 ((some x).getD (0:Int)+x_3)
def Z7(x_4:List Tm)(x:Int)(x_3:Int):=ix x_4 ((some x).getD (0:Int)+(x_3-1))
def d0a(l:List Tm)(Q:List Tm->Prop):Prop:=
(bR ((↑l.length:Int)<2) (Q l) (∃(I:Int->List Tm->Prop),∃(m:Int->List Tm->Nat),I 1 l/\∀(x:Int)(x_1:List Tm),I x x_1->(bR (x<(↑x_1.length:Int)) (0<=x/\x<(↑x_1.length:Int)/\(c6 (ix x_1 x).Day.Year->c6 (ix x_1 x).Day.Month->c6 (ix x_1 x).Day.Date->c6 (ix x_1 x).Hour->c6 (ix x_1 x).Min->c6 (ix x_1 x).D6->c6 (x-1)/\0<=x-1/\x-1<(↑x_1.length:Int)/\(c6 (ix x_1 (x-1)).Day.Year->c6 (ix x_1 (x-1)).Day.Month->c6 (ix x_1 (x-1)).Day.Date->c6 (ix x_1 (x-1)).Hour->c6 (ix x_1 (x-1)).Min->c6 (ix x_1 (x-1)).D6->(bR (((ix x_1 x).Day.Year=(ix x_1 (x-1)).Day.Year/\(ix x_1 x).Day.Month=(ix x_1 (x-1)).Day.Month/\(ix x_1 x).Day.Date=(ix x_1 (x-1)).Day.Date/\True)/\(ix x_1 x).Hour=(ix x_1 (x-1)).Hour/\(ix x_1 x).Min=(ix x_1 (x-1)).Min/\(ix x_1 x).D6=(ix x_1 (x-1)).D6/\((ix x_1 x).n5=true↔(ix x_1 (x-1)).n5=true)/\((ix x_1 x).UTC=true↔(ix x_1 (x-1)).UTC=true)/\True) (0<=x/\x<=(↑x_1.length:Int)/\∃(I:Int->Int->List Tm->Prop),∃(m:Int->Int->List Tm->Nat),I x 1 x_1/\∀(x_2 x_3:Int)(x_4:List Tm),I x_2 x_3 x_4->(bR (x_3<none.getD (↑x_1.length:Int)-(some x).getD 0) (0<=x_3/\x_3<none.getD (↑x_1.length:Int)-(some x).getD 0/\(c6 (L9 x_4 x x_3).Day.Year->c6 (L9 x_4 x x_3).Day.Month->c6 (L9 x_4 x x_3).Day.Date->c6 (L9 x_4 x x_3).Hour->c6 (L9 x_4 x x_3).Min->c6 (L9 x_4 x x_3).D6->c6 (x_3-1)/\0<=x_3-1/\x_3-1<none.getD (↑x_1.length:Int)-(some x).getD 0/\(c6 (Z7 x_4 x x_3).Day.Year->c6 (Z7 x_4 x x_3).Day.Month->c6 (Z7 x_4 x x_3).Day.Date->c6 (Z7 x_4 x x_3).Hour->c6 (Z7 x_4 x x_3).Min->c6 (Z7 x_4 x x_3).D6->(bR (¬(((L9 x_4 x x_3).Day.Year=(Z7 x_4 x x_3).Day.Year/\(L9 x_4 x x_3).Day.Month=(Z7 x_4 x x_3).Day.Month/\(L9 x_4 x x_3).Day.Date=(Z7 x_4 x x_3).Day.Date/\True)/\(L9 x_4 x x_3).Hour=(Z7 x_4 x x_3).Hour/\(L9 x_4 x x_3).Min=(Z7 x_4 x x_3).Min/\(L9 x_4 x x_3).D6=(Z7 x_4 x x_3).D6/\((L9 x_4 x x_3).n5=true↔(Z7 x_4 x x_3).n5=true)/\((L9 x_4 x x_3).UTC=true↔(Z7 x_4 x x_3).UTC=true)/\True)) (0<=x_3/\x_3<none.getD (↑x_1.length:Int)-(some x).getD 0/\(c6 (L9 x_4 x x_3).Day.Year->c6 (L9 x_4 x x_3).Day.Month->c6 (L9 x_4 x x_3).Day.Date->c6 (L9 x_4 x x_3).Hour->c6 (L9 x_4 x x_3).Min->c6 (L9 x_4 x x_3).D6->0<=x_2/\x_2<(↑x_4.length:Int)/\c6 (x_2+1)/\c6 (x_3+1)/\I (x_2+1) (x_3+1) (x_4.set x_2.toNat (j6 (L9 x_4 x x_3)))/\m (x_2+1) (x_3+1) (x_4.set x_2.toNat (j6 (L9 x_4 x x_3)))<m x_2 x_3 x_4)) (c6 (x_3+1)/\I x_2 (x_3+1) x_4/\m x_2 (x_3+1) x_4<m x_2 x_3 x_4))))) (0<=x_2/\x_2<=(↑x_4.length:Int)/\0<=x_2/\x_2<=(↑(b5z x_2 x_4).length:Int)/\Q (List.take ((some x_2).getD (↑(b5z x_2 x_4).length:Int)-none.getD 0).toNat (b5z x_2 x_4))))) (c6 (x+1)/\I (x+1) x_1/\m (x+1) x_1<m x x_1))))) (Q x_1))))
def d4j(l:List Tm)(hl:(l.length:Int)<=1000000):d0a l (fun y0=>y0=ded (α:=Tm) l):=by
 unfold d0a Z7 L9 b5z;simp only[y6,A7,B3,C9,C6,C5,C4,C3,C2,D0,B7,d4F,teq,d7h,d8w,d8v];refine⟨fun h=>(b6I (by omega)).symm,fun h2=>?_⟩;refine⟨fun x k=>1<=x/\x<=l.length/\k=l/\∀j:Int,1<=j->j<x->ix l j≠ix l (j-1),fun x _=>((l.length:Int)-x).toNat,⟨by omega,by omega,rfl,fun j j0 j1=>by omega⟩,?_⟩;rintro x k ⟨x0,x1,hk,hx⟩;rw[hk];have hs:ded (l.take x.toNat)=l.take x.toNat:=b1K x.toNat (by omega) fun j j0 j1=>hx j j0 (by omega);refine⟨fun hi=>⟨by omega,hi,fun _ _ _ _ _ _=>⟨⟨by omega,by omega⟩,by omega,by omega,fun _ _ _ _ _ _=>⟨fun he=>⟨by omega,by omega,?_⟩,fun he=>⟨⟨by omega,by omega⟩,⟨by omega,by omega,rfl,fun j j0 j1=>?_⟩,by dsimp only;omega⟩⟩⟩⟩,fun hi=>?_⟩
 . refine⟨fun k2 j L=>1<=j/\x+j<=l.length/\L.length=l.length/\x<=k2/\k2<=x+j-1/\L.take k2.toNat=ded (l.take (x+j).toNat)/\∀q:Int,x+j-1<=q->q<l.length->ix L q=ix l q,fun _ j _=>((l.length:Int)-(x+j)).toNat,⟨by omega,by omega,rfl,by omega,by omega,?_,fun _ _ _=>rfl⟩,?_⟩
   . rw[a6L x0 hi,if_pos he,hs]
   rintro k2 j L ⟨j0,j1,hL,k0,k1,ht,hq⟩;refine⟨fun hj=>?_,fun hj=>?_⟩
   . have e1:=hq (x+j) (by omega) (by omega);have e2:=hq (x+(j-1)) (by omega) (by omega);have dt:=a6L (l:=l) (j:=x+j) (by omega) (by omega);rw[show x+j-1=x+(j-1) by omega,<- e1,<- e2]at dt;refine⟨by omega,hj,fun _ _ _ _ _ _=>⟨⟨by omega,by omega⟩,by omega,by omega,fun _ _ _ _ _ _=>⟨fun hne=>⟨by omega,hj,fun _ _ _ _ _ _=>⟨by omega,by omega,⟨by omega,by omega⟩,⟨by omega,by omega⟩,⟨by omega,by omega,by rw[d7s];exact hL,by omega,by omega,?_,fun q q0 q1=>?_⟩,by dsimp only;omega⟩⟩,fun hne=>⟨⟨by omega,by omega⟩,⟨by omega,by omega,hL,by omega,by omega,?_,fun q q0 q1=>hq q (by omega) q1⟩,by dsimp only;omega⟩⟩⟩⟩
     . rw[show(k2+1).toNat=k2.toNat+1 by omega,take_set (by omega),show x+(j+1)=x+j+1 by omega,dt,if_neg hne,ht]
     . rw[a9C _ (by omega) (by omega) (by omega)];exact hq q (by omega) q1
     . rw[show x+(j+1)=x+j+1 by omega,dt,if_pos (d4y.1 hne),ht]
   . have hl2:l.take (x+j).toNat=l:=d5e (by omega);rw[hl2]at ht;refine⟨by omega,by omega,by omega,?_,?_⟩
     . simp only[d4E,d4Y,d5H,d6D];omega
     . rw[a7N (by omega),ht]
 . by_cases e:j=x
   . rw[e];exact he
   . exact hx j j0 (by omega)
 . have e:l.take x.toNat=l:=d5e (by omega);rw[e]at hs;exact hs.symm
def d1P(l:List Tm):FR U:=b51 NcT [(l.length:Int)<=1000000] [(0,.ac (N:=U) 26 l)] 2 1 [.slot 0 (.acc 26)] (ded (α:=Tm) l,())
def c6v:FC U:=⟨[],[],fun a its=>match a,its with|[.acc 0],[(0,.ac 26 l)]=>some (d1P l)|_,_=>none⟩
def fcmT_ok(args:List (SV U))(its:c7 U)(r:FR U)(h:c6v.C args its=some r)(ho:p9 r.ob):M4 Tryz.prog U eT Gl 62 args its (2*its.length) (fun k=>p9 r.hy->k r.v r.its r.n):=by
 unfold c6v at h;simp only at h;split at h
 . rename_i l;cases h;exact fc_ok (an:=c4S 62) NcT_ok (inlHN_ok NcT_ok H0_ok c4S 3) Tryz.func62 (n:=1) rfl (vs:=[.slot 0 (.acc 26)]) (X:=(ded (α:=Tm) l,())) rfl (kc (d4j l ho.1) (by kernel_rfl))
 . cases h
def d1t:Env:=(NcT.y7 62 Tryz.f62).a1C 62 c6v
def NcmT_ok:c8 d1t:=(NcT_ok.y7 Tryz.call62 Tryz.func62).a1C Tryz.call62 fcmT_ok
end Go.Proofs.YtapnoejokajcoaaGreatDoor
namespace Go.Proofs
open Go.Shelf
def Tryz.b7j:Go.Shelf.Ren:=⟨fun|6=>60|15=>67|14=>103|28=>118|29=>119|20=>142|21=>143|22=>144|23=>145|24=>146|25=>147|26=>148|27=>149|46=>175|47=>154|48=>155|49=>176|50=>177|57=>199|n=>n,fun|22=>61|24=>26|25=>111|3=>3|39=>120|0=>0|53=>173|55=>175|4=>4|46=>166|45=>165|50=>170|5=>5|9=>9|66=>220|70=>224|76=>250|77=>251|n=>n,fun|n=>n⟩
def Tryz.b6L:Go.Proofs.SlLaysF0.n6 Tryz.prog Tryz.b7j:={
 mixed:=by kernel_rfl
 f6:=⟨Tryz.f60.name,by decide,Tryz.func60.trans (congrArg some (by kernel_rfl))⟩
 f14:=⟨Tryz.f103.name,by decide,Tryz.func103.trans (congrArg some (by kernel_rfl))⟩
 f15:=Tryz.func67.trans (congrArg some (by kernel_rfl))
 f20:=⟨Tryz.f142.name,by decide,Tryz.func142.trans (congrArg some (by kernel_rfl))⟩
 f21:=⟨Tryz.f143.name,by decide,Tryz.func143.trans (congrArg some (by kernel_rfl))⟩
 f22:=⟨Tryz.f144.name,by decide,Tryz.func144.trans (congrArg some (by kernel_rfl))⟩
 f23:=⟨Tryz.f145.name,by decide,Tryz.func145.trans (congrArg some (by kernel_rfl))⟩
 f24:=⟨Tryz.f146.name,by decide,Tryz.func146.trans (congrArg some (by kernel_rfl))⟩
 f25:=⟨Tryz.f147.name,by decide,Tryz.func147.trans (congrArg some (by kernel_rfl))⟩
 f26:=⟨Tryz.f148.name,by decide,Tryz.func148.trans (congrArg some (by kernel_rfl))⟩
 f27:=⟨Tryz.f149.name,by decide,Tryz.func149.trans (congrArg some (by kernel_rfl))⟩
 f28:=Tryz.func118.trans (congrArg some (by kernel_rfl))
 f29:=Tryz.func119.trans (congrArg some (by kernel_rfl))
 f46:=⟨Tryz.f175.name,by decide,Tryz.func175.trans (congrArg some (by kernel_rfl))⟩
 f47:=Tryz.func154.trans (congrArg some (by kernel_rfl))
 f48:=Tryz.func155.trans (congrArg some (by kernel_rfl))
 f49:=⟨Tryz.f176.name,by decide,Tryz.func176.trans (congrArg some (by kernel_rfl))⟩
 f50:=⟨Tryz.f177.name,by decide,Tryz.func177.trans (congrArg some (by kernel_rfl))⟩
 f57:=⟨Tryz.f199.name,by decide,Tryz.func199.trans (congrArg some (by kernel_rfl))⟩
 t0:=Tryz.underlying0
 a0:=Tryz.isAgg0
 z0:=Tryz.sizeOf0
 v0:=Tryz.zeroValue0
 t3:=Tryz.underlying3
 a3:=Tryz.isAgg3
 z3:=Tryz.sizeOf3
 v3:=Tryz.zeroValue3
 t4:=Tryz.underlying4
 a4:=Tryz.isAgg4
 z4:=Tryz.sizeOf4
 v4:=Tryz.zeroValue4
 t5:=Tryz.underlying5
 a5:=Tryz.isAgg5
 z5:=Tryz.sizeOf5
 v5:=Tryz.zeroValue5
 t9:=Tryz.underlying9
 a9:=Tryz.isAgg9
 z9:=Tryz.sizeOf9
 v9:=Tryz.zeroValue9
 t22:=Tryz.underlying61
 a22:=Tryz.isAgg61
 z22:=Tryz.sizeOf61
 v22:=Tryz.zeroValue61
 t25:=Tryz.underlying111
 a25:=Tryz.isAgg111
 z25:=Tryz.sizeOf111
 v25:=Tryz.zeroValue111
 t39:=Tryz.underlying120
 a39:=Tryz.isAgg120
 z39:=Tryz.sizeOf120
 v39:=Tryz.zeroValue120
 t45:=Tryz.underlying165
 a45:=Tryz.isAgg165
 z45:=Tryz.sizeOf165
 v45:=Tryz.zeroValue165
 t46:=Tryz.underlying166
 a46:=Tryz.isAgg166
 z46:=Tryz.sizeOf166
 v46:=Tryz.zeroValue166
 t50:=Tryz.underlying170
 a50:=Tryz.isAgg170
 z50:=Tryz.sizeOf170
 v50:=Tryz.zeroValue170
 t53:=Tryz.underlying173
 a53:=Tryz.isAgg173
 z53:=Tryz.sizeOf173
 v53:=Tryz.zeroValue173
 t55:=Tryz.underlying175
 a55:=Tryz.isAgg175
 z55:=Tryz.sizeOf175
 v55:=Tryz.zeroValue175
 t66:=Tryz.underlying220
 a66:=Tryz.isAgg220
 z66:=Tryz.sizeOf220
 v66:=Tryz.zeroValue220
 t70:=Tryz.underlying224
 a70:=Tryz.isAgg224
 z70:=Tryz.sizeOf224
 v70:=Tryz.zeroValue224
 t76:=Tryz.underlying250
 a76:=Tryz.isAgg250
 z76:=Tryz.sizeOf250
 v76:=Tryz.zeroValue250
 t77:=Tryz.underlying251
 a77:=Tryz.isAgg251
 z77:=Tryz.sizeOf251
 v77:=Tryz.zeroValue251 }
def Tryz.b8k:Go.Shelf.Ren:=⟨fun|6=>29|15=>67|14=>66|28=>118|29=>119|20=>110|21=>111|22=>112|23=>113|24=>114|25=>115|26=>116|27=>117|46=>153|47=>154|48=>155|49=>156|50=>157|57=>179|n=>n,fun|22=>41|24=>48|25=>78|3=>3|39=>120|0=>0|53=>173|55=>175|4=>4|46=>166|45=>165|50=>170|5=>5|9=>9|66=>220|70=>224|76=>250|77=>251|n=>n,fun|n=>n⟩
def Tryz.c5E:Go.Proofs.SlLaysF0.n6 Tryz.prog Tryz.b8k:={
 mixed:=by kernel_rfl
 f6:=⟨Tryz.f29.name,by decide,Tryz.func29.trans (congrArg some (by kernel_rfl))⟩
 f14:=⟨Tryz.f66.name,by decide,Tryz.func66.trans (congrArg some (by kernel_rfl))⟩
 f15:=Tryz.func67.trans (congrArg some (by kernel_rfl))
 f20:=⟨Tryz.f110.name,by decide,Tryz.func110.trans (congrArg some (by kernel_rfl))⟩
 f21:=⟨Tryz.f111.name,by decide,Tryz.func111.trans (congrArg some (by kernel_rfl))⟩
 f22:=⟨Tryz.f112.name,by decide,Tryz.func112.trans (congrArg some (by kernel_rfl))⟩
 f23:=⟨Tryz.f113.name,by decide,Tryz.func113.trans (congrArg some (by kernel_rfl))⟩
 f24:=⟨Tryz.f114.name,by decide,Tryz.func114.trans (congrArg some (by kernel_rfl))⟩
 f25:=⟨Tryz.f115.name,by decide,Tryz.func115.trans (congrArg some (by kernel_rfl))⟩
 f26:=⟨Tryz.f116.name,by decide,Tryz.func116.trans (congrArg some (by kernel_rfl))⟩
 f27:=⟨Tryz.f117.name,by decide,Tryz.func117.trans (congrArg some (by kernel_rfl))⟩
 f28:=Tryz.func118.trans (congrArg some (by kernel_rfl))
 f29:=Tryz.func119.trans (congrArg some (by kernel_rfl))
 f46:=⟨Tryz.f153.name,by decide,Tryz.func153.trans (congrArg some (by kernel_rfl))⟩
 f47:=Tryz.func154.trans (congrArg some (by kernel_rfl))
 f48:=Tryz.func155.trans (congrArg some (by kernel_rfl))
 f49:=⟨Tryz.f156.name,by decide,Tryz.func156.trans (congrArg some (by kernel_rfl))⟩
 f50:=⟨Tryz.f157.name,by decide,Tryz.func157.trans (congrArg some (by kernel_rfl))⟩
 f57:=⟨Tryz.f179.name,by decide,Tryz.func179.trans (congrArg some (by kernel_rfl))⟩
 t0:=Tryz.underlying0
 a0:=Tryz.isAgg0
 z0:=Tryz.sizeOf0
 v0:=Tryz.zeroValue0
 t3:=Tryz.underlying3
 a3:=Tryz.isAgg3
 z3:=Tryz.sizeOf3
 v3:=Tryz.zeroValue3
 t4:=Tryz.underlying4
 a4:=Tryz.isAgg4
 z4:=Tryz.sizeOf4
 v4:=Tryz.zeroValue4
 t5:=Tryz.underlying5
 a5:=Tryz.isAgg5
 z5:=Tryz.sizeOf5
 v5:=Tryz.zeroValue5
 t9:=Tryz.underlying9
 a9:=Tryz.isAgg9
 z9:=Tryz.sizeOf9
 v9:=Tryz.zeroValue9
 t22:=Tryz.underlying41
 a22:=Tryz.isAgg41
 z22:=Tryz.sizeOf41
 v22:=Tryz.zeroValue41
 t25:=Tryz.underlying78
 a25:=Tryz.isAgg78
 z25:=Tryz.sizeOf78
 v25:=Tryz.zeroValue78
 t39:=Tryz.underlying120
 a39:=Tryz.isAgg120
 z39:=Tryz.sizeOf120
 v39:=Tryz.zeroValue120
 t45:=Tryz.underlying165
 a45:=Tryz.isAgg165
 z45:=Tryz.sizeOf165
 v45:=Tryz.zeroValue165
 t46:=Tryz.underlying166
 a46:=Tryz.isAgg166
 z46:=Tryz.sizeOf166
 v46:=Tryz.zeroValue166
 t50:=Tryz.underlying170
 a50:=Tryz.isAgg170
 z50:=Tryz.sizeOf170
 v50:=Tryz.zeroValue170
 t53:=Tryz.underlying173
 a53:=Tryz.isAgg173
 z53:=Tryz.sizeOf173
 v53:=Tryz.zeroValue173
 t55:=Tryz.underlying175
 a55:=Tryz.isAgg175
 z55:=Tryz.sizeOf175
 v55:=Tryz.zeroValue175
 t66:=Tryz.underlying220
 a66:=Tryz.isAgg220
 z66:=Tryz.sizeOf220
 v66:=Tryz.zeroValue220
 t70:=Tryz.underlying224
 a70:=Tryz.isAgg224
 z70:=Tryz.sizeOf224
 v70:=Tryz.zeroValue224
 t76:=Tryz.underlying250
 a76:=Tryz.isAgg250
 z76:=Tryz.sizeOf250
 v76:=Tryz.zeroValue250
 t77:=Tryz.underlying251
 a77:=Tryz.isAgg251
 z77:=Tryz.sizeOf251
 v77:=Tryz.zeroValue251 }
open Go.RowKit Go.Lib Go.Sort in
def Tryz.b4O{α:Type}[Inhabited α](k:Nat)(aE:∀w,(isAgg 26).run Tryz.prog w=.ok true w)(zE:∀w,(Go.sizeOf 26).run Tryz.prog w=.ok k w)(enc:α->List Value)(hk:∀x,(enc x).length=k)(h1:∀x,∀v∈enc x,v.oneCell'=true)(cf:α->α->Int)(hO:SWO (ltOf cf))(g:Nat)(cb:Array Value)(blk off cap:Nat)(d:Array α)(w:World)
  (eg:∀args w,(callFunc g args).run Tryz.prog w=.ok (.enter g args) w) (hcmp:CmpLays Tryz.prog g cb enc k cf blk off d.size w) (hH:HoldsK enc k w blk off d) (hblk:blk<w.heap.size) (hsz:d.size<4611686018427387904) (hT:∀x y,(ltOf cf) x y=false->(ltOf cf) y x=false->x=y) :
  Calls Tryz.prog 60 #[.slice (some ⟨blk,off,none⟩) d.size cap,.func (.func g) #[] cb] w fun e w'=>e=.returned (.tuple #[])/\∃n os,w'=sortWorldK enc k w blk off n (d.toList.mergeSort fun x y=>!(ltOf cf) y x).toArray os:=AnyQ.slices_SortFunc_total Tryz.b6L k aE zE enc hk h1 cf hO g cb blk off cap d w eg hcmp hH hblk hsz hT
open Go.RowKit Go.Lib Go.Sort in
def Tryz.b32(p:Option Addr)(cap:Nat)(fv:Value)(w:World):Calls Tryz.prog 60 #[.slice p 0 cap,fv] w fun e w'=>e=.returned (.tuple #[])/\w'=w:=AnyF.slices_SortFunc_none { Tryz.b6L with } p cap fv w
open Go.RowKit Go.Lib Go.Sort in
def Tryz.b4s{α:Type}[Inhabited α](k:Nat)(aE:∀w,(isAgg 48).run Tryz.prog w=.ok true w)(zE:∀w,(Go.sizeOf 48).run Tryz.prog w=.ok k w)(enc:α->List Value)(hk:∀x,(enc x).length=k)(h1:∀x,∀v∈enc x,v.oneCell'=true)(cf:α->α->Int)(hO:SWO (ltOf cf))(g:Nat)(cb:Array Value)(blk off cap:Nat)(d:Array α)(w:World)
  (eg:∀args w,(callFunc g args).run Tryz.prog w=.ok (.enter g args) w) (hcmp:CmpLays Tryz.prog g cb enc k cf blk off d.size w) (hH:HoldsK enc k w blk off d) (hblk:blk<w.heap.size) (hsz:d.size<4611686018427387904) (hT:∀x y,(ltOf cf) x y=false->(ltOf cf) y x=false->x=y) :
  Calls Tryz.prog 29 #[.slice (some ⟨blk,off,none⟩) d.size cap,.func (.func g) #[] cb] w fun e w'=>e=.returned (.tuple #[])/\∃n os,w'=sortWorldK enc k w blk off n (d.toList.mergeSort fun x y=>!(ltOf cf) y x).toArray os:=AnyQ.slices_SortFunc_total Tryz.c5E k aE zE enc hk h1 cf hO g cb blk off cap d w eg hcmp hH hblk hsz hT
open Go.RowKit Go.Lib Go.Sort in
def Tryz.b1m(p:Option Addr)(cap:Nat)(fv:Value)(w:World):Calls Tryz.prog 29 #[.slice p 0 cap,fv] w fun e w'=>e=.returned (.tuple #[])/\w'=w:=AnyF.slices_SortFunc_none { Tryz.c5E with } p cap fv w
end Go.Proofs
section
namespace Go.Wk
open Go
def b3J{α:Type}:∀(a:Ask α)(w:World),w.drawn<=(w.ask a).2.drawn
 |.done a,w=>d4R _
 |.ask what range k,w=>by
  unfold World.ask;simp only;split
  . exact b3J (k 0) w
  . exact d4L (Nat.le_succ _) (b3J (k _) { w with drawn:=w.drawn+1 })
def b8F(w:World)(c:Sys):w.drawn<=(w.sys c).2.drawn:=by
 unfold World.sys;have h:=b3J (Kernel.perform c w.os) w;split
 . exact d4R _
 . rename_i r os w' _ e;rw[e]at h;exact h
def b2E{p:Program}{w w':World}{a:Addr}{v:Value}{m:Bool}{l:List Addr}(h:w.farStore p a v m=.ok (w',l)):w'.drawn=w.drawn:=by
 unfold World.farStore at h;split at h
 . split at h
   . rename_i r hr;cases h;unfold World.viewStore at hr;simp only[bind,Except.bind,pure,Except.pure,throw,throwThe,MonadExceptOf.throw]at hr
     repeat' split at hr
     all_goals first
      |cases hr;done
      |(cases hr;rfl)
   . cases h
 . cases h
def rwd{α:Type}:Result α->Nat
 |.ok _ w=>w.drawn
 |.halt _ w=>w.drawn
def I7{α:Type}(p:Program):∀(s:Sem α)(w:World),w.drawn<=rwd (s.run p w)
 |.pure a,w=>d4R _
 |.load m a k,w=>by
  unfold Sem.run;split
  . exact I7 p (k _) w
  . split
    . exact I7 p (k _) w
    . exact d4R _
 |.store m a v k,w=>by
  cases v
  case agg=>exact d4R _
  case tuple=>exact d4R _
  all_goals
   simp only[Sem.run];split
   . split
     . exact d4R _
     . exact I7 p k (w.setCell a _)
   . split
     . rename_i e;exact d4L (d8u (b2E e).symm) (I7 p k _)
     . exact d4R _
 |.new o k,w=>I7 p (k w.heap.size) { w with heap:=w.heap.push o }
 |.shape r k,w=>I7 p (k _) w
 |.freeze a n k,w=>by
  have:(w.freeze a n).drawn=w.drawn:=by unfold World.freeze;split <;> rfl
  exact d4L (d8u this.symm) (I7 p k _)
 |.frozen a k,w=>I7 p (k _) w
 |.getObj r k,w=>by
  unfold Sem.run;split
  . exact d4R _
  . exact I7 p (k _) w
  . exact d4R _
 |.setObj r o k,w=>by
  unfold Sem.run;split
  . exact d4R _
  . exact I7 p k { w with heap:=w.heap.setIfInBounds r o }
  . exact d4R _
 |.choose q k,w=>by
  unfold Sem.run;split
  . exact I7 p (k _) w
  . exact d4L (Nat.le_succ _) (I7 p (k _) { w with drawn:=w.drawn+1 })
 |.sys c k,w=>d4L (b8F w c) (I7 p (k _) _)
 |.program k,w=>I7 p (k _) w
 |.mark m k,w=>I7 p k w
 |.halt h,w=>d4R _
def run_ok{α:Type}{p:Program}{s:Sem α}{w w':World}{v:α}(h:s.run p w=.ok v w'):w.drawn<=w'.drawn:=by have:=I7 p s w;rw[h]at this;exact this
def run_halt{α:Type}{p:Program}{s:Sem α}{w w':World}{v:Halt}(h:s.run p w=.halt v w'):w.drawn<=w'.drawn:=by have:=I7 p s w;rw[h]at this;exact this
def a9M{α:Type}{p:Program}{s:Sem α}{w:World}{es es':Array Event}{r:Result α}(h:s.runT p w es=(r,es')):w.drawn<=rwd r:=by have:=I7 p s w;rw[<- Sem.runT_fst p s w es,h]at this;exact this
def c1q{α:Type}(p:Program)(s:Sem α)(w:World)(es:Array Event):w.drawn<=rwd (s.runT p w es).1:=by rw[Sem.runT_fst];exact I7 p s w
def runT_ok{α:Type}{p:Program}{s:Sem α}{w w':World}{es:Array Event}{v:α}(h:(s.runT p w es).1=.ok v w'):w.drawn<=w'.drawn:=by have:=c1q p s w es;rw[h]at this;exact this
def a92{α:Type}{p:Program}{s:Sem α}{w w':World}{es:Array Event}{v:Halt}(h:(s.runT p w es).1=.halt v w'):w.drawn<=w'.drawn:=by have:=c1q p s w es;rw[h]at this;exact this
def gwd:GStep->Nat
 |.go _ w _=>w.drawn
 |.comm _ _ _ _ w _=>w.drawn
 |.spawn _ _ w _=>w.drawn
 |.count _ w _=>w.drawn
 |.timer _ _ w _=>w.drawn
 |.alone _ _ w _=>w.drawn
 |.newcoro _ _ _ w _=>w.drawn
 |.coroswitch _ _ _ w _=>w.drawn
 |.collect _ w _=>w.drawn
 |.watch _ w _=>w.drawn
 |.ended _ w _=>w.drawn
def R6(es:Array Event)(s:GStep):gwd (s.after es)=gwd s:=by cases s <;> rfl
variable{p:Program}{fr:Frame}{callers:List Frame}{dying:Option Dying}{w:World}{d:Nat}
def a2Q{c:Prop}[Decidable c]{a b:GStep}(ha:d<=gwd a)(hb:d<=gwd b):d<=gwd (if c then a else b):=by split <;> assumption
def a1T{main:Bool}{v:Value}(h:d<=w.drawn):d<=gwd (doReturn p main fr callers dying v w):=by
 unfold doReturn
 repeat' split
 all_goals exact h
def a8m{fd:Nat}{t:ByteArray}{o:Outcome}(h:d<=w.drawn):d<=gwd (endWith w fd t o):=by
 unfold endWith;have hs:=d4L h (b8F w (.write fd t));generalize w.sys (.write fd t)=x at hs ⊢;obtain⟨r,w2⟩:=x;cases r
 case int n=>dsimp only;split <;> exact hs
 all_goals exact hs
def endWith_ended(w:World)(fd:Nat)(t:ByteArray)(o:Outcome):∃o' w' es,endWith w fd t o=.ended o' w' es:=by
 unfold endWith;generalize w.sys (.write fd t)=x;obtain⟨r,w2⟩:=x;cases r
 case int n=>dsimp only;split <;> exact⟨_,_,_,rfl⟩
 all_goals exact⟨_,_,_,rfl⟩
def a0f{m:String}(h:d<=w.drawn):d<=gwd (endThrow fr m w):=h
def a2j{v:Value}(h:d<=w.drawn):d<=gwd (endPrinting p fr v w):=by unfold endPrinting;simp only;split <;> exact h
def a5g{m:String}(h:d<=w.drawn):d<=gwd (endFatal p fr callers dying m w):=by
 unfold endFatal;simp only;split
 . rename_i e;exact d4L h (run_ok e)
 . rename_i e;exact d4L h (run_halt e)
 . rename_i e;exact d4L h (run_halt e)
def b3F{dy:Dying}{f:Fatal}(h:d<=w.drawn):d<=gwd (writeOn p fr dy f w):=by
 unfold writeOn;simp only;split
 . exact h
 . split
   all_goals (rename_i e;exact d4L h (a9M e))
def c7H{dy:Dying}(h:d<=w.drawn):d<=gwd (die p fr dy w):=by
 unfold die;split
 . exact b3F h
 . split
   . split
     . exact h
     . exact a8m h
   . simp only;split
     . exact h
     . split
       . rename_i e;exact d4L h (run_ok e)
       . rename_i e;exact d4L h (run_halt e)
     . rename_i t recv name _;have e:=d4L h (c1q p (invoke (.fn (.method name) #[]) #[.iface t recv]) w #[]);rw[R6];generalize (Sem.runT p (invoke (.fn (.method name) #[]) #[.iface t recv]) w #[]).1=r at e ⊢;split
       all_goals first
        |exact e
        |exact a2j e
        |exact h
     . exact h
def b99{g:Nat}(h:d<=w.drawn):d<=gwd (early p fr callers dying g w):=by
 have ny:∀w:World,d<=w.drawn->d<=gwd (match w.heap[g]? with
  |some (.pending c elem) =>
   .go { frame:=fr,callers,status:=.running,dying } { w with heap:=w.heap.setIfInBounds g (.cells c elem) }
  |_=>.ended (.stuck "early: the variable does not wait" (fr.pos p)) w):=fun w h=>by split <;> exact h
 unfold early;simp only
 repeat' split
 all_goals first
  |exact h
  |(have e:=run_ok ‹Sem.run p (choose (Question.early g)) w=Result.ok _ _›;exact d4L h e)
  |(have e:=run_halt ‹Sem.run p (choose (Question.early g)) w=Result.halt _ _›;exact d4L h e)
def a5C{df:Deferred}(h:d<=w.drawn):d<=gwd (callDeferred p fr callers dying df w):=by
 unfold callDeferred;refine a2Q h ?_;generalize hx:(invoke df.target df.args).runT p w #[]=x;obtain⟨r,es⟩:=x;have e:=d4L h (a9M hx);dsimp only;rw[R6];split
 all_goals first
  |exact e
  |exact a5g e
  |exact a0f e
  |(split <;> exact e)
def b8p{main:Bool}(h:d<=w.drawn):d<=gwd (unwind p main fr callers dying w):=by
 unfold unwind;split
 . split;rename_i r es e;have e:=d4L h (a9M e);rw[R6];split <;> exact e
 . exact a5C h
 . split
   . exact h
   . split
     . exact h
     . split
       . exact h
       . split
         . split
           . exact h
           . split
             . rename_i e;exact d4L h (run_ok e)
             . rename_i e;exact d4L h (run_halt e)
             . rename_i e;exact d4L h (run_halt e)
         . split
           . exact a2j h
           . exact h
   . split
     . exact a1T h
     . split;rename_i r es e;have e:=d4L h (a9M e);rw[R6];split
       . exact a1T e
       . exact e
       . exact e
def a2e{s:Sem Next}{listen main:Bool}(h:d<=w.drawn):d<=gwd (stepG.apply p listen fr callers dying s w):=by
 unfold stepG.apply;simp only;have hr:d<=rwd (if listen=true then s.runT p w #[]else(s.run p w,#[])).1:=by
  split
  . rw[Sem.runT_fst];exact d4L h (I7 p s w)
  . exact d4L h (I7 p s w)
 generalize (if listen=true then s.runT p w #[]else(s.run p w,#[]))=x at hr;obtain⟨r,es⟩:=x;dsimp only at hr ⊢;rw[R6];split
 all_goals first
  |exact hr
  |exact a5g hr
  |exact a0f hr
  |exact b99 hr
  |exact a2Q (a0f hr) hr
  |(split <;> first|exact hr|exact a0f hr)
def c4d{listen:Bool}(h:d<=w.drawn):d<=gwd (stepG.oper p listen fr callers dying w):=by
 unfold stepG.oper;split
 . exact h
 . split
   . exact a2e (main:=true) h
   . exact a2e (main:=true) h
set_option maxHeartbeats 4000000 in
def c3D{main listen:Bool}(h:d<=w.drawn):d<=gwd (stepG.exec p main listen fr callers dying w):=by
 have hl : ∀ (l : Nat) (jump : Option Code), d <= gwd (GStep.after (seen p fr.fn (Sem.runT p (Instr.endRound l jump) w #[]).2) (match (Sem.runT p (Instr.endRound l jump) w #[]).1 with
       |.ok v w=>doReturn p main fr callers dying v w
       |.halt _ w=>.ended (.stuck "range over a function: no such loop" (fr.pos p)) w)):=fun l jump=>by
  rw[R6];split <;> rename_i q
  . exact a1T (d4L h (runT_ok q))
  . exact d4L h (a92 q)
 unfold stepG.exec;simp only;split
 all_goals first
  |exact h
  |exact a2e (main:=true) h
  |exact a2Q (c4d h) h
  |(split <;> exact h)
  |(split <;> first|exact a2Q h h|exact h|exact hl _ _)
  |(unfold Option.elim;split <;> first|exact h|exact a2e (main:=true) h|(split <;> first|exact a2Q h h|exact h|exact hl _ _))
  |(rw[R6];split <;> rename_i q <;> first|exact a2e (main:=true) (d4L h (runT_ok q))|exact d4L h (runT_ok q)|exact d4L h (a92 q))
  |(refine a2Q h ?_;split <;> rename_i q <;> first|exact d4L h (run_ok q)|exact d4L h (run_halt q))
  |skip
def c0G{main listen:Bool}{g:Goroutine}(h:d<=w.drawn):d<=gwd (stepG p main g w listen):=by
 unfold stepG;split;split
 . exact c7H h
 . exact c3D h
 . exact b8p h
def swd:Stepped->Nat
 |.next m=>m.world.drawn
 |.ended _ w=>w.drawn
def b5H{c:Prop}[Decidable c]{a b:Stepped}(ha:d<=swd a)(hb:d<=swd b):d<=swd (if c then a else b):=by split <;> assumption
def b6d{gs:Array Goroutine}{rest:Rest}(h:d<=w.drawn):d<=swd (look p gs rest w):=by
 unfold look;split
 . simp only;refine b5H h ?_;split
   . exact h
   . split <;> rename_i q
     . have e:=d4L h (run_ok q);exact e
     . have e:=d4L h (run_halt q);exact e
     . have e:=d4L h (run_halt q);exact e
 . exact h
def c0k{m:Machine}{k:Nat}(h:d<=m.world.drawn):d<=swd (serve p m k):=by
 unfold serve;split
 . exact h
 . exact h
 . simp only;split <;> exact h
def drain_eq(w:World)(c:Nat):(drain w c).2.drawn=w.drawn:=by unfold drain;split <;> rfl
def a9D(m:Machine)(k:Nat)(t:Timer)(a b:Nat):(retime m k t a b).2.world.drawn=m.world.drawn:=by
 unfold retime;split;rename_i had world e;split at e
 . have:=drain_eq m.world ‹Nat›;rw[e]at this;exact this
 . cases e;rfl
def b40{m m':Machine}{op:TimerOp}{v:Value}(h:timerOp m op=.ok (v,m')):m'.world.drawn=m.world.drawn:=by
 have nm:∀(m:Machine)(var:Addr)(f:Nat->Timer->Value×Machine)(v:Value)(m':Machine)(D:Nat),(∀k t,(f k t).2.world.drawn=D)->timerOp.named m var f=.ok (v,m')->m'.world.drawn=D:=fun m var f v m' D hf h=>by
  unfold timerOp.named at h;split at h
  . rename_i k _;have:=hf k (m.rest.timers.getD k default);have h:=Except.ok.inj h;rw[h]at this;exact this
  . cases h
 unfold timerOp at h;split at h
 . split at h
   . cases h;rfl
   . split at h
     . split at h
       . cases h
       . cases h;rfl
     . cases h
 . exact nm m _ _ _ _ _ (fun k t=>a9D m k t _ _) h
 . split at h
   . rename_i m2 e;have e2:m2.world.drawn=m.world.drawn:=by
      unfold timerOp.opened at e;split at e
      . split at e <;> cases e;rfl
      . cases e;rfl
     rw[<- e2];exact nm m _ _ _ _ _ (fun k t=>a9D m2 k t _ _) h
   . cases h
 . cases h;rfl
def a8j{rest:Rest}{gs:Array Goroutine}{i:Nat}{g:Goroutine}{cases:Array CommCase}{blocking:Bool}{shape:CommShape}(h:d<=w.drawn):d<=swd (communicate p rest gs i g cases blocking shape w).1:=by
 unfold communicate;simp only;split
 . exact h
 . split
   . split
     . split
       . rename_i w2 e;have:w2.drawn=w.drawn:=by
          unfold waitingAt at e;split at e
          . split at e <;> cases e;rfl
          . cases e;rfl
         show d<=w2.drawn
         omega
       . exact h
     . exact h
   . split
     . rename_i q;exact d4L h (run_halt q)
     . rename_i q;have h2:=d4L h (run_ok q);split
       all_goals first
        |exact h2
        |(split <;> first|exact h2|(rename_i q2;have e:=d4L h2 (run_halt q2);exact e)|(split <;> first|exact h2|(rename_i q2;first|(have e:=d4L h2 (run_ok q2);exact e)|(have e:=d4L h2 (run_halt q2);exact e))))
def mwd:Move->Nat
 |.goroutine m _=>m.world.drawn
 |.machine s _=>swd s
def a3P{c:Prop}[Decidable c]{a b:Move}(ha:d<=mwd a)(hb:d<=mwd b):d<=mwd (if c then a else b):=by split <;> assumption
def a8l{m:Machine}(h:d<=m.world.drawn):d<=mwd (askOn p m):=by
 have pick:∀(rs:List Nat)(m:Machine),d<=m.world.drawn->d<=mwd (match(choose (.sched rs.length)).run p m.world with
   |.halt _ w=>.machine (.ended (.stuck "sched" "") w)
   |.ok k world =>
    if rs.length<=1 then .goroutine { m with world } (rs.getD k 0)else
    match(choose (.extern "sched.slice" 65536)).run p world with
    |.halt _ w=>.machine (.ended (.stuck "sched.slice" "") w)
    |.ok n world=>.goroutine { m with world,rest:={ m.rest with slice:=if n=0 then none else some (rs.getD k 0,n) } } (rs.getD k 0)):=fun rs m h=>by
  split <;> rename_i q
  . have e:=d4L h (run_halt q);exact e
  . have e:=d4L h (run_ok q);refine a3P e ?_;split <;> rename_i q2
    . have e2:=d4L e (run_halt q2);exact e2
    . have e2:=d4L e (run_ok q2);exact e2
 unfold askOn;dsimp only;split <;> rename_i q
 . have e:=d4L h (run_halt q);exact e
 . have e:=d4L h (run_ok q);refine a3P (c0k e) ?_;split
   . split
     . exact e
     . refine a3P e ?_;split
       . rename_i o w es hw;have hE:=a8m (d:=d) (fd:=2) (t:=bytes ("fatal error: " ++ (if m.gs.any (fun g=>g.status == .blocked || g.status == .parked)then "all goroutines are asleep - deadlock!" else "no goroutines (main called runtime.Goexit) - deadlock!")++"\n")) (o := .fatal (if m.gs.any (fun g => g.status == .blocked || g.status == .parked) then "all goroutines are asleep - deadlock!" else "no goroutines (main called runtime.Goexit) - deadlock!")) e;rw [hw] at hE; exact hE
       . rename_i hn;exfalso;obtain ⟨o, w', es, he⟩ := endWith_ended ‹World› 2 (bytes ("fatal error: " ++ (if m.gs.any (fun g => g.status == .blocked || g.status == .parked) then "all goroutines are asleep - deadlock!" else "no goroutines (main called runtime.Goexit) - deadlock!") ++ "\n")) (.fatal (if m.gs.any (fun g => g.status == .blocked || g.status == .parked) then "all goroutines are asleep - deadlock!" else "no goroutines (main called runtime.Goexit) - deadlock!"));exact hn _ _ _ he
   . split
     . exact pick _ { m with world:=_ } e
     . split <;> rename_i q2
       . have e2:=d4L e (run_halt q2);exact e2
       . have e2:=d4L e (run_ok q2);exact pick _ { m with world:=_ } e2
       . have e2:=d4L e (run_ok q2);exact e2
       . have e2:=d4L e (run_ok q2);exact pick _ (Machine.advanceTo { m with world:=_ } _) e2
def b5h{m:Machine}(h:d<=m.world.drawn):d<=mwd (Go.ask p m):=by
 unfold Go.ask;split
 . split <;> rename_i q
   . have e:=d4L h (run_halt q);exact e
   . have e:=b6d (p:=p) (gs:=m.gs) (rest:=m.rest) (d4L h (run_ok q));split
     . rename_i m2 e2;rw[e2]at e;exact a8l e
     . exact e
   . have e:=d4L h (run_ok q);exact a8l (m:={ m with world:=_ }) e
 . exact a8l h
def c48{m:Machine}(h:d<=m.world.drawn):d<=mwd (move p m):=by
 unfold move;split
 . exact a3P h h
 . split
   . exact a3P h (b5h (m:={ m with rest:=_ }) h)
   . exact b5h h
def b8i{m:Machine}{i:Nat}{listen:Bool}(h:d<=m.world.drawn):d<=swd (Go.runT p m i listen).1:=by
 unfold Go.runT;dsimp only;generalize hx:m.gs.swapAt! i { (default:Goroutine)with status:=.finished }=x;obtain⟨g,gs⟩:=x;dsimp only;have e:=c0G (p:=p) (main:=i == 0) (listen:=listen) (g:=g) h;generalize stepG p (i == 0) g m.world listen=s at e ⊢;cases s
 case ended=>exact e
 case comm=>dsimp only;exact a8j e
 case count=>exact b5H e e
 case collect=>exact b6d e
 case coroswitch =>
  dsimp only;split
  . exact e
  . exact e
  . exact e
 case timer =>
  dsimp only;split
  . rename_i q;have:=b40 q;exact d4L e (d8u this.symm)
  . exact e
  . exact e
  . exact e
 all_goals exact e
def c4k{m m':Machine}(h:step p m=.next m'):m.world.drawn<=m'.world.drawn:=by
 have e:m.world.drawn<=swd (step p m):=by
  unfold step stepT;have e:=c48 (p:=p) (d4R m.world.drawn);split
  . rename_i q;rw[q]at e;exact b8i e
  . rename_i q;rw[q]at e;exact e
 rw[h]at e;exact e
def Calls.drawn{K:FuncId}{args:Array Value}{R:Ending->World->Prop}(h:Calls p K args w R)(hr:∀w',¬R .outgrown w'):Calls p K args w fun e w'=>R e w'/\w.drawn<=w'.drawn:=by
 intro cs;obtain⟨e,w',fr,hR,hC,hf,hl⟩:=h cs;refine⟨e,w',fr,⟨hR,?_⟩,hC,hf,hl⟩;have st:∀m m':Machine,Steps p m m'->m.world.drawn<=m'.world.drawn:=fun m m' ⟨n,hn⟩=>by
  induction n generalizing m with
  |zero=>cases hn;exact d4R _
  |succ n ih =>
   unfold runN at hn;split at hn
   . rename_i m1 e;exact d4L (c4k e) (ih _ ⟨n,hn⟩ hn)
   . simp_all
 cases e with
 |outgrown=>exact absurd hR (hr _)
 |returned v=>exact st _ _ hC
 |panicked c=>exact st _ _ hC
end Go.Wk
end
namespace Go.Rx
open Go Go.Wk Go.Wl Go.Sort Go.Proofs
structure c2T(N:B6)(t:Nat) where
 enc:N.U t->List Value
 rd:∀{Z:Nat->Prop}{w:World}{cs:List Value}{x:N.U t},(N.tb t).r.rd Z w cs x->cs=enc x/\∀(Z':Nat->Prop)(w':World),(N.tb t).r.rd Z' w' (enc x) x
 one:∀x,∀v∈enc x,v.oneCell'=true
 len:∀x,(enc x).length=(N.tb t).r.sz
def c1n{W w' w2:World}(x:Ext [] W w')(hs:F1 w' w2)(hd:W.drawn<=w2.drawn):∃q os',w2=Sort.grow (W.drewN q) os':=by
 obtain⟨k,rfl⟩:=hs;refine⟨k-W.drawn,w'.heap.extract W.heap.size w'.heap.size,?_⟩;obtain⟨h,tp,dr,o,ou⟩:=W;obtain⟨h',tp',dr',o',ou'⟩:=w';obtain⟨x1,x2,x3,x4,x5⟩:=x;simp only at x1 x2 x3 x4 x5 hd ⊢;subst x1 x2 x3;unfold Sort.grow World.drewN;simp only[World.mk.injEq,and_true,true_and];refine⟨?_,by omega⟩;apply Array.ext_getElem?;intro i;rw[d7J];by_cases hi:i<h.size
 . rw[if_pos hi];exact x5 i hi (by simp)
 . rw[if_neg hi,Array.getElem?_extract];simp only[Nat.min_self];by_cases h2:i<h'.size
   . rw[if_pos (by omega)];congr 1;omega
   . rw[if_neg (by omega)];simp;omega
def c5Q(P:Program)(K:Nat):Prop:=∀(p:Option Addr)(cap:Nat)(fv:Value)(w:World),Calls P K #[.slice p 0 cap,fv] w fun e w'=>e=.returned (.tuple #[])/\w'=w
def b6h(P:Program)(K k g:Nat):Prop:=∀{α:Type} [Inhabited α] (enc:α->List Value),(∀x,(enc x).length=k)->(∀x,∀v∈enc x,v.oneCell'=true)->∀(cf:α->α->Int),SWO (ltOf cf)->∀(blk off cap:Nat)(d:Array α)(w:World),CmpLays P g #[] enc k cf blk off d.size w->HoldsK enc k w blk off d->blk<w.heap.size->d.size<4611686018427387904->(∀x y,ltOf cf x y=false->ltOf cf y x=false->x=y) ->
 Calls P K #[.slice (some ⟨blk,off,none⟩) d.size cap,.func (.func g) #[] #[]] w fun e w'=>e=.returned (.tuple #[])/\∃n os,w'=sortWorldK enc k w blk off n (d.toList.mergeSort fun x y=>!(ltOf cf) y x).toArray os
def a3v{α:Type}(cf:α->α->Int)(l:List α):List α:=l.mergeSort fun x y=>!(ltOf cf) y x
def a4v{α:Type}(cf:α->α->Int)(l:List α):(a3v cf l).length=l.length:=(d6i l _).length_eq
def c04{α:Type}{cf:α->α->Int}{l:List α}{x:α}:x∈a3v cf l↔x∈l:=(d6i l _).mem_iff
section
variable{P:Program}{N:B6}{T:M9}{G:a13}{K g t:Nat}{Z:Nat->Prop}{w:World}{l:List (N.U t)}{cf:N.U t->N.U t->Int}
def b38{w:World}{b n:Nat}{F:Array Value}{os:Array Obj}(hb:b<w.heap.size):Ext [b] w (Sort.grow (Sort.putRow id (Sort.ahead w n) b 0 F) os):=by
 refine⟨rfl,rfl,rfl,by simp[Sort.ahead],fun x hx hn=>?_⟩;have hne:x≠b:=by simpa using hn
 rw[d7u _ _ (by simpa using hx)];simp only[Sort.putRow,Sort.mapBlock,Sort.ahead,d5S];rw[if_neg (d5Q hne)]
def c0x(Y:c2T N t)(hpos:0<(N.tb t).r.sz)(hN:c5Q P K)(hS:b6h P K (N.tb t).r.sz g)(hO:SWO (ltOf cf))(hT:∀x∈l,∀y∈l,ltOf cf x y=false->ltOf cf y x=false->x=y)(hl:l.length<4611686018427387904){v:Value}{bs:List Nat}(hac:Ac (N.tb t).r Z w v l bs)
  (hc:∀(W:World)(x y:N.U t),Ext bs w W->(∀Z w,(N.tb t).r.rd Z w (Y.enc x) x)->(∀Z w,(N.tb t).r.rd Z w (Y.enc y) y)->F7 P g [.agg (Y.enc x).toArray,.agg (Y.enc y).toArray] W (fun v w'=>v=.int .i64 (cf x y)/\Ext [] W w')) :
  F7 P K [v,.func (.func g) #[] #[]] w fun v' w'=>v'=.tuple #[]/\Ac (N.tb t).r Z w' v (a3v cf l) bs/\Ext bs w w':=by
 intro w1 hs;have none:∀(p:Option Addr)(cap:Nat),v=.slice p 0 cap->l=[]->Calls P K #[v,.func (.func g) #[] #[]] w1 fun e w2=>∃v' w',e=.returned v'/\F1 w' w2/\v'=.tuple #[]/\Ac (N.tb t).r Z w' v (a3v cf l) bs/\Ext bs w w':=fun p cap hv h0=>by
  rw[hv];refine d5I (hN p cap _ w1) ?_;rintro e w2 ⟨rfl,rfl⟩;refine⟨_,w,rfl,hs,rfl,?_,Ext.refl _ _⟩;subst h0;rw[<- hv];have:a3v cf ([]:List (N.U t))=[]:=by unfold a3v;exact List.mergeSort_nil
  rw[this];exact hac
 have hac0:=hac;rcases hac with⟨rfl,rfl,rfl⟩|⟨b,cap,C,Ty,rfl,rfl,ho,hC,hle,hcell⟩
 . exact none _ _ rfl rfl
 by_cases h0:l=[]
 . exact none _ _ (by rw[h0];rfl) h0
 obtain⟨k,rfl⟩:=hs;have hlt:=ho.lt;obtain⟨z,hz,ho⟩:=ho;have hlp:0<l.length:=d7n.2 h0;have hget:∀i (h:i<l.length),(∀j,j<(N.tb t).r.sz->C[i*(N.tb t).r.sz+j]?=(Y.enc l[i])[j]?)/\∀Z w,(N.tb t).r.rd Z w (Y.enc l[i]) l[i]:=fun i hi=>by obtain⟨c,h1,h2,h3⟩:=hcell i hi;obtain⟨e,hr⟩:=Y.rd h3;subst e;exact⟨h2,hr⟩
 have hmem:∀x∈l,∀Z w,(N.tb t).r.rd Z w (Y.enc x) x:=fun x hx=>by obtain⟨i,hi,rfl⟩:=d5d hx;exact(hget i hi).2
 let α:={x:N.U t // x∈l}
 let enc:α->List Value:=fun x=>Y.enc x.1
 let cf':α->α->Int:=fun x y=>cf x.1 y.1
 have inh:Inhabited α:=⟨⟨l[0],d5X hlp⟩⟩;have hO':SWO (ltOf cf'):=⟨fun x=>hO.irrefl x.1,fun x y z=>hO.trans x.1 y.1 z.1,fun x y z=>hO.ntrans x.1 y.1 z.1⟩;have hsz:(l.attach.toArray).size=l.length:=by simp
 have hfl:∀(d:Array α)(i j:Nat)(hi:i<d.size),j<(N.tb t).r.sz->(flatK enc (N.tb t).r.sz d)[i*(N.tb t).r.sz+j]?=(Y.enc d[i].1)[j]? := fun d i j hi hj=>by
  have h1:i*(N.tb t).r.sz+j<d.size*(N.tb t).r.sz:=by have:=d4X (N.tb t).r.sz (show i+1<=d.size from hi);rw[d5P,d7F]at this;omega
  have h2:i*(N.tb t).r.sz+j<(flatK enc (N.tb t).r.sz d).size:=by rw[size_flatK];exact h1
  have h3:=get_flatK enc (N.tb t).r.sz d _ h1;rw[d6W i,Nat.mul_add_div hpos,Nat.div_eq_of_lt hj,d5V,Nat.mul_add_mod,Nat.mod_eq_of_lt hj,d6W _ i,d7S (flatK enc (N.tb t).r.sz d) _ h2,d7S d i hi]at h3;have h4:j<(enc d[i]).length:=by rw[show(enc d[i]).length=_ from Y.len _];exact hj
  rw[d6S h2,h3,d7S (enc d[i]) _ h4];exact(d4N h4).symm
 have hH:HoldsK enc (N.tb t).r.sz { w with drawn:=k } b 0 l.attach.toArray:=fun q hq=>by
  rw[size_flatK,hsz]at hq;have hi:q / (N.tb t).r.sz<l.length:=d6T (by rw[d6W];exact hq);have hj:q%(N.tb t).r.sz<(N.tb t).r.sz:=d7O _ hpos;have e:q / (N.tb t).r.sz*(N.tb t).r.sz+q%(N.tb t).r.sz=q:=by rw[d6W];exact d7q _ _
  have h1:=(hget _ hi).1 _ hj;have h2:=hfl l.attach.toArray (q / (N.tb t).r.sz) (q%(N.tb t).r.sz) (by rw[hsz];exact hi) hj;rw[e]at h1 h2;have hq2:q<(flatK enc (N.tb t).r.sz l.attach.toArray).size:=by rw[size_flatK,hsz];exact hq
  rw[d6S hq2]at h2;constructor
  . simp only[World.cell?,show({ w with drawn:=k }:World).heap[b]?=_ from ho];rw[d7S (flatK enc (N.tb t).r.sz l.attach.toArray) _ hq2];simp only[Option.isSome_none,d5D,if_false,id,d6m];rw[h2];rw[d5R];show C[q]?=(Y.enc (l.attach[q / (N.tb t).r.sz]'(by simpa using hi)).1)[q%(N.tb t).r.sz]?
    rw[List.getElem_attach];exact h1
  . have hq3:q<C.length:=by
      have:=d4X (N.tb t).r.sz hle;omega
    rcases hz with rfl|hz
    . simp[World.frozen?,show({ w with drawn:=k }:World).heap[b]?=_ from ho]
    . simp[World.frozen?,show({ w with drawn:=k }:World).heap[b]?=_ from ho];omega
 have hcmp:CmpLays P g #[] enc (N.tb t).r.sz cf' b 0 (l.attach.toArray).size { w with drawn:=k }:=fun m os dk hdk x y=>by
  have hx:Ext [b] w (sortWorldK enc (N.tb t).r.sz { w with drawn:=k } b 0 m dk os):=by have h:=b38 (w:={ w with drawn:=k }) (n:=m) (F:=flatK enc (N.tb t).r.sz dk) (os:=os) hlt;exact⟨h.os,h.tape,h.output,h.size,h.block⟩
  have h:=hc _ x.1 y.1 hx (hmem x.1 x.2) (hmem y.1 y.2) _ (F1.refl _);have h2:=Calls.drawn h (fun w' ⟨v',w3,e,_⟩=>by cases e);rw[Array.append_empty];exact d5I h2 fun e w2 ⟨⟨v',w3,e1,hs3,e2,x3⟩,hd⟩=>⟨by rw[e1,e2],c1n x3 hs3 hd⟩
 have hrun:=hS enc (fun x=>Y.len x.1) (fun x=>Y.one x.1) cf' hO' b 0 cap l.attach.toArray { w with drawn:=k } hcmp hH hlt (by rw[hsz];exact hl) (fun x y h1 h2=>Subtype.ext (hT x.1 x.2 y.1 y.2 h1 h2));rw[hsz]at hrun;refine d5I hrun ?_;rintro e w2 ⟨rfl,n,os,rfl⟩;have hmap:(l.attach.mergeSort fun x y=>!(ltOf cf') y x).map Subtype.val=a3v cf l:=by unfold a3v;have h:=List.map_mergeSort (r:=fun(x y:α)=>!(ltOf cf') y x) (s:=fun x y=>!(ltOf cf) y x) (f:=Subtype.val) (l:=l.attach) (fun a _ b _=>rfl);rw[List.attach_map_subtype_val]at h;exact h
 generalize hd:(l.attach.mergeSort fun x y=>!(ltOf cf') y x)=d' at hmap;have hdl:d'.length=l.length:=by rw[<- hd,(d6i _ _).length_eq];simp
 have hx:Ext [b] w (sortWorldK enc (N.tb t).r.sz { w with drawn:=k } b 0 n d'.toArray os):=by have h:=b38 (w:={ w with drawn:=k }) (n:=n) (F:=flatK enc (N.tb t).r.sz d'.toArray) (os:=os) hlt;exact⟨h.os,h.tape,h.output,h.size,h.block⟩
 refine⟨_,_,rfl,F1.refl _,rfl,.inr ⟨b,cap,(Sort.putCells id 0 (flatK enc (N.tb t).r.sz d'.toArray) C.toArray).toList,Ty,by rw[a4v],rfl,⟨z,?_,?_⟩,?_,by rw[a4v];exact hle,fun i hi=>?_⟩,hx⟩
 . simpa[Sort.putCells]using hz
 . unfold sortWorldK putRowK;rw[d7u _ _ (by simpa using hlt)];simp only[Sort.putRow,Sort.mapBlock,Sort.ahead,d5S,if_true];rw[show w.heap[b]?=_ from ho];rfl
 . simp[Sort.putCells,hC]
 . have hi':i<l.length:=by rw[<- a4v cf l];exact hi
   have hid:i<d'.toArray.size:=by simp[hdl,hi']
   have he:(a3v cf l)[i]=(d'.toArray[i]).1:=by simp[<- hmap]
   have hme:(a3v cf l)[i]∈l:=c04.1 (d5X hi);refine⟨Y.enc (a3v cf l)[i],Y.len _,fun j hj=>?_,hmem _ hme _ _⟩;have h1:i*(N.tb t).r.sz+j<l.length*(N.tb t).r.sz:=by have:=d4X (N.tb t).r.sz (show i+1<=l.length from hi');rw[d5P,d7F]at this;omega
   have h2:i*(N.tb t).r.sz+j<C.length:=by have:=d4X (N.tb t).r.sz hle;omega
   have h3:=hfl d'.toArray i j hid hj;have h4:i*(N.tb t).r.sz+j<(flatK enc (N.tb t).r.sz d'.toArray).size:=by rw[size_flatK];simp[hdl];exact h1
   rw[d6S h4]at h3;rw[he,<- h3];simp only[Sort.putCells,d7L,d7K,d5R];rw[d4N h2];simp only[d7a,d6d,true_and,d6m,if_pos h4,Nat.sub_zero,id];rw[d7S (flatK enc (N.tb t).r.sz d'.toArray) _ h4]
def b2W(Y:c2T N t)(hpos:0<(N.tb t).r.sz)(hN:c5Q P K)(hS:b6h P K (N.tb t).r.sz g)(hO:SWO (ltOf cf))(hT:∀x∈l,∀y∈l,ltOf cf x y=false->ltOf cf y x=false->x=y)
  (hc:∀(D:Nat->Prop)(W:World)(x y:N.U t),(∀b,D b->b<W.heap.size)->G.is D W->(∀Z w,(N.tb t).r.rd Z w (Y.enc x) x)->(∀Z w,(N.tb t).r.rd Z w (Y.enc y) y)->F7 P g [.agg (Y.enc x).toArray,.agg (Y.enc y).toArray] W (fun v w'=>v=.int .i64 (cf x y)/\Ext [] W w')) (hl:l.length<4611686018427387904) :
  M4 P N T G K [.acc 0,.fn g] [(0,.ac t l)] 2 (fun k=>True->k (.E7 []) [(0,.ac t (a3v cf l))] 2):=by
 intro kk hk ρ Z w vs B hfr hsep hG ha;have ok:=hsep.ok 0 (C7 N T ρ B 0 (.ac t l)) rfl;obtain⟨L,hL,hn,hlen,hac⟩:=ok.holds;have hF:(C7 N T ρ B 0 (.ac t l)).F=L.bs:=by show s5 N ρ 0 (.ac t l)=_;exact w8 hL
 obtain⟨v0,vr,rfl,h0,hr⟩:=e7.v8 ha;obtain⟨v1,vr2,rfl,h1,hr2⟩:=e7.v8 hr;have hnil:vr2=[]:=by generalize e:Value.tuple vr2.toArray=u at hr2;cases hr2 with|L6=>simpa using e
 subst hnil;cases h1;cases h0 with|acc hL' =>
 rw[hL]at hL';cases hL';have hnz:∀b∈L.bs,¬Z b:=fun b hb=>ok.N4 b (by rw[hF];exact hb);refine(c0x Y hpos hN hS hO hT hl hac fun W x y xW hx hy=>hc Z W x y (fun b hb=>by have:=hsep.zlt b hb;have:=xW.size;omega) (G.H7 hG xW (fun b hb hz=>absurd hz (hnz b hb)) fun b hz _=>hz) hx hy).mono ?_;rintro v w' ⟨rfl,hac',x⟩;have hll:=a4v cf l;have hs1:=Wl.Sep.D2 hsep 0 (t:=C7 N T ρ B 0 (.ac t l)) (t':=C7 N T ρ B 0 (.ac t (a3v cf l))) rfl (by rw[hF];exact x) ⟨L,hL,by omega,by omega,hac'⟩ s7 (fun b hb=>by have hb:b∈s5 N ρ 0 (.ac t (a3v cf l)):=hb;rw[w8 hL]at hb;exact⟨.inl (by rw[hF];exact hb),hac'.lt b hb⟩) rfl
 exact⟨ρ,Z,.E7 [],[(0,.ac t (a3v cf l))],2,hs1,hfr,fun _ _ h=>h,fun _ h=>h,fun _ h=>.inl h,.L6,hk trivial⟩
end
end Go.Rx
namespace Go.Proofs.YtapnoejokajcoaaGreatDoor
open Go Go.Wk Go.Wl Go.Rx Go.Re Go.Li Go.Qu Go.Fo Go.Proofs Go.RowKit
def b9H{a b:Ins}:a7T a b<0↔b8 a.Start<b8 b.Start∨(b8 a.Start=b8 b.Start/\b8 a.u9<b8 b.u9):=by have h0:a0R a.Start b.Start=0↔b8 a.Start=b8 b.Start:=b7z;have h1:a0R a.Start b.Start<0↔b8 a.Start<b8 b.Start:=a4n;have h2:a0R a.u9 b.u9<0↔b8 a.u9<b8 b.u9:=a4n;unfold a7T;split <;> omega
def ltT(a b:Tm):ltOf a0R a b=decide (b8 a<b8 b):=d5r.2 a4n
def ltN(a b:Ins):ltOf a7T a b=decide (b8 a.Start<b8 b.Start∨(b8 a.Start=b8 b.Start/\b8 a.u9<b8 b.u9)):=d5r.2 b9H
def d2O:Go.Sort.SWO (ltOf a0R) where
 irrefl x:=by rw[ltT];simp
 trans x y z h1 h2:=by rw[ltT]at *;simp at *;omega
 ntrans x y z h1 h2:=by rw[ltT]at *;simp at *;omega
def d2Z:Go.Sort.SWO (ltOf a7T) where
 irrefl x:=by rw[ltN];simp
 trans x y z h1 h2:=by rw[ltN]at *;simp only[d5J]at *;omega
 ntrans x y z h1 h2:=by rw[ltN]at *;simp only[decide_eq_false_iff_not]at *;omega
def a8y(x:Ins):List Value:=a1y x.Start++(a1y x.End++(a1y x.u9++[.bool x.Over]))
def a6g{Z:Nat->Prop}{w:World}{cs:List Value}{x:Tm}(h:dTm.rd Z w cs x):cs=a1y x/\∀(Z':Nat->Prop)(w':World),dTm.rd Z' w' (a1y x) x:=by obtain⟨c0,_,rfl,⟨d0,_,rfl,g0,d1,d2,rfl,g1,g2⟩,c1,_,rfl,h1,c2,_,rfl,h2,c3,_,rfl,h3,c4,c5,rfl,h4,h5⟩:=h;have k0:=g0.1;have k1:=g1.1;have k2:=g2.1;have e1:=h1.1;have e2:=h2.1;have e3:=h3.1;have e4:c4=_:=h4;have e5:c5=_:=h5;subst k0 k1 k2 e1 e2 e3 e4 e5;exact⟨rfl,fun Z' w'=>⟨_,_,rfl,⟨_,_,rfl,g0,_,_,rfl,g1,g2⟩,_,_,rfl,h1,_,_,rfl,h2,_,_,rfl,h3,_,_,rfl,h4,h5⟩⟩
def c2e{Z:Nat->Prop}{w:World}{cs:List Value}{x:Ins}(h:b7K.rd Z w cs x):cs=a8y x/\∀(Z':Nat->Prop)(w':World),b7K.rd Z' w' (a8y x) x:=by obtain⟨c0,_,rfl,h0,c1,_,rfl,h1,c2,c3,rfl,h2,h3⟩:=h;obtain⟨rfl,g0⟩:=a6g h0;obtain⟨rfl,g1⟩:=a6g h1;obtain⟨rfl,g2⟩:=a6g h2;have e3:c3=_:=h3;subst e3;exact⟨rfl,fun Z' w'=>⟨_,_,rfl,g0 Z' w',_,_,rfl,g1 Z' w',_,_,rfl,g2 Z' w',h3⟩⟩
def a4B(x:Tm):∀v∈a1y x,v.oneCell'=true:=fun v hv=>by simp only[a1y,d4S,List.not_mem_nil,or_false]at hv;rcases hv with rfl|rfl|rfl|rfl|rfl|rfl|rfl|rfl <;> rfl
def EcT:c2T U 26:=⟨a1y,a6g,a4B,fun _=>rfl⟩
def EcN:c2T U 48:=⟨a8y,c2e,fun(x:Ins) v hv=>by
 simp only[a8y,d4Z,d4G]at hv;rcases hv with hv|hv|hv|rfl
 . exact a4B _ v hv
 . exact a4B _ v hv
 . exact a4B _ v hv
 . rfl,fun _=>rfl⟩
def c3C(D:Nat->Prop)(W:World)(x y:Tm)(hD:∀b,D b->b<W.heap.size)(hG:Gl.is D W)(hx:∀Z w,dTm.rd Z w (a1y x) x)(hy:∀Z w,dTm.rd Z w (a1y y) y):F7 Tryz.prog 61 [.agg (a1y x).toArray,.agg (a1y y).toArray] W (fun v w'=>v=.int .i64 (a0R x y)/\Ext [] W w'):=by have h:=Ntc_ok.T5 61 _ [.agg (leaves (y26.sv x)),.agg (leaves (y26.sv y))] 0 ⟨[],[],.int .i64 (a0R (j6 x) (j6 y)),[]⟩ rfl rfl rfl rfl trivial;rw[y6,y6]at h;refine(h D W [.agg (a1y x).toArray,.agg (a1y y).toArray] hD hG (.I1 (y26.sv_ok (hx D W)) (.I1 (y26.sv_ok (hy D W)) .L6))).mono ?_;rintro v w' ⟨e,hr,_⟩;cases hr;exact⟨rfl,e⟩
def c3w(D:Nat->Prop)(W:World)(x y:Ins)(hD:∀b,D b->b<W.heap.size)(hG:Gl.is D W)(hx:∀Z w,b7K.rd Z w (a8y x) x)(hy:∀Z w,b7K.rd Z w (a8y y) y):F7 Tryz.prog 30 [.agg (a8y x).toArray,.agg (a8y y).toArray] W (fun v w'=>v=.int .i64 (a7T x y)/\Ext [] W w'):=by have h:=Nic_ok.T5 30 _ [.agg (leaves (y48.sv x)),.agg (leaves (y48.sv y))] 0 ⟨[],[],.int .i64 (a7T (etN x) (etN y)),[]⟩ rfl rfl rfl rfl trivial;rw[B7,B7]at h;refine(h D W [.agg (a8y x).toArray,.agg (a8y y).toArray] hD hG (.I1 (y48.sv_ok (hx D W)) (.I1 (y48.sv_ok (hy D W)) .L6))).mono ?_;rintro v w' ⟨e,hr,_⟩;cases hr;exact⟨rfl,e⟩
def b6L:b6h Tryz.prog 60 8 61:=fun enc hk h1 cf hO blk off cap d w hcmp hH hblk hsz hT=>Tryz.b4O 8 (a4A (P:=Tryz.prog) (T:=26) (by kernel_rfl)) (M3 (P:=Tryz.prog) (T:=26) (by kernel_rfl)) enc hk h1 cf hO 61 #[] blk off cap d w Tryz.call61 hcmp hH hblk hsz hT
def c9P:b6h Tryz.prog 29 25 30:=fun enc hk h1 cf hO blk off cap d w hcmp hH hblk hsz hT=>Tryz.b4s 25 (a4A (P:=Tryz.prog) (T:=48) (by kernel_rfl)) (M3 (P:=Tryz.prog) (T:=48) (by kernel_rfl)) enc hk h1 cf hO 30 #[] blk off cap d w Tryz.call30 hcmp hH hblk hsz hT
def fST:FC U:=⟨[],[],fun a its=>match a,its with
 |[.acc 0,.fn 61],[(0,.ac 26 l)]=>some ⟨[List.length (α:=Tm) l<=1000000,∀x∈(l:List Tm),∀y∈(l:List Tm),b8 x=b8 y->x=y],[],.E7 [],[(0,.ac (N:=U) 26 (a7z l))],2⟩
 |_,_=>none⟩
def fSN:FC U:=⟨[],[],fun a its=>match a,its with
 |[.acc 0,.fn 30],[(0,.ac 48 l)]=>some ⟨[List.length (α:=Ins) l<=1000000,∀x∈(l:List Ins),∀y∈(l:List Ins),b8 x.Start=b8 y.Start->b8 x.u9=b8 y.u9->x=y],[],.E7 [],[(0,.ac (N:=U) 48 (a9T l))],2⟩
 |_,_=>none⟩
def fST_ok(args:List (SV U))(its:c7 U)(r:FR U)(h:fST.C args its=some r)(ho:p9 r.ob):M4 Tryz.prog U eT Gl 60 args its (2*its.length) (fun k=>p9 r.hy->k r.v r.its r.n):=by
 unfold fST at h;simp only at h;split at h
 . rename_i l;cases h;refine b2W (N:=U) (t:=26) EcT (by show 0<8;decide) Tryz.b32 b6L d2O (fun(x:Tm) hx y hy h1 h2=>ho.2.1 x hx y hy ?_) c3C (by have:=ho.1;show List.length (α:=Tm) l<_;omega);have h1:=d6N ((ltT x y).symm.trans h1);have h2:=d6N ((ltT y x).symm.trans h2);omega
 . cases h
def fSN_ok(args:List (SV U))(its:c7 U)(r:FR U)(h:fSN.C args its=some r)(ho:p9 r.ob):M4 Tryz.prog U eT Gl 29 args its (2*its.length) (fun k=>p9 r.hy->k r.v r.its r.n):=by
 unfold fSN at h;simp only at h;split at h
 . rename_i l;cases h;refine b2W (N:=U) (t:=48) EcN (by show 0<25;decide) Tryz.b1m c9P d2Z (fun(x:Ins) hx y hy h1 h2=>?_) c3w (by have:=ho.1;show List.length (α:=Ins) l<_;omega);have h1:=d6N ((ltN x y).symm.trans h1);have h2:=d6N ((ltN y x).symm.trans h2);exact ho.2.1 x hx y hy (by omega) (by omega)
 . cases h
def N60:Env:=((d1t.a1C 60 fST).a1C 29 fSN)
def N60_ok:c8 N60:=((NcmT_ok.a1C Tryz.call60 fST_ok).a1C Tryz.call29 fSN_ok)
def d0w:Env:=N60.y7 56 Tryz.f56
def NI56_ok:c8 d0w:=N60_ok.y7 Tryz.call56 Tryz.func56
def c60:Env:=d0w.y7 100 Tryz.f100
def NI100_ok:c8 c60:=NI56_ok.y7 Tryz.call100 Tryz.func100
def c9N:Env:=c60.y7 58 Tryz.f58
def NI58_ok:c8 c9N:=NI100_ok.y7 Tryz.call58 Tryz.func58
end Go.Proofs.YtapnoejokajcoaaGreatDoor
namespace Go.Qu
open Go Go.Wk Go.Wl Go.Rx Go.Re Go.Li Go.Fo
noncomputable section
def exN:y8:=[101,120,112,97,110,100]
def tmR(o:F3)(f t:Int)(r:Rl):List Tm×l8:=J3 o.Main.Start.Time r (P8 (f-172800-A8 o.Main) o.Main.Start.Time) (P8 (t+172800) o.Main.Start.Time)
def tmE(qa:Nat)(o:F3)(f t:Int):List Tm->List Rl->List Tm×l8
 |l,[]=>(l,.nil)
 |_,r::rs=>if(tmR o f t r).2=.nil then tmE qa o f t (tmR o f t r).1 rs else([],.p qa exN (tmR o f t r).2.n0)
def tmA(qa:Nat)(o:F3)(f t:Int):List Tm:=((tmE qa o f t [o.Main.Start.Time] o.Main.b9).1++o.Main.o6.map I8.Time).filter fun t=>!X7 o t
def P4(qa:Nat)(o:F3)(f t:Int):List Tm×l8:=if(tmE qa o f t [o.Main.Start.Time] o.Main.b9).2=.nil then(ded (a7z (tmA qa o f t)),.nil)else([],(tmE qa o f t [o.Main.Start.Time] o.Main.b9).2)
def b1v(l:List Tm):Prop:=∀x∈l,∀y∈l,b8 x=b8 y->x=y
def c1D(s:Tm)(r:Rl)(a b:Tm):(J3 s r a b).2=.nil∨(J3 s r a b).2=.no (J3 s r a b).2.n0:=by
 unfold J3;split
 . exact .inr rfl
 . split
   . exact .inr rfl
   . unfold b3g;split
     . exact .inr rfl
     . split
       . exact .inr rfl
       . exact .inl rfl
def b16(l:List Tm):(a7z l).length=l.length:=(d6i l _).length_eq
def a4z{l:List Tm}{x:Tm}:x∈a7z l↔x∈l:=(d6i l _).mem_iff
def a9x{α:Type}[Inhabited α]{p:α->Bool}{l:List α}{j:Int}(j0:0<=j)(j1:j<l.length):(l.take (j+1).toNat).filter p=if p (ix l j)=true then(l.take j.toNat).filter p++[ix l j]else(l.take j.toNat).filter p:=by rw[T7 j0 j1,d7d];cases h:p (ix l j) <;> simp[h]
def a7x{α:Type}[Inhabited α]{p:α->Bool}{l:List α}{n:Int}(n0:0<=n)(n1:n<=l.length)(h:q7 n fun j=>p (ix l j)=true):(l.take n.toNat).filter p=l.take n.toNat:=by rw[d7o];intro x hx;obtain⟨i,hi,rfl⟩:=d5d hx;rw[d4Y]at hi;have:=h i (by omega) (by omega);dsimp only at this;rw[u6 (by omega)]at this;rw[d6Q];simpa using this
def a65{α:Type}[Inhabited α]{l:List α}{i:Int}(i0:0<=i)(hi:i<l.length):l.drop i.toNat=ix l i::l.drop (i+1).toNat:=by rw[show(i+1).toNat=i.toNat+1 by omega,u6 (by omega)];exact d6h (by omega)
end
end Go.Qu
namespace Go.Proofs.YtapnoejokajcoaaGreatDoor
open Go Go.Wk Go.Wl Go.Rx Go.Re Go.Li Go.Qu Go.Fo 
attribute [local irreducible] i7
def anti:Nat->D1:=fun|26=>⟨78,fun|12=>some ⟨[3,58,59],[.slot 9 (.acc 26),.slot 60 (.int .i64)]⟩|4=>some ⟨[1,2,3,8,24,25],[.slot 9 (.acc 26),.slot 26 (.int .i64)]⟩|_=>none,fun|17=>some ⟨[],[.slot 9 (.acc 26)]⟩|_=>none⟩|56=>⟨42,fun|5=>some ⟨[0,1],[.slot 5 (.int .i64),.slot 6 (.int .i64),.cont 0 26]⟩|_=>none,fun|2=>some ⟨[0,1],[.slot 5 (.int .i64)]⟩|_=>none⟩|100=>⟨19,fun|2=>some ⟨[0,1,7],[.slot 8 (.int .i64)]⟩|_=>none,nn⟩|58=>⟨7,nn,nn⟩|_=>⟨0,nn,nn⟩
def b3N(f:Int)(o:F3):=j6 (P8 (f-172800-A8 (etI o.Main)) (j6 o.Main.Start.Time))
def b59(t:Int)(o:F3):=j6 (P8 (t+172800) (j6 o.Main.Start.Time))
def Vti(o:F3)(f:Int)(t:Int)(Q:List Tm->l8->Prop):Prop:=
∃(I:List Tm->Int->Prop),∃(m:List Tm->Int->Nat),I [j6 o.Main.Start.Time] 0/\∀(x:List Tm)(x_1:Int),I x x_1->(bR (x_1<(↑o.Main.b9.length:Int)) (0<=x_1/\x_1<(↑o.Main.b9.length:Int)/\(c6 (ix o.Main.b9 x_1).j8->c6 (ix o.Main.b9 x_1).Interval->c6 (ix o.Main.b9 x_1).Count->c6 (ix o.Main.b9 x_1).v7->c6 (f-172800)/\c6 (f-172800-A8 (etI o.Main))/\c6 (t+172800)/\F6 (L7 (ix o.Main.b9 x_1))=true/\(bR ((J3 (j6 o.Main.Start.Time) (L7 (ix o.Main.b9 x_1)) (b3N f o) (b59 t o)).snd≠l8.nil) ((J3 (j6 o.Main.Start.Time) (L7 (ix o.Main.b9 x_1)) (b3N f o) (b59 t o)).snd=l8.no (J3 (j6 o.Main.Start.Time) (L7 (ix o.Main.b9 x_1)) (b3N f o) (b59 t o)).snd.n0/\Q [] (l8.p (105:Nat) ([101,120,112,97,110,100]:List UInt8) (J3 (j6 o.Main.Start.Time) (L7 (ix o.Main.b9 x_1)) (b3N f o) (b59 t o)).snd.n0)) (c6 (x_1+1)/\I (J3 (j6 o.Main.Start.Time) (L7 (ix o.Main.b9 x_1)) (b3N f o) (b59 t o)).fst (x_1+1)/\m (J3 (j6 o.Main.Start.Time) (L7 (ix o.Main.b9 x_1)) (b3N f o) (b59 t o)).fst (x_1+1)<m x x_1)))) (∃(I:List Tm->Int->Prop),∃(m:List Tm->Int->Nat),I x 0/\∀(x:List Tm)(x_2:Int),I x x_2->(bR (x_2<(↑o.Main.o6.length:Int)) (0<=x_2/\x_2<(↑o.Main.o6.length:Int)/\(x.length+[j6 (ix o.Main.o6 x_2).Time].length)*(some (56:Nat)).getD (0:Nat)<=140737488355328/\c6 (x_2+1)/\I (x++[j6 (ix o.Main.o6 x_2).Time]) (x_2+1)/\m (x++[j6 (ix o.Main.o6 x_2).Time]) (x_2+1)<m x x_2) (∃(J:List Tm->Prop),((↑x.length:Int)<=1000000/\∃(J_1:Int->Prop),(∃(I:Int->Prop),∃(m:Int->Nat),I 0/\∀(x_3:Int),I x_3->(bR (x_3<(↑x.length:Int)) (0<=x_3/\x_3<(↑x.length:Int)/\(c6 (ix x x_3).Day.Year->c6 (ix x x_3).Day.Month->c6 (ix x x_3).Day.Date->c6 (ix x x_3).Hour->c6 (ix x x_3).Min->c6 (ix x x_3).D6->(↑o.Main.s6.length:Int)<=1000000/\(bR (X7 (V9 o) (j6 (ix x x_3))=true) (J_1 x_3) (c6 (x_3+1)/\I (x_3+1)/\m (x_3+1)<m x_3)))) (J_1 (-1:Int))))/\∀(x_3:Int),J_1 x_3->(bR (x_3=(-1:Int)) (J x) (c6 (x_3+1)/\∃(I:Int->Int->List Tm->Prop),∃(m:Int->Int->List Tm->Nat),I x_3 (x_3+1) x/\∀(x x_4:Int)(x_5:List Tm),I x x_4 x_5->(bR (x_4<(↑x_5.length:Int)) (0<=x_4/\x_4<(↑x_5.length:Int)/\(c6 (ix x_5 x_4).Day.Year->c6 (ix x_5 x_4).Day.Month->c6 (ix x_5 x_4).Day.Date->c6 (ix x_5 x_4).Hour->c6 (ix x_5 x_4).Min->c6 (ix x_5 x_4).D6->(↑o.Main.s6.length:Int)<=1000000/\(bR (¬X7 (V9 o) (j6 (ix x_5 x_4))=true) (0<=x/\x<(↑x_5.length:Int)/\c6 (x+1)/\c6 (x_4+1)/\I (x+1) (x_4+1) (x_5.set x.toNat (j6 (ix x_5 x_4)))/\m (x+1) (x_4+1) (x_5.set x.toNat (j6 (ix x_5 x_4)))<m x x_4 x_5) (c6 (x_4+1)/\I x (x_4+1) x_5/\m x (x_4+1) x_5<m x x_4 x_5)))) (0<=x/\x<=(↑x_5.length:Int)/\0<=x/\x<=(↑(List.take ((some x).getD 0).toNat x_5++List.replicate (none.getD (↑x_5.length:Int)-(some x).getD 0).toNat (Tm.mk (Dy.mk 0 0 0) 0 0 0 false false)++List.drop (((some x).getD 0).toNat+(none.getD (↑x_5.length:Int)-(some x).getD 0).toNat) x_5).length:Int)/\J (List.take ((some x).getD (↑(List.take ((some x).getD 0).toNat x_5++List.replicate (none.getD (↑x_5.length:Int)-(some x).getD 0).toNat (Tm.mk (Dy.mk 0 0 0) 0 0 0 false false)++List.drop (((some x).getD 0).toNat+(none.getD (↑x_5.length:Int)-(some x).getD 0).toNat) x_5).length:Int)-none.getD 0).toNat (List.take ((some x).getD 0).toNat x_5++List.replicate (none.getD (↑x_5.length:Int)-(some x).getD 0).toNat (Tm.mk (Dy.mk 0 0 0) 0 0 0 false false)++List.drop (((some x).getD 0).toNat+(none.getD (↑x_5.length:Int)-(some x).getD 0).toNat) x_5)))))))/\∀(x:List Tm),J x->x.length<=1000000/\(∀(x_3:Tm),x_3∈x->∀(y:Tm),y∈x->b8 x_3=b8 y->x_3=y)/\(↑(a7z x).length:Int)<=1000000/\Q (ded (a7z x)) l8.nil))))
def pti(o:F3)(f:Int)(t:Int)(hf:a2g o.Main)(hn:0<=A8 o.Main/\A8 o.Main<=400000000000)(hff:0<=f/\f<315537897600)(htt:0<=t/\t<315537897600)(hT:b1v (tmA 105 o f t)):Vti o f t (fun y0 y1=>y0=(P4 105 o f t).1/\y1=(P4 105 o f t).2):=by
 unfold Vti b59 b3N;simp only[y6,A7,B3,C9,C6,C5,C4,C3,C2,D0,B7,d4F,d7h,d8w,d8v];obtain⟨f1,f2,f3,f4,f5,f6,f7,f8,f9,f10,f11⟩:=hf;refine⟨fun(x:List Tm) i=>0<=i/\i<=o.Main.b9.length/\x.length<=1000/\tmE 105 o f t [o.Main.Start.Time] o.Main.b9=tmE 105 o f t x (o.Main.b9.drop i.toNat),fun _ i=>((o.Main.b9.length:Int)-i).toNat,⟨by omega,by omega,by show 1<=1000;decide,rfl⟩,?_⟩;rintro x i ⟨i0,i1,xl,hx⟩;refine⟨fun hi=>?_,fun hi=>?_⟩
 . have hE:=c1D o.Main.Start.Time (ix o.Main.b9 i) (P8 (f-172800-A8 o.Main) o.Main.Start.Time) (P8 (t+172800) o.Main.Start.Time);have hl:=@b5E o.Main.Start.Time (P8 (f-172800-A8 o.Main) o.Main.Start.Time) (P8 (t+172800) o.Main.Start.Time) (ix o.Main.b9 i);rw[a65 i0 hi,tmE,tmR]at hx;refine⟨i0,hi,fun _ _ _ _=>⟨⟨by omega,by omega⟩,⟨by omega,by omega⟩,⟨by omega,by omega⟩,f8 _ (u7 i0 hi),fun he=>?_,fun he=>⟨⟨by omega,by omega⟩,⟨by omega,by omega,by omega,?_⟩,by dsimp only;omega⟩⟩⟩
   . rw[if_neg he]at hx;unfold P4;rw[hx,if_neg (fun e=>by cases e)];exact⟨hE.resolve_left he,rfl,rfl⟩
   . rw[if_pos (d4y.1 he)]at hx;exact hx
 rw[d6g (by omega),tmE]at hx;clear i0 i1 hi i;refine⟨fun(y:List Tm) i=>0<=i/\i<=o.Main.o6.length/\y=x++(o.Main.o6.take i.toNat).map I8.Time/\(y.length:Int)=x.length+i,fun _ i=>((o.Main.o6.length:Int)-i).toNat,⟨by omega,by omega,by simp,by omega⟩,?_⟩;rintro y i ⟨i0,i1,hy,yl⟩;refine⟨fun hi=>⟨i0,hi,by show(y.length+1)*56<=_;omega,⟨by omega,by omega⟩,⟨by omega,by omega,?_,?_⟩,by dsimp only;omega⟩,fun hi=>?_⟩
 . rw[T7 i0 hi,d7b,hy,d5b];rfl
 . rw[d4E];simp only[d6P];omega
 have hy2:y=x++o.Main.o6.map I8.Time:=by rw[hy,d5e (by omega)]
 have ha:tmA 105 o f t=y.filter fun t=>!X7 o t:=by unfold tmA;rw[hx,hy2]
 rw[ha]at hT;have hS:P4 105 o f t=(ded (a7z (y.filter fun t=>!X7 o t)),.nil):=by unfold P4;rw[hx,if_pos rfl,ha]
 rw[hS];have yl2:(y.length:Int)<=10000:=by omega
 clear hx hy hy2 ha hS i0 i1 hi yl i;have ht:y.take (y.length:Int).toNat=y:=d5e (by omega);refine⟨fun z=>z=y.filter fun t=>!X7 o t,⟨by omega,fun x=>(x=-1/\q7 y.length fun j=>(!X7 o (ix y j))=true)∨(0<=x/\x<y.length/\X7 o (ix y x)=true/\q7 x fun j=>(!X7 o (ix y j))=true),⟨fun i=>0<=i/\i<=y.length/\q7 i fun j=>(!X7 o (ix y j))=true,fun i=>((y.length:Int)-i).toNat,⟨by omega,by omega,q7.zero⟩,?_⟩,?_⟩,?_⟩
 . rintro i ⟨i0,i1,ai⟩;refine⟨fun hi=>⟨i0,hi,fun _ _ _ _ _ _=>⟨by omega,fun h=>.inr ⟨i0,hi,h,ai⟩,fun h=>⟨⟨by omega,by omega⟩,⟨by omega,by omega,ai.succ ?_⟩,by dsimp only;omega⟩⟩⟩,fun hi=>.inl ⟨rfl,ai.le (by omega)⟩⟩;rw[d5l]at h;rw[h];rfl
 . rintro x hx;refine⟨fun e=>?_,fun e=>?_⟩
   . rcases hx with⟨_,ai⟩|⟨x0,_⟩
     . have:=a7x (p:=fun t=>!X7 o t) (by omega) (by omega) ai;rw[ht]at this;exact this.symm
     . omega
   obtain⟨x0,x1,hb,ai⟩:=hx.resolve_left (fun h=>e h.1);refine⟨⟨by omega,by omega⟩,fun(i j:Int)(L:List Tm)=>0<=i/\i<j/\j<=y.length/\L.length=y.length/\L.take i.toNat=(y.take j.toNat).filter (fun t=>!X7 o t)/\∀q:Int,j<=q->q<y.length->ix L q=ix y q,fun _ j _=>((y.length:Int)-j).toNat,⟨x0,by omega,by omega,rfl,?_,fun _ _ _=>rfl⟩,?_⟩
   . rw[a9x x0 x1,if_neg (by rw[hb];decide),a7x (p:=fun t=>!X7 o t) x0 (by omega) ai]
   rintro i j L ⟨i0,ij,j1,hL,hl,hq⟩;refine⟨fun hj=>?_,fun hj=>?_⟩
   . have e1:=hq j (by omega) (by omega);rw[e1];have fi:=a9x (p:=fun t=>!X7 o t) (l:=y) (j:=j) (by omega) (by omega);refine⟨by omega,hj,fun _ _ _ _ _ _=>⟨by omega,fun h=>⟨i0,by omega,⟨by omega,by omega⟩,⟨by omega,by omega⟩,⟨by omega,by omega,by omega,by rw[d7s];exact hL,?_,fun q q0 q1=>?_⟩,by dsimp only;omega⟩,fun h=>⟨⟨by omega,by omega⟩,⟨i0,by omega,by omega,hL,?_,fun q q0 q1=>hq q (by omega) q1⟩,by dsimp only;omega⟩⟩⟩
     . rw[show(i+1).toNat=i.toNat+1 by omega,take_set (by omega),fi,if_pos (by rw[d5l]at h;rw[h];rfl),hl]
     . rw[a9C _ (by omega) (by omega) (by omega)];exact hq q (by omega) q1
     . rw[fi,if_neg (by rw[d4y.1 h];decide),hl]
   . have e2:y.take j.toNat=y:=d5e (by omega);rw[e2]at hl;refine⟨by omega,by omega,by omega,?_,?_⟩
     . simp only[d4E,d4Y,d5H,d6D];omega
     . rw[a7N (by omega),hl]
 . rintro z hz;have zl:z.length<=y.length:=by rw[hz];exact d7M _ _
   rw[hz]at zl ⊢;exact⟨by omega,hT,by rw[b16];omega,rfl,rfl⟩
def Nti:Env:=c9N.kD 26 (r38.c (rI.c (rI.c .n))) (.acc 26) (.err) (fun y=>[a2g y.1.Main,(0<=A8 y.1.Main/\A8 y.1.Main<=400000000000),(0<=y.2.1/\y.2.1<315537897600),(0<=y.2.2.1/\y.2.2.1<315537897600),b1v (tmA 105 y.1 y.2.1 y.2.2.1)]) (fun y=>((P4 105 y.1 y.2.1 y.2.2.1).1:List Tm)) (fun y=>((P4 105 y.1 y.2.1 y.2.2.1).2:l8))
def Nti_ok:c8 Nti:=NI58_ok.kD Tryz.call26 Tryz.func26 (inlHN_ok NI58_ok H0_ok anti 5) (an:=anti 26) (fun _=>rfl) fun y ho=>kc (pti y.1 y.2.1 y.2.2.1 ho.1 ho.2.1 ho.2.2.1 ho.2.2.2.1 ho.2.2.2.2.1) (by kernel_rfl)
end Go.Proofs.YtapnoejokajcoaaGreatDoor
