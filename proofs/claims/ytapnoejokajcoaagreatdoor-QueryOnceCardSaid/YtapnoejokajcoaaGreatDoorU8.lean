/- 79 texts, one behind the other. -/
import Derived.Test.YtapnoejokajcoaaGreatDoorU7
import Derived.Test.YtapnoejokajcoaaGreatDoorU3
import Derived.Test.YtapnoejokajcoaaGreatDoorU6
import Derived.Shelf.SlSortCmp.NoneTotal
import Derived.Ground.SlsfProg
import Derived.Test.YtapnoejokajcoaaGreatDoorProg
import Derived.Calls
import GoSem.Step
import Derived.RunT
set_option linter.defProp false
set_option linter.unusedVariables false
set_option linter.unusedSimpArgs false
set_option maxRecDepth 100000
noncomputable section
def d7C:=@getElem!_pos
def d7G:=@List.flatMap_append
def d7V:=@Int.not_le
def d8e:=@Int.sub_zero
def d8f:=@Option.getD_none
namespace Go.Proofs.YtapnoejokajcoaaGreatDoor
open Go Go.Wk Go.Wl Go.Rx Go.Re Go.Li Go.Qu Go.Fo 
attribute [local irreducible] i7
def d1D:Nat->D1:=fun|127=>⟨59,fun|7=>some ⟨[1,25,26],[.slot 4 .str,.slot 27 (.int .i64)]⟩|11=>some ⟨[1,4,6,25,26,27,32,33],[.slot 7 (.acc 9),.slot 34 (.int .i64)]⟩|_=>none,fun|6=>some ⟨[1],[.slot 4 .str]⟩|_=>none⟩|_=>⟨0,nn,nn⟩
def c2o(p:J8)(x_1:Int)(x_2:List (List UInt8)):=([59]:List UInt8)++(ix p.Params x_1).Name++([61]:List UInt8)++Lib.join x_2 ([44]:List UInt8)
def V32(p:J8)(Q:y8->l8->Prop):Prop:=
z7 (J8.mk p.D9 p.Name p.Params p.Value)/\(bR (¬Li.D3 (J8.mk p.D9 p.Name p.Params p.Value)=true) (Q [] (l8.no 2)) (∃(J:List UInt8->Prop),((bR (p.D9≠[]) (List.length p.D9+([46]:List UInt8).length<=9223372036854775807/\List.length (p.D9++([46]:List UInt8))+List.length p.Name<=9223372036854775807/\J (p.D9++([46]:List UInt8)++p.Name)) (J p.Name)))/\∀(x:List UInt8),J x->∃(I:List UInt8->Int->Prop),∃(m:List UInt8->Int->Nat),I x 0/\∀(x:List UInt8)(x_1:Int),I x x_1->(bR (x_1<(↑p.Params.length:Int)) (0<=x_1/\x_1<(↑p.Params.length:Int)/\∃(I_1:List (List UInt8)->Int->Prop),∃(m_1:List (List UInt8)->Int->Nat),I_1 [] 0/\∀(x_2:List (List UInt8)) (x_3:Int),I_1 x_2 x_3->(bR (x_3<(↑(ix p.Params x_1).o8.length:Int)) (0<=x_3/\x_3<(↑(ix p.Params x_1).o8.length:Int)/\(ix (ix p.Params x_1).o8 x_3).length<=100000000/\(x_2.length+[told (ix (ix p.Params x_1).o8 x_3)].length)*(some (16:Nat)).getD (0:Nat)<=140737488355328/\c6 (x_3+1)/\I_1 (x_2++[told (ix (ix p.Params x_1).o8 x_3)]) (x_3+1)/\m_1 (x_2++[told (ix (ix p.Params x_1).o8 x_3)]) (x_3+1)<m_1 x_2 x_3) (([59]:List UInt8).length+List.length (ix p.Params x_1).Name<=9223372036854775807/\List.length (([59]:List UInt8)++(ix p.Params x_1).Name)+([61]:List UInt8).length<=9223372036854775807/\((Lib.join x_2 ([44]:List UInt8)).length<=140737488355328/\x_2.length<=140737488355328)/\List.length (([59]:List UInt8)++(ix p.Params x_1).Name++([61]:List UInt8))+(Lib.join x_2 ([44]:List UInt8)).length<=9223372036854775807/\x.length+List.length (c2o p x_1 x_2)<=9223372036854775807/\c6 (x_1+1)/\I (x++(c2o p x_1 x_2)) (x_1+1)/\m (x++(c2o p x_1 x_2)) (x_1+1)<m x x_1))) (x.length+([58]:List UInt8).length<=9223372036854775807/\List.length (x++([58]:List UInt8))+List.length p.Value<=9223372036854775807/\Q (x++([58]:List UInt8)++p.Value) l8.nil))))
def b6M{p:J8}(h:z7 p):(if p.D9=[]then p.Name else p.D9++46::p.Name).length<=105001:=by
 have:=h.name;have:=h.group;split
 . omega
 . simp only[d4o,d4z];omega
def b7c{p:J8}(h:z7 p)(hm:K6 p=false)(i:Nat):((p.Params.take i).flatMap a6E).length<=4200000:=by
 have h1:=J9 (f:=a6E) (k:=210000) (l:=p.Params.take i) fun x hx=>(a8S h hm (d7B hx)).2;have h2:=a4j hm;have h3:(p.Params.take i).length<=20:=by rw[d4I];omega
 have h4:=d4H 210000 h3;omega
def p32(p:J8)(h:z7 p):V32 p (fun y0 y1=>y0=(a0p p).1/\y1=(a0p p).2):=by
 unfold V32 c2o;refine⟨h,fun hr=>?_,fun hr=>?_⟩
 . have hr:¬D3 p=true:=hr;unfold a0p;rw[if_neg hr];exact⟨rfl,rfl⟩
 have hr:D3 p=true:=d4i.1 hr;obtain⟨h0,hM⟩:=H7.1 hr;have s1:=h.name;have s2:=h.group;have s3:=h.value;have s4:=a4j hM;refine⟨fun x=>x=if p.D9=[]then p.Name else p.D9++46::p.Name,⟨fun hg=>⟨by simp only[d4z,d5s];omega,by simp only[d4o,d4z,d5s];omega,by rw[if_neg hg];simp⟩,fun hg=>by rw[if_pos (d4i.1 hg)]⟩,?_⟩;rintro x hx;have lx:=b6M h;rw[<- hx]at lx;refine⟨fun y i=>0<=i/\i<=p.Params.length/\y=x++(p.Params.take i.toNat).flatMap a6E,fun _ i=>((p.Params.length:Int)-i).toNat,⟨by omega,by omega,by simp⟩,?_⟩;rintro y i ⟨i0,i1,rfl⟩;have fl:=b7c h hM i.toNat;refine⟨fun hi=>⟨i0,hi,?_⟩,fun hi=>?_⟩
 . have hm:=w5 i0 hi;have tk:=a2J i0 hi;obtain⟨v1,v2⟩:=a4U h hM hm;obtain⟨jl,tl⟩:=a8S h hM hm;have nl:=(h.param _ hm).name;generalize ix p.Params i=z at *;refine⟨fun l k=>0<=k/\k<=z.o8.length/\l=(z.o8.take k.toNat).map told,fun _ k=>((z.o8.length:Int)-k).toNat,⟨by omega,by omega,by simp⟩,?_⟩;rintro l k ⟨k0,k1,rfl⟩;refine⟨fun hk=>⟨k0,hk,by have:=v2 _ (w5 k0 hk);omega,by simp;omega,⟨by omega,by omega⟩,⟨by omega,by omega,by rw[a2J k0 hk];simp⟩,by first|omega|(dsimp only;omega)⟩,fun hk=>?_⟩;have e:z.o8.take k.toNat=z.o8:=d4M (by omega);rw[e,a9s];simp only[d4z,d5s,d4o,d5F];refine⟨by omega,by omega,⟨by omega,by omega⟩,by omega,by omega,⟨by omega,by omega⟩,⟨by omega,by omega,?_⟩,by first|omega|(dsimp only;omega)⟩;rw[tk];simp[a6E]
 . have e:p.Params.take i.toNat=p.Params:=d4M (by omega);rw[e]at fl ⊢;simp only[d4z,d5s,d4o];refine⟨by omega,by omega,?_⟩;unfold a0p Li.tell;rw[if_pos hr,<- hx];simp
def d2A(p:J8)(nx:Nat):CR U:=⟨[z7 p],[],.E8 [.str ((a0p p).1),.err ((a0p p).2)],[]⟩
def c32(a:List (SV U))(nx:Nat):Option (CR U):=match a with|[.agg [.str p0,.str p1,.sl 130 p2,.str p3]]=>some (d2A (⟨p0,p1,p2,p3⟩) nx)|_=>none
def N32:Env:=N70.a0B 127 c32
def N32_ok:c8 N32:=N70_ok.a0B Tryz.call127 fun(args:List (SV U)) nx (c:CR U) (h:c32 args nx=some c) hp ho=>by
 unfold c32 at h;split at h
 . rename_i p0 p1 p2 p3;cases h;exact c6Z (an:=d1D 127) N70_ok (inlHN_ok N70_ok H0_ok d1D 2) Tryz.func127 (k1:=.str) (k2:=.err) rfl hp (kc (p32 (⟨p0,p1,p2,p3⟩) ho.1) (by kernel_rfl))
 . cases h
def d1W:Nat->D1:=fun|91=>⟨76,fun|3=>some ⟨[1],[.slot 3 (.int .i64),.slot 4 (.int .i64)]⟩|8=>some ⟨[1,4,5],[.slot 3 (.int .i64),.slot 6 (.int .i64)]⟩|_=>none,nn⟩|_=>⟨0,nn,nn⟩
def c5O(p:J8):=(bif false then max (↑(List.length p.Value):Int) 100000 else min (↑(List.length p.Value):Int) 100000)+bif false then max (↑(List.length p.Name):Int) 100000 else min (↑(List.length p.Name):Int) 100000
def c6d(x:Int)(p:J8)(x_1:Int):=(x+bif false then max (↑(List.length (ix p.Params x_1).Name):Int) 100000 else min (↑(List.length (ix p.Params x_1).Name):Int) 100000)+bif false then max (↑(ix p.Params x_1).o8.length:Int) 100000 else min (↑(ix p.Params x_1).o8.length:Int) 100000
def c69(p:J8):=(c5O p)+bif false then max (↑(List.length p.D9):Int) 100000 else min (↑(List.length p.D9):Int) 100000
def V31(p:J8)(Q:Bool->Prop):Prop:=
c6 (c5O p)/\c6 (c69 p)/\∃(I:Int->Int->Prop),∃(m:Int->Int->Nat),I (c69 p) 0/\∀(x x_1:Int),I x x_1->(bR (x_1<(↑p.Params.length:Int)/\x_1<=30) (0<=x_1/\x_1<(↑p.Params.length:Int)/\c6 (x+bif false then max (↑(List.length (ix p.Params x_1).Name):Int) 100000 else min (↑(List.length (ix p.Params x_1).Name):Int) 100000)/\c6 (c6d x p x_1)/\∃(I_1:Int->Int->Prop),∃(m_1:Int->Int->Nat),I_1 (c6d x p x_1) 0/\∀(x_2 x_3:Int),I_1 x_2 x_3->(bR (x_3<(↑(ix p.Params x_1).o8.length:Int)/\x_3<=30) (0<=x_3/\x_3<(↑(ix p.Params x_1).o8.length:Int)/\c6 (x_2+bif false then max (↑(ix (ix p.Params x_1).o8 x_3).length:Int) 100000 else min (↑(ix (ix p.Params x_1).o8 x_3).length:Int) 100000)/\c6 (x_3+1)/\I_1 (x_2+bif false then max (↑(ix (ix p.Params x_1).o8 x_3).length:Int) 100000 else min (↑(ix (ix p.Params x_1).o8 x_3).length:Int) 100000) (x_3+1)/\m_1 (x_2+bif false then max (↑(ix (ix p.Params x_1).o8 x_3).length:Int) 100000 else min (↑(ix (ix p.Params x_1).o8 x_3).length:Int) 100000) (x_3+1)<m_1 x_2 x_3) (c6 (x_1+1)/\I x_2 (x_1+1)/\m x_2 (x_1+1)<m x x_1))) (Q (decide ((↑p.Params.length:Int)<=30/\x<=5000))))
def V4(n:Nat):Int:=min (n:Int) 100000
def J5(n:Nat):0<=V4 n/\V4 n<=100000:=by unfold V4;omega
def R7{n:Nat}{k:Int}(h:V4 n<=k)(hk:k<100000):(n:Int)<=k:=by unfold V4 at h;omega
def a2Y(l:List y8):Int:=(l.map fun v=>V4 v.length).sum
def b9n(a:List y8)(v:y8):a2Y (a++[v])=a2Y a+V4 v.length:=by simp[a2Y]
def a4u:∀l:List y8,0<=a2Y l/\a2Y l<=l.length*100000
 |[]=>by simp[a2Y]
 |v::l=>by
  have:=a4u l;have:=J5 v.length;have e:a2Y (v::l)=V4 v.length+a2Y l:=by simp[a2Y]
  rw[e,d4z];omega
def b99{l:List y8}{v:y8}(h:v∈l):V4 v.length<=a2Y l:=by
 induction l with
 |nil=>cases h
 |cons a l ih =>
  have e:a2Y (a::l)=V4 a.length+a2Y l:=by simp[a2Y]
  rw[e];have:=J5 a.length;have:=a4u l;rcases d4B.1 h with rfl|h
  . omega
  . have:=ih h;omega
def a8o(x:Param):Int:=V4 x.Name.length+V4 x.o8.length+a2Y (x.o8.take 31)
def b58(x:Param):0<=a8o x/\a8o x<=3300000:=by
 have:=J5 x.Name.length;have:=J5 x.o8.length;have:=a4u (x.o8.take 31);have:(x.o8.take 31).length<=31:=by rw[d4I];omega
 unfold a8o;omega
def a2Z(l:List Param):Int:=(l.map a8o).sum
def b9A(a:List Param)(x:Param):a2Z (a++[x])=a2Z a+a8o x:=by simp[a2Z]
def a6k:∀l:List Param,0<=a2Z l/\a2Z l<=l.length*3300000
 |[]=>by simp[a2Z]
 |x::l=>by
  have:=a6k l;have:=b58 x;have e:a2Z (x::l)=a8o x+a2Z l:=by simp[a2Z]
  rw[e,d4z];omega
def c1x{l:List Param}{x:Param}(h:x∈l):a8o x<=a2Z l:=by
 induction l with
 |nil=>cases h
 |cons a l ih =>
  have e:a2Z (a::l)=a8o a+a2Z l:=by simp[a2Z]
  rw[e];have:=b58 a;have:=a6k l;rcases d4B.1 h with rfl|h
  . omega
  . have:=ih h;omega
def c6s(p:J8):Int:=V4 p.Value.length+V4 p.Name.length+V4 p.D9.length+a2Z (p.Params.take 31)
def b33(p:J8):Bool:=decide ((p.Params.length:Int)<=30/\c6s p<=5000)
def b1e{α:Type}{l:List α}{i:Int}(h0:0<=i)(h1:i<=l.length)(h2:i<=31)(h:¬(i<l.length/\i<=30)):l.take i.toNat=l.take 31:=by
 by_cases e:i=31
 . subst e;rfl
 . have:i=l.length:=by omega
   rw[d4M (by omega),d4M (by omega)]
def p31(p:J8)  : V31 p (fun y0=>y0=b33 p):=by
 unfold V31 c69 c6d c5O;simp only[d4L];have c1:=J5 p.Value.length;have c2:=J5 p.Name.length;have c3:=J5 p.D9.length;have e1:min (p.Value.length:Int) 100000=V4 p.Value.length:=rfl;have e2:min (p.Name.length:Int) 100000=V4 p.Name.length:=rfl;have e3:min (p.D9.length:Int) 100000=V4 p.D9.length:=rfl;rw[e1,e2,e3];refine⟨⟨by omega,by omega⟩,⟨by omega,by omega⟩,fun n i=>0<=i/\i<=p.Params.length/\i<=31/\n=V4 p.Value.length+V4 p.Name.length+V4 p.D9.length+a2Z (p.Params.take i.toNat),fun _ i=>((p.Params.length:Int)-i).toNat,⟨by omega,by omega,by omega,by simp[a2Z]⟩,?_⟩;rintro n i ⟨i0,i1,i2,hn⟩;have lp:=a6k (p.Params.take i.toNat);rw[d4I]at lp;refine⟨fun⟨hi,h30⟩=>?_,fun hi=>?_⟩
 . have tk:=a2J i0 hi;generalize hx:ix p.Params i=x at tk ⊢;have d1:=J5 x.Name.length;have d2:=J5 x.o8.length;have e4:min (x.Name.length:Int) 100000=V4 x.Name.length:=rfl;have e5:min (x.o8.length:Int) 100000=V4 x.o8.length:=rfl;rw[e4,e5];refine⟨i0,hi,⟨by omega,by omega⟩,⟨by omega,by omega⟩,fun m k=>0<=k/\k<=x.o8.length/\k<=31/\m=n+V4 x.Name.length+V4 x.o8.length+a2Y (x.o8.take k.toNat),fun _ k=>((x.o8.length:Int)-k).toNat,⟨by omega,by omega,by omega,by simp[a2Y]⟩,?_⟩;rintro m k ⟨k0,k1,k2,hm⟩;have lv:=a4u (x.o8.take k.toNat);rw[d4I]at lv;refine⟨fun⟨hk,hk30⟩=>?_,fun hk=>⟨⟨by omega,by omega⟩,⟨by omega,by omega,by omega,?_⟩,by first|omega|(dsimp only;omega)⟩⟩
   . have tv:=a2J k0 hk;generalize ix x.o8 k=v at tv ⊢;have e6:min (v.length:Int) 100000=V4 v.length:=rfl;have d3:=J5 v.length;rw[e6];exact⟨k0,hk,⟨by omega,by omega⟩,⟨by omega,by omega⟩,⟨by omega,by omega,by omega,by rw[tv,b9n];omega⟩,by first|omega|(dsimp only;omega)⟩
   . rw[b1e k0 k1 k2 hk]at hm;rw[tk,b9A];show m=_
     unfold a8o;omega
 . rw[b1e i0 i1 i2 hi]at hn;show _=decide _
   unfold c6s;rw[hn]
def d3r(p:J8):Q1 U:=⟨[],[],I0 (b33 p)⟩
def c31(a:List (SV U)):Option (Q1 U):=match a with|[.agg [.str p0,.str p1,.sl 130 p2,.str p3]]=>some (d3r (⟨p0,p1,p2,p3⟩))|_=>none
def N31:Env:=N32.A7 91 c31
def N31_ok:c8 N31:=N32_ok.A7 Tryz.call91 fun(args:List (SV U)) (q:Q1 U) (h:c31 args=some q) ho=>by
 unfold c31 at h;split at h
 . rename_i p0 p1 p2 p3;cases h;exact H6 (an:=d1W 91) N32_ok (inlHN_ok N32_ok H0_ok d1W 2) Tryz.func91 (k:=.bool) (x:=b33 (⟨p0,p1,p2,p3⟩:J8)) trivial (kc (p31 (⟨p0,p1,p2,p3⟩) ) (by kernel_rfl)) 0
 . cases h
end Go.Proofs.YtapnoejokajcoaaGreatDoor
namespace Go.Qu
open Go Go.Wk Go.Wl Go.Rx Go.Re Go.Li Go.Fo
noncomputable section
def q9(n:Int)(p:Int->Prop):Prop:=∀j:Int,0<=j->j<n->p j
def q9.zero{p:Int->Prop}:q9 0 p:=fun j _ _=>by omega
def q9.succ{n:Int}{p:Int->Prop}(h:q9 n p)(hp:p n):q9 (n+1) p:=fun j j0 j1=>by
 by_cases e:j=n
 . rw[e];exact hp
 . exact h j j0 (by omega)
def q9.le{n m:Int}{p:Int->Prop}(h:q9 n p)(hm:m<=n):q9 m p:=fun j j0 j1=>h j j0 (by omega)
def q9.list{α:Type}[Inhabited α]{l:List α}{p:α->Prop}:q9 l.length (fun j=>p (ix l j))↔∀x∈l,p x:=
 ⟨fun h x hx=>by obtain⟨n,hn,rfl⟩:=d4R hx;have h:=h n (by omega) (by omega);dsimp only at h;rw[w8 (by simpa using hn)]at h;simpa using h,fun h j j0 j1=>h _ (w5 j0 j1)⟩
open Classical in
def bo(p:Prop):Bool:=decide p
open Classical in
def y6{p:Prop}:bo p=true↔p:=by unfold bo;exact d4Z
def G1{p:Prop}(h:¬p):false=bo p:=by
 cases e:bo p with
 |true=>exact absurd (y6.1 e) h
 |false=>rfl
def a3w{p:Prop}(h:p):true=bo p:=(y6.2 h).symm
open Classical in
def a1g{p q:Prop}[d:Decidable p](h:p↔q):decide p=bo q:=by unfold bo;exact d5c.2 h
def etO(o:Obv):Obv:=Obv.mk o.Name (j6 o.Start) o.a8D o.To o.b9
def etZ(z:V5):V5:=V5.mk z.ID z.D7
def etA(a:Alm):Alm:=Alm.mk a.Action a.S3 a.Extra
def Y8(p:J8):J8:=J8.mk p.D9 p.Name p.Params p.Value
def etM(m:G9):G9:=G9.mk (j6 m.Time) m.I3
def etI(x:R2):R2:=R2.mk (etM x.Start) x.End x.Span x.b9 x.p4 x.q8 x.p7 x.v7 x.Extra
def etE(o:E3):E3:=E3.mk o.Kind o.UID o.c9 (etI o.Main) o.Over o.Extra
def etN(x:Ins):Ins:=Ins.mk (j6 x.Start) (j6 x.End) (j6 x.u5) (decide (x.Over=true))
def C5(o:Obv):etO o=o:=by unfold etO;rw[x9]
def C4(z:V5):etZ z=z:=rfl
def C6(a:Alm):etA a=a:=rfl
def C8(p:J8):Y8 p=p:=rfl
def C3(m:G9):etM m=m:=by unfold etM;rw[x9]
def B9(x:R2):etI x=x:=by unfold etI;rw[C3]
def D0(o:E3):etE o=o:=by unfold etE;rw[B9]
def B7(x:Ins):etN x=x:=by unfold etN;simp only[x9,d4p]
def b9Q(n:Int):Bool:=decide (-86400<n/\n<86400)
def stN:y8:=[83,84,65,78,68,65,82,68]
def dlN:y8:=[68,65,89,76,73,71,72,84]
def c18(o:Obv):Prop:=(o.Name=stN∨o.Name=dlN)/\(o7 o.Start=true/\o.Start.n9=false/\o.Start.UTC=false)/\b9Q o.a8D=true/\b9Q o.To=true/\(o.b9.length:Int)<=1/\((o.b9.length:Int)=1->G0 o.Start (ix o.b9 0)=true)
def a4C(z:V5):Prop:=z.ID≠[]/\(z.ID.length:Int)<=60/\z.ID.all C9=true/\(z.D7.length:Int)≠0/\(z.D7.length:Int)<=20/\q9 z.D7.length fun j=>c18 (ix z.D7 j)
def X1(z:V5):Prop:=z.D7.length<=25/\z.ID.length<=2000/\∀o∈z.D7,0<(o.b9.length:Int)->F4 (ix o.b9 0)=true
def tmZ:Tm:=⟨⟨0,0,0⟩,0,0,0,false,false⟩
def tmU:Tm:=⟨⟨0,0,0⟩,0,0,0,false,true⟩
def Q7(e:l8):l8:=match e.num with
 |some n=>.no n
 |none=>e
def onS(o:Obv)(t:Int):Int×Bool×l8:=
 if t<b8 o.Start then(0,false,.nil)else
 if(o.b9.length:Int)=0 then(b8 o.Start,true,.nil)else
 (b8 (Q8 o.Start (ix o.b9 0) (K3 (min t 315537897599) o.Start)).1,(Q8 o.Start (ix o.b9 0) (K3 (min t 315537897599) o.Start)).2.1,(Q8 o.Start (ix o.b9 0) (K3 (min t 315537897599) o.Start)).2.2)
structure Fz where
 best:Int
 out:Int
 some:Bool
 early:Int
def fzN(l:List Obv)(t:Int)(f:Fz)(i:Int):Fz:=
 let n:=onS (ix l i) t
 let e:=if b8 (ix l i).Start<b8 (ix l f.early).Start then i else f.early
 if n.2.1=true/\(f.some=false∨f.best<=n.1)then⟨n.1,(ix l i).To,true,e⟩else⟨f.best,f.out,f.some,e⟩
def fz(l:List Obv)(t:Int):Nat->Fz
 |0=>⟨0,0,false,0⟩
 |n+1=>fzN l t (fz l t n) n
def fzE(l:List Obv)(t:Int):Nat->Option l8
 |0=>none
 |n+1=>match fzE l t n with
  |some e=>some e
  |none=>if(onS (ix l n) t).2.2=.nil then none else some (Q7 (onS (ix l n) t).2.2)
def V0(z:V5)(t:Int):Int×l8:=match fzE z.D7 t z.D7.length with
 |some e=>(0,e)
 |none=>if(fz z.D7 t z.D7.length).some=true then((fz z.D7 t z.D7.length).out,.nil)else((ix z.D7 (fz z.D7 t z.D7.length).early).a8D,.nil)
open Classical in
def U8(z:V5)(t:Tm):Int×l8:=if a4C z/\o7 t=true/\t.UTC=false then V0 z (b8 t)else(0,.no 2)
def a4Y(t:Tm)(n:Int)(u:Bool):Tm×l8:=if(K3 (b8 t+n) ⟨⟨0,0,0⟩,0,0,0,false,u⟩).Day.Year=0 then(tmZ,.no 3)else(K3 (b8 t+n) ⟨⟨0,0,0⟩,0,0,0,false,u⟩,.nil)
open Classical in
def V9(z:V5)(t:Tm):Tm×l8:=if a4C z/\o7 t=true/\t.UTC=true then(t,.nil)else if(U8 z t).2=.nil then a4Y t (-(U8 z t).1) true else(tmZ,(U8 z t).2)
def G8(p:J8):y8:=if(a0p p).2=.nil then(a0p p).1 else []
def bgN:y8:=[66,69,71,73,78]
def enN:y8:=[69,78,68]
def a1G(l:List J8)(no:y8->Bool):Prop:=(q9 l.length fun j=>G8 (ix l j)≠[]/\((G8 (ix l j)).length:Int)<=5000/\(ix l j).Name≠bgN/\(ix l j).Name≠enN/\no (ix l j).Name=false/\(0<j->(Op.bytesLess (G8 (ix l (j-1))) (G8 (ix l j))=true∨G8 (ix l (j-1))=G8 (ix l j))))/\(l.length:Int)<=100
def d2H(zs:List V5)(n:y8):Prop:=∃j:Int,0<=j/\j<zs.length/\(ix zs j).ID=n
def V3(zs:List V5)(m:G9):Prop:=o7 m.Time=true/\(m.I3≠[]->m.Time.n9=false/\m.Time.UTC=false/\d2H zs m.I3)
def R4(a b:G9):Bool:=decide (a.Time.n9=b.Time.n9/\a.Time.UTC=b.Time.UTC/\a.I3=b.I3)
def b0e(zs:List V5)(l:List G9)(like:G9):Prop:=(q9 l.length fun j=>V3 zs (ix l j)/\R4 (ix l j) like=true/\(0<j->b8 (ix l (j-1)).Time<b8 (ix l j).Time))/\(l.length:Int)<=100
def auN:y8:=[65,85,68,73,79]
def diN:y8:=[68,73,83,80,76,65,89]
def emN:y8:=[69,77,65,73,76]
def acN:y8:=[65,67,84,73,79,78]
def trN:y8:=[84,82,73,71,71,69,82]
def vnN:y8:=[86,69,82,83,73,79,78]
def a1T(n:y8):Bool:=decide (n=acN∨n=trN)
def a0Y(n:y8):Bool:=decide (n=vnN)
def a2c(n:y8):Bool:=decide (n=[85,73,68]∨n=[82,69,67,85,82,82,69,78,67,69,45,73,68]∨n=[68,84,83,84,65,82,84]∨n=[68,84,69,78,68]∨n=[68,85,69]∨n=[68,85,82,65,84,73,79,78]∨n=[82,82,85,76,69]∨n=[82,68,65,84,69]∨n=[69,88,68,65,84,69])
def b7A(a:Alm):Prop:=(a.Action=auN∨a.Action=diN∨a.Action=emN)/\-1000000000<=a.S3/\a.S3<=1000000000/\a1G a.Extra a1T
open Classical in
def X7(zs:List V5)(x:R2):Prop:=V3 zs x.Start/\(x.End.length:Int)+x.Span.length<=1/\(x.b9.length:Int)<=1/\(x.v7.length:Int)<=10/\(q9 x.End.length fun j=>V3 zs (ix x.End j)/\R4 (ix x.End j) x.Start=true/\b8 x.Start.Time<b8 (ix x.End j).Time)/\(q9 x.Span.length fun j=>1<=ix x.Span j/\ix x.Span j<=1000000000/\(x.Start.Time.n9=true->(ix x.Span j).tmod 86400=0))/\(q9 x.b9.length fun j=>G0 x.Start.Time (ix x.b9 j)=true)/\(q9 x.p7.length fun j=>V3 zs (ix x.p7 j))/\(q9 x.v7.length fun j=>b7A (ix x.v7 j))/\b0e zs x.p4 x.Start/\b0e zs x.q8 x.Start/\a1G x.Extra a2c
def a2i(x:R2):Prop:=x.End.length<=60/\x.Span.length<=60/\x.b9.length<=5/\x.p4.length<=200/\x.q8.length<=200/\x.p7.length<=60/\x.v7.length<=15/\(∀r∈x.b9,F4 r=true)/\(∀a∈x.v7,(∀p∈a.Extra,z7 p)/\(a.Extra.length:Int)<=1000000)/\(∀p∈x.Extra,z7 p)/\(x.Extra.length:Int)<=1000000
def evN:y8:=[86,69,86,69,78,84]
def tdN:y8:=[86,84,79,68,79]
def c74:y8:=[85,73,68]
open Classical in
def a0S(o:E3):Prop:=((o.Kind=evN∨o.Kind=tdN)/\o.UID≠[]/\(o.UID.length:Int)<=100/\(o.c9.length:Int)<=5/\(o.Over.length:Int)<=50/\(o.Main.p7.length:Int)<=0)/\D3 ⟨[],c74,[],o.UID⟩=true/\a1G o.Extra a0Y/\X7 o.c9 o.Main/\(q9 o.c9.length fun j=>a4C (ix o.c9 j)/\q9 j fun k=>(ix o.c9 k).ID≠(ix o.c9 j).ID)/\(q9 o.Over.length fun j=>((ix o.Over j).p7.length:Int)=1/\((ix o.Over j).b9.length:Int)+(ix o.Over j).p4.length+(ix o.Over j).q8.length<=0/\X7 o.c9 (ix o.Over j)/\R4 (ix (ix o.Over j).p7 0) o.Main.Start=true/\(0<j->b8 (ix (ix o.Over (j-1)).p7 0).Time<b8 (ix (ix o.Over j).p7 0).Time))
def a1n(o:E3):Prop:=o.Kind.length<=3000/\o.UID.length<=3000/\o.c9.length<=8/\o.Over.length<=60/\(∀p∈o.Extra,z7 p)/\(o.Extra.length:Int)<=1000000/\a2i o.Main/\(∀z∈o.c9,X1 z)/\∀x∈o.Over,a2i x
end
end Go.Qu
namespace Go.Proofs.YtapnoejokajcoaaGreatDoor
open Go Go.Wk Go.Wl Go.Rx Go.Re Go.Li Go.Qu Go.Fo 
attribute [local irreducible] i7
def c9b:Nat->D1:=fun|84=>⟨26,fun|2=>some ⟨[0,5],[.slot 6 (.int .i64)]⟩|_=>none,nn⟩|_=>⟨0,nn,nn⟩
def Vzs(s:y8)(Q:Bool->Prop):Prop:=
∃(I:Int->Prop),∃(m:Int->Nat),I 0/\∀(x:Int),I x->(bR (x<(↑(List.length s):Int)) (0<=x/\x<(↑(List.length s):Int)/\(ix s x≠9->0<=x)/\(ix s x≠9->x<(↑(List.length s):Int))/\(¬(ix s x≠9/\ix s x<32)->0<=x)/\(¬(ix s x≠9/\ix s x<32)->x<(↑(List.length s):Int))/\(bR (ix s x≠9/\ix s x<32∨ix s x=127) (Q false) (c6 (x+1)/\I (x+1)/\m (x+1)<m x))) (Q true))
def b9X(c:UInt8):C9 c=true↔¬(c≠9/\c<32∨c=127):=by
 unfold C9;simp only[d5l,d7j,d4k,d5t,bne_iff_ne];constructor
 . rintro(h|⟨h1,h2⟩) (⟨h3,h4⟩|h3)
   . exact h3 h
   . subst h;cases h3
   . exact absurd h4 (UInt8.not_lt.2 h1)
   . exact h2 h3
 . intro h;by_cases e:c=9
   . exact .inl e
   . exact .inr ⟨UInt8.not_lt.1 fun hl=>h (.inl ⟨e,hl⟩),fun e2=>h (.inr e2)⟩
def pzs(s:y8)(hs:s.length<=9223372036854775807):Vzs s (fun y0=>y0=s.all C9):=by
 unfold Vzs;refine⟨fun x=>0<=x/\x<=s.length/\∀j:Int,0<=j->j<x->C9 (ix s j)=true,fun x=>((s.length:Int)-x).toNat,⟨by omega,by omega,fun j _ _=>by omega⟩,?_⟩;rintro x ⟨x0,x1,hx⟩;refine⟨fun hi=>⟨x0,hi,fun _=>x0,fun _=>hi,fun _=>x0,fun _=>hi,fun hb=>?_,fun hb=>⟨⟨by omega,by omega⟩,⟨by omega,by omega,fun j j0 j1=>?_⟩,by dsimp only;omega⟩⟩,fun hi=>(b4D fun j j0 j1=>hx j j0 (by omega)).symm⟩
 . have:=b0o x0 hi (fun h=>(b9X _).1 h hb);cases hh:(List.all s C9)
   . rfl
   . exact absurd hh this
 . by_cases e:j=x
   . subst e;exact(b9X _).2 hb
   . exact hx j j0 (by omega)
def Nzs:Env:=N31.kL 84 (rS.c .n) (.bool) (fun y=>[List.length (α:=UInt8) y.1<=9223372036854775807]) (fun y=>y.1.all C9)
def Nzs_ok:c8 Nzs:=N31_ok.kL Tryz.call84 Tryz.func84 (inlHN_ok N31_ok H0_ok c9b 2) (an:=c9b 84) (fun _ _=>trivial) fun y ho=>kc (pzs y.1 ho.1) (by kernel_rfl)
def d2k:Env:=Nzs.z6 85 Tryz.f85
def NI85_ok:c8 d2k:=Nzs_ok.z6 Tryz.call85 Tryz.func85
def c4t:Env:=d2k.z6 131 Tryz.f131
def NI131_ok:c8 c4t:=NI85_ok.z6 Tryz.call131 Tryz.func131
def c9P:Env:=c4t.z6 86 Tryz.f86
def NI86_ok:c8 c9P:=NI131_ok.z6 Tryz.call86 Tryz.func86
def d0A:Env:=c9P.z6 87 Tryz.f87
def NI87_ok:c8 d0A:=NI86_ok.z6 Tryz.call87 Tryz.func87
def c4g:Env:=d0A.z6 132 Tryz.f132
def NI132_ok:c8 c4g:=NI87_ok.z6 Tryz.call132 Tryz.func132
def c9I:Nat->D1:=fun|39=>⟨34,nn,nn⟩|85=>⟨9,nn,nn⟩|131=>⟨19,fun|2=>some ⟨[0,1,7],[.slot 8 (.int .i64)]⟩|_=>none,nn⟩|86=>⟨7,nn,nn⟩|87=>⟨69,nn,nn⟩|132=>⟨9,nn,nn⟩|_=>⟨0,nn,nn⟩
def b7d(z:V5)(x:Int):=(l8.p (195:Nat) (ix z.D7 x).Name 2).is 2
def a6Y(z:V5)(x:Int):=ix (ix z.D7 x).b9 0
def VzR(z:V5)(Q:Bool->Prop):Prop:=
(¬(z.ID=[]∨60<(↑(List.length z.ID):Int))->List.length z.ID<=9223372036854775807)/\(bR ((((z.ID=[]∨60<(↑(List.length z.ID):Int))∨¬List.all z.ID C9=true)∨(↑z.D7.length:Int)=0)∨20<(↑z.D7.length:Int)) (Q false) (∃(I:Int->Prop),∃(m:Int->Nat),I 0/\∀(x:Int),I x->(bR (x<(↑z.D7.length:Int)) (0<=x/\x<(↑z.D7.length:Int)/\(bR ((ix z.D7 x).Name≠([83,84,65,78,68,65,82,68]:List UInt8)/\(ix z.D7 x).Name≠([68,65,89,76,73,71,72,84]:List UInt8)) ((bR (b7d z x) (Q (decide ¬0<=x)) (c6 (x+1)/\I (x+1)/\m (x+1)<m x))) ((bR ((¬o7 (j6 (ix z.D7 x).Start)=true∨(ix z.D7 x).Start.n9=true)∨(ix z.D7 x).Start.UTC=true) ((bR (b7d z x) (Q (decide ¬0<=x)) (c6 (x+1)/\I (x+1)/\m (x+1)<m x))) ((bR (¬((-86400:Int)<(ix z.D7 x).a8D/\(ix z.D7 x).a8D<86400)) ((bR (b7d z x) (Q (decide ¬0<=x)) (c6 (x+1)/\I (x+1)/\m (x+1)<m x))) ((bR (¬((-86400:Int)<(ix z.D7 x).To/\(ix z.D7 x).To<86400)∨1<(↑(ix z.D7 x).b9.length:Int)) ((bR (b7d z x) (Q (decide ¬0<=x)) (c6 (x+1)/\I (x+1)/\m (x+1)<m x))) ((((↑(ix z.D7 x).b9.length:Int)=1->(0:Int)<=0)/\((↑(ix z.D7 x).b9.length:Int)=1->0<(↑(ix z.D7 x).b9.length:Int)))/\(((↑(ix z.D7 x).b9.length:Int)=1->c6 (a6Y z x).j8)->((↑(ix z.D7 x).b9.length:Int)=1->c6 (a6Y z x).Interval)->((↑(ix z.D7 x).b9.length:Int)=1->c6 (a6Y z x).Count)->((↑(ix z.D7 x).b9.length:Int)=1->c6 (a6Y z x).u6)->(↑(ix z.D7 x).b9.length:Int)=1->F4 (L3 (a6Y z x))=true)/\(((↑(ix z.D7 x).b9.length:Int)=1->c6 (a6Y z x).j8)->((↑(ix z.D7 x).b9.length:Int)=1->c6 (a6Y z x).Interval)->((↑(ix z.D7 x).b9.length:Int)=1->c6 (a6Y z x).Count)->((↑(ix z.D7 x).b9.length:Int)=1->c6 (a6Y z x).u6)->(bR ((↑(ix z.D7 x).b9.length:Int)=1/\¬G0 (j6 (ix z.D7 x).Start) (L3 (a6Y z x))=true) ((bR (b7d z x) (Q (decide ¬0<=x)) (c6 (x+1)/\I (x+1)/\m (x+1)<m x))) ((bR (l8.nil.is 2) (Q (decide ¬0<=x)) (c6 (x+1)/\I (x+1)/\m (x+1)<m x)))))))))))))) (Q (decide ¬(0:Int)<=(-1:Int))))))
def d2V(t:Nat)(s:y8)(n:Int):(l8.p t s n).is n:=rfl
def c61(n:Int):¬l8.nil.is n:=fun h=>by cases h
def pzR(z:V5)(hf:X1 z):VzR z (fun y0=>y0=bo (a4C z)):=by
 unfold VzR a6Y b7d;simp only[x9,A6];refine⟨fun _=>by have:=hf.2.1;omega,fun h=>G1 fun⟨a,b,c,d,e,_⟩=>?_,fun h=>?_⟩
 . rcases h with(((h|h)|h)|h)|h
   . exact a h
   . omega
   . exact h c
   . exact d h
   . omega
 have hh:z.ID≠[]/\(z.ID.length:Int)<=60/\z.ID.all C9=true/\(z.D7.length:Int)≠0/\(z.D7.length:Int)<=20:=⟨fun e=>h (.inl (.inl (.inl (.inl e)))),d4X.1 fun e=>h (.inl (.inl (.inl (.inr e)))),d4i.1 fun e=>h (.inl (.inl (.inr e))),fun e=>h (.inl (.inr e)),d4X.1 fun e=>h (.inr e)⟩;obtain⟨a,b,c,d,e⟩:=hh;refine⟨fun x=>0<=x/\x<=z.D7.length/\q9 x fun j=>c18 (ix z.D7 j),fun x=>((z.D7.length:Int)-x).toNat,⟨by omega,by omega,q9.zero⟩,?_⟩;rintro x ⟨x0,x1,hx⟩;have dx:decide (¬0<=x)=false:=d4F fun h=>h x0;refine⟨fun hi=>⟨x0,hi,?_⟩,fun hi=>?_⟩
 . have hr:=hf.2.2 _ (w5 x0 hi);generalize ho:ix z.D7 x=o at *;have bad:∀(P:Prop)(n:y8),¬c18 o->((l8.p 195 n 2).is 2->(decide (¬0<=x))=bo (a4C z))/\(¬(l8.p 195 n 2).is 2->P):=fun P n hn=>⟨fun _=>by rw[dx];exact G1 fun hz=>hn (by have:=hz.2.2.2.2.2 x x0 hi;dsimp only at this;rwa [ho]at this),fun h=>absurd (d2V _ _ _) h⟩;refine⟨fun hn=>bad _ _ fun hO=>?_,fun hn=>⟨fun hs=>bad _ _ fun hO=>?_,fun hs=>⟨fun hF=>bad _ _ fun hO=>?_,fun hF=>⟨fun hT=>bad _ _ fun hO=>?_,fun hT=>⟨⟨fun _=>d4D 0,fun h=>by omega⟩,fun _ _ _ _ h1=>hr (by omega),fun _ _ _ _=>⟨fun hR=>bad _ _ fun hO=>?_,fun hR=>⟨fun h=>absurd h (c61 _),fun _=>⟨⟨by omega,by omega⟩,⟨by omega,by omega,?_⟩,by dsimp only;omega⟩⟩⟩⟩⟩⟩⟩⟩
   . exact hO.1.elim hn.1 hn.2
   . rcases hs with(hs|hs)|hs
     . exact hs hO.2.1.1
     . rw[hO.2.1.2.1]at hs;cases hs
     . rw[hO.2.1.2.2]at hs;cases hs
   . exact hF (d5e hO.2.2.1)
   . rcases hT with hT|hT
     . exact hT (d5e hO.2.2.2.1)
     . have:=hO.2.2.2.2.1;omega
   . exact hR.2 (hO.2.2.2.2.2 hR.1)
   . refine hx.succ ?_;rw[ho];refine⟨?_,⟨d4i.1 fun e=>hs (.inl (.inl e)),?_,?_⟩,d4u (d4i.1 hF),d4u (d4i.1 fun e=>hT (.inl e)),d4X.1 fun e=>hT (.inr e),fun h1=>d4i.1 fun e=>hR ⟨h1,e⟩⟩
     . exact d4i.1 fun e=>hn ⟨fun e1=>e (.inl e1),fun e1=>e (.inr e1)⟩
     . cases hb:o.Start.n9 with
       |false=>rfl
       |true=>exact absurd (.inl (.inr hb)) hs
     . cases hb:o.Start.UTC with
       |false=>rfl
       |true=>exact absurd (.inr hb) hs
 . exact a3w ⟨a,b,c,d,e,hx.le (by omega)⟩
def NzR:Env:=c4g.kL 39 (r92.c .n) (.bool) (fun y=>[X1 y.1]) (fun y=>bo (a4C y.1))
def NzR_ok:c8 NzR:=NI132_ok.kL Tryz.call39 Tryz.func39 (inlHN_ok NI132_ok H0_ok c9I 5) (an:=c9I 39) (fun _ _=>trivial) fun y ho=>kc (pzR y.1 ho.1) (by kernel_rfl)
def c9u:Nat->D1:=fun|189=>⟨47,nn,nn⟩|_=>⟨0,nn,nn⟩
def c7j(t:Int):=bif false then max t (b8 (Tm.mk (Dy.mk 9999 12 31) 23 59 59 false false))else min t (b8 (Tm.mk (Dy.mk 9999 12 31) 23 59 59 false false))
def c3G(o:Obv)(t:Int):=Q8 (j6 o.Start) (L3 (ix o.b9 0)) (j6 (K3 (c7j t) (j6 o.Start)))
def Vzo(o:Obv)(t:Int)(Q:Int->Bool->l8->Prop):Prop:=
(bR (t<b8 (j6 o.Start)) (Q 0 false l8.nil) ((bR ((↑o.b9.length:Int)=0) (Q (b8 (j6 o.Start)) true l8.nil) ((c7j t)<=9000000000000000000/\((0:Int)<=0/\0<(↑o.b9.length:Int))/\(c6 (ix o.b9 0).j8->c6 (ix o.b9 0).Interval->c6 (ix o.b9 0).Count->c6 (ix o.b9 0).u6->F4 (L3 (ix o.b9 0))=true)/\(c6 (ix o.b9 0).j8->c6 (ix o.b9 0).Interval->c6 (ix o.b9 0).Count->c6 (ix o.b9 0).u6->Q (b8 (j6 (c3G o t).fst)) (decide ((c3G o t).snd.fst=true)) (c3G o t).snd.snd)))))
def a9Z(o:Obv)(t:Int):(onS o t).2.2=.nil∨∃n,(onS o t).2.2=.no n:=by
 unfold onS;split
 . exact .inl rfl
 split
 . exact .inl rfl
 . exact a73 _ _ _
def d1M:b8 (Tm.mk (Dy.mk 9999 12 31) 23 59 59 false false)=315537897599:=by decide
def d3W(a b:Int):(bif false then max a b else min a b)=min a b:=rfl
def pzo(o:Obv)(t:Int)(hf:o.b9=[]∨F4 (ix o.b9 0)=true):Vzo o t (fun y0 y1 y2=>y0=(onS o t).1/\y1=(onS o t).2.1/\y2=(onS o t).2.2):=by unfold Vzo c3G c7j onS;simp only[x9,A6,d4p];rw[d1M,d3W];refine⟨fun h=>by rw[if_pos h];exact⟨rfl,rfl,rfl⟩,fun h=>?_⟩;rw[if_neg h];refine⟨fun h0=>by rw[if_pos h0];exact⟨rfl,rfl,rfl⟩,fun h0=>?_⟩;rw[if_neg h0];exact⟨by omega,⟨by omega,by omega⟩,fun _ _ _ _=>hf.resolve_left (fun e=>h0 (by rw[e];rfl)),fun _ _ _ _=>⟨rfl,rfl,rfl⟩⟩
def d2Q(o:Obv)(t:Int):Q1 U:=⟨[(o.b9:List Rl)=[]∨F4 (ix (α:=Rl) o.b9 0)=true],[],.E8 [.int .i64 ((onS o t).1),I0 ((onS o t).2.1),.err ((onS o t).2.2)]⟩
def czo(a:List (SV U)):Option (Q1 U):=match a with|[.agg l_o,.int .i64 t]=>(b6I.bk (.agg l_o)).bind fun o=>some (d2Q o t)|_=>none
def Nzo:Env:=NzR.A7 189 czo
def Nzo_ok:c8 Nzo:=NzR_ok.A7 Tryz.call189 fun(args:List (SV U)) (q:Q1 U) (h:czo args=some q) ho=>by
 unfold czo at h;split at h
 . rename_i l_o t;obtain⟨o,hb_o,h⟩:=d4y.1 h;cases h;refine A0.conv (E:=NzR) (args':=[.agg [.str o.Name,.int .i64 o.Start.Day.Year,.int .i64 o.Start.Day.Month,.int .i64 o.Start.Day.Date,.int .i64 o.Start.Hour,.int .i64 o.Start.Min,.int .i64 o.Start.D5,I0 o.Start.n9,I0 o.Start.UTC,.int .i64 o.a8D,.int .i64 o.To,.sl 64 o.b9],.int .i64 t]) (c4K (an:=c9u 189) NzR_ok (inlHN_ok NzR_ok H0_ok c9u 2) Tryz.func189 (k1:=.int .i64) (k2:=.bool) (k3:=.err) trivial trivial (a9Z _ _) (kc (pzo o t ho.1) (by kernel_rfl)) 0) fun D w vs hr=>N6 [.agg l_o,.int .i64 t] [.agg [.str o.Name,.int .i64 o.Start.Day.Year,.int .i64 o.Start.Day.Month,.int .i64 o.Start.Day.Date,.int .i64 o.Start.Hour,.int .i64 o.Start.Min,.int .i64 o.Start.D5,I0 o.Start.n9,I0 o.Start.UTC,.int .i64 o.a8D,.int .i64 o.To,.sl (N:=U) 64 o.b9],.int .i64 t] _ ⟨fun _ h=>b1o hb_o h,fun _ h=>h,trivial⟩ hr
 . cases h
def d07:Nat->D1:=fun|171=>⟨3,nn,nn⟩|_=>⟨0,nn,nn⟩
def Vzb(o:Obv)(Q:Int->Prop):Prop:=
Q (0:Int)
def pzb(o:Obv)  : Vzb o (fun y0=>y0=0):=by unfold Vzb;rfl
def Nzb:Env:=Nzo.kL 171 (d2M.c .n) (.int .i64) (fun _=>[]) (fun y=>(0:Int))
def Nzb_ok:c8 Nzb:=Nzo_ok.kL Tryz.call171 Tryz.func171 (inlHN_ok Nzo_ok H0_ok d07 2) (an:=d07 171) (fun _ _=>trivial) fun y ho=>kc (pzb y.1 ) (by kernel_rfl)
def d1h:Nat->D1:=fun|190=>⟨10,nn,nn⟩|_=>⟨0,nn,nn⟩
def Vzt(e:l8)(Q:l8->Prop):Prop:=
Proofs.YtapnoejokajcoaaGreatDoor.asB e=true/\(bR (e.num.isSome=true) (Q (l8.no (e.num.getD 0))) (Q e))
def a9y{e:l8}(h:asB e=true):Q7 e=.nil∨∃n,Q7 e=.no n:=by
 cases e with
 |nil=>exact .inl rfl
 |no n=>exact .inr ⟨n,rfl⟩
 |p t s n=>exact .inr ⟨n,rfl⟩
 |_=>cases h
def b1K{e:l8}(h:e.num.isSome=true):l8.no (e.num.getD 0)=Q7 e:=by
 unfold Q7;cases hn:e.num with
 |none=>rw[hn]at h;cases h
 |some n=>rfl
def a8Q{e:l8}(h:¬e.num.isSome=true):e=Q7 e:=by
 unfold Q7;cases hn:e.num with
 |none=>rfl
 |some n=>rw[hn]at h;exact absurd rfl h
def pzt(e:l8)(he:asB e=true):Vzt e (fun y0=>y0=Q7 e):=by unfold Vzt;exact⟨he,b1K,a8Q⟩
def Nzt:Env:=Nzb.kL 190 (rE.c .n) (.err) (fun y=>[asB y.1=true]) (fun y=>Q7 y.1)
def Nzt_ok:c8 Nzt:=Nzb_ok.kL Tryz.call190 Tryz.func190 (inlHN_ok Nzb_ok H0_ok d1h 2) (an:=d1h 190) (fun y ho=>(a9y ho.1)) fun y ho=>kc (pzt y.1 ho.1) (by kernel_rfl)
def d0y:Nat->D1:=fun|170=>⟨80,fun|4=>some ⟨[1,2,3,18,19],[.slot 8 (.int .i64),.slot 9 (.int .i64),.slot 10 .bool,.slot 11 (.int .i64),.slot 20 (.int .i64)]⟩|_=>none,nn⟩|_=>⟨0,nn,nn⟩
def a6T(z:V5)(x_4:Int)(t:Int):=onS (etO (ix z.D7 x_4)) (t+0)
def Vzd(z:V5)(t:Int)(Q:Int->l8->Prop):Prop:=
∃(I:Int->Int->Bool->Int->Int->Prop),∃(m:Int->Int->Bool->Int->Int->Nat),I 0 0 false 0 0/\∀(x x_1:Int)(x_2:Bool)(x_3 x_4:Int),I x x_1 x_2 x_3 x_4->(bR (x_4<(↑z.D7.length:Int)) (0<=x_4/\x_4<(↑z.D7.length:Int)/\c6 (t+0)/\((ix z.D7 x_4).b9=[]∨F4 (ix (ix z.D7 x_4).b9 0)=true)/\(bR ((a6T z x_4 t).snd.snd≠l8.nil) (asB (a6T z x_4 t).snd.snd=true/\Q 0 (Q7 (a6T z x_4 t).snd.snd)) (c6 ((a6T z x_4 t).fst-0)/\(bR ((a6T z x_4 t).snd.fst=true/\(¬x_2=true∨x<=(a6T z x_4 t).fst-0)) ((0<=x_3/\x_3<(↑z.D7.length:Int))/\(bR (b8 (j6 (ix z.D7 x_4).Start)<b8 (j6 (ix z.D7 x_3).Start)) (c6 (x_4+1)/\I ((a6T z x_4 t).fst-0) (ix z.D7 x_4).To true x_4 (x_4+1)/\m ((a6T z x_4 t).fst-0) (ix z.D7 x_4).To true x_4 (x_4+1)<m x x_1 x_2 x_3 x_4) (c6 (x_4+1)/\I ((a6T z x_4 t).fst-0) (ix z.D7 x_4).To true x_3 (x_4+1)/\m ((a6T z x_4 t).fst-0) (ix z.D7 x_4).To true x_3 (x_4+1)<m x x_1 x_2 x_3 x_4))) ((0<=x_3/\x_3<(↑z.D7.length:Int))/\(bR (b8 (j6 (ix z.D7 x_4).Start)<b8 (j6 (ix z.D7 x_3).Start)) (c6 (x_4+1)/\I x x_1 (decide (x_2=true)) x_4 (x_4+1)/\m x x_1 (decide (x_2=true)) x_4 (x_4+1)<m x x_1 x_2 x_3 x_4) (c6 (x_4+1)/\I x x_1 (decide (x_2=true)) x_3 (x_4+1)/\m x x_1 (decide (x_2=true)) x_3 (x_4+1)<m x x_1 x_2 x_3 x_4))))))) ((bR (¬x_2=true) (0<=x_3/\x_3<(↑z.D7.length:Int)/\Q (ix z.D7 x_3).a8D l8.nil) (Q x_1 l8.nil))))
def b6b(l:List Obv)(t:Int):∀n e,fzE l t n=some e->∃k,e=.no k
 |0,e,h=>by cases h
 |n+1,e,h=>by
  unfold fzE at h;cases hp:fzE l t n with
  |some e' =>
   rw[hp]at h;cases h;exact b6b l t n e hp
  |none =>
   rw[hp]at h;dsimp only at h;split at h
   . cases h
   . rename_i hn;cases h;rcases a9Z (ix l n) t with h1|⟨k,h1⟩
     . exact absurd h1 hn
     . exact⟨k,by rw[h1];rfl⟩
def a9f(z:V5)(t:Int):(V0 z t).2=.nil∨∃n,(V0 z t).2=.no n:=by
 unfold V0;split
 . rename_i e he;obtain⟨k,rfl⟩:=b6b _ _ _ _ he;exact .inr ⟨k,rfl⟩
 . split <;> exact .inl rfl
def b1F{l:List Obv}{t:Int}{n:Nat}{e:l8}(h:fzE l t n=some e):∀k,fzE l t (n+k)=some e
 |0=>h
 |k+1=>by
  show fzE l t (n+k+1)=_
  unfold fzE;rw[b1F h k]
def a8b(l:List Obv)(t:Int):∀n:Nat,0<=(fz l t n).early/\((fz l t n).early<n∨(fz l t n).early=0)
 |0=>⟨d4D _,.inr rfl⟩
 |n+1=>by
  have ih:=a8b l t n;unfold fz fzN;dsimp only
  (repeat' split) <;> dsimp only <;> omega
def y7(t:Tm):-1<=b8 t/\b8 t<315537897600:=by
 unfold b8;split
 . rename_i h;have:=a2f h;omega
 . omega
def c9J(o:Obv)(t:Int):-1<=(onS o t).1/\(onS o t).1<315537897600:=by
 unfold onS;split
 . dsimp only;omega
 split
 . exact y7 _
 . exact y7 _
def b9S{e:l8}(h:e=.nil∨∃n,e=.no n):asB e=true:=by rcases h with rfl|⟨n,rfl⟩ <;> rfl
def pzd(z:V5)(t:Int)(hf:X1 z)(h0:z.D7≠[])(t0:-4000000000000000000<=t)(t1:t<=4000000000000000000):Vzd z t (fun y0 y1=>y0=(V0 z t).1/\y1=(V0 z t).2):=by
 unfold Vzd a6T;simp only[x9,A6,B3,C5,C4,C6,C8,C3,B9,D0,B7,d4p];have hl:z.D7.length≠0:=fun e=>h0 (List.length_eq_zero_iff.1 e);have hl2:=hf.1;refine⟨fun a b c d i=>0<=i/\i<=z.D7.length/\fzE z.D7 t i.toNat=none/\fz z.D7 t i.toNat=⟨a,b,c,d⟩,fun _ _ _ _ i=>((z.D7.length:Int)-i).toNat,⟨by omega,by omega,rfl,rfl⟩,?_⟩;rintro a b c d i ⟨i0,i1,he,hz⟩;have er:=a8b z.D7 t i.toNat;rw[hz]at er;dsimp only at er;refine⟨fun hi=>?_,fun hi=>?_⟩
 . have hr:=hf.2.2 _ (w5 i0 hi);have hb:=a9Z (ix z.D7 i) t;have en:(i+1).toNat=i.toNat+1:=by omega
   have ei:((i.toNat:Nat):Int)=i:=by omega
   have nE:fzE z.D7 t (i+1).toNat=if(onS (ix z.D7 i) t).2.2=.nil then none else some (Q7 (onS (ix z.D7 i) t).2.2):=by rw[en,fzE,he];dsimp only;rw[ei]
   have nZ:fz z.D7 t (i+1).toNat=fzN z.D7 t ⟨a,b,c,d⟩ i:=by rw[en,fz,hz,ei]
   unfold fzN at nZ;dsimp only at nZ;simp only[Int.add_zero,d8e];generalize hon:onS (ix z.D7 i) t=r at *;refine⟨i0,hi,⟨by omega,by omega⟩,?_,fun hn=>⟨b9S hb,?_⟩,fun hn=>?_⟩
   . by_cases e:(ix z.D7 i).b9=[]
     . exact .inl e
     . exact .inr (hr (by have:=d6X.2 e;omega))
   . rw[if_neg hn]at nE;have:=b1F nE (z.D7.length-(i+1).toNat);rw[show(i+1).toNat+(z.D7.length-(i+1).toNat)=z.D7.length by omega]at this;unfold V0;rw[this];exact⟨rfl,rfl⟩
   . have hn:=d4i.1 hn;rw[if_pos hn]at nE;have rg:=c9J (ix z.D7 i) t;rw[hon]at rg;have hcd:(r.2.1=true/\(¬c=true∨a<=r.1))↔(r.2.1=true/\(c=false∨a<=r.1)):=by rw[<- d4W]
     refine⟨⟨by omega,by omega⟩,fun hc=>?_,fun hc=>?_⟩
     . rw[if_pos (hcd.1 hc)]at nZ;refine⟨⟨er.1,by omega⟩,fun hs=>?_,fun hs=>?_⟩
       . rw[if_pos hs]at nZ;exact⟨⟨by omega,by omega⟩,⟨by omega,by omega,nE,nZ⟩,by omega⟩
       . rw[if_neg hs]at nZ;exact⟨⟨by omega,by omega⟩,⟨by omega,by omega,nE,nZ⟩,by omega⟩
     . rw[if_neg (fun h=>hc (hcd.2 h))]at nZ;refine⟨⟨er.1,by omega⟩,fun hs=>?_,fun hs=>?_⟩
       . rw[if_pos hs]at nZ;exact⟨⟨by omega,by omega⟩,⟨by omega,by omega,nE,nZ⟩,by omega⟩
       . rw[if_neg hs]at nZ;exact⟨⟨by omega,by omega⟩,⟨by omega,by omega,nE,nZ⟩,by omega⟩
 . have e:i.toNat=z.D7.length:=by omega
   rw[e]at he hz;unfold V0;rw[he,hz];dsimp only;refine⟨fun hc=>⟨er.1,by omega,by rw[if_neg hc];exact⟨rfl,rfl⟩⟩,fun hc=>by rw[if_pos (d4i.1 hc)];exact⟨rfl,rfl⟩⟩
def d3q(z:V5)(t:Int):Q1 U:=⟨[X1 z,(z.D7:List Obv)≠[],-4000000000000000000<=t,t<=4000000000000000000],[],.E8 [.int .i64 ((V0 z t).1),.err ((V0 z t).2)]⟩
def czd(a:List (SV U)):Option (Q1 U):=match a with|[.agg l_z,.int .i64 t,.fn 171]=>(y92.bk (.agg l_z)).bind fun z=>some (d3q z t)|_=>none
def Nzd:Env:=Nzt.A7 170 czd
def Nzd_ok:c8 Nzd:=Nzt_ok.A7 Tryz.call170 fun(args:List (SV U)) (q:Q1 U) (h:czd args=some q) ho=>by
 unfold czd at h;split at h
 . rename_i l_z t;obtain⟨z,hb_z,h⟩:=d4y.1 h;cases h;refine A0.conv (E:=Nzt) (args':=[.agg [.str z.ID,.sl 101 z.D7],.int .i64 t,.fn 171]) (c43 (an:=d0y 170) Nzt_ok (inlHN_ok Nzt_ok H0_ok d0y 2) Tryz.func170 (k1:=.int .i64) (k2:=.err) trivial (a9f _ _) (kc (pzd z t ho.1 ho.2.1 ho.2.2.1 ho.2.2.2.1) (by kernel_rfl)) 0) fun D w vs hr=>N6 [.agg l_z,.int .i64 t,.fn 171] [.agg [.str z.ID,.sl (N:=U) 101 z.D7],.int .i64 t,.fn 171] _ ⟨fun _ h=>b3C hb_z h,fun _ h=>h,fun _ h=>h,trivial⟩ hr
 . cases h
def c9Z:Nat->D1:=fun|133=>⟨25,nn,nn⟩|_=>⟨0,nn,nn⟩
def Vzf(z:V5)(t:Tm)(Q:Int->l8->Prop):Prop:=
X1 (etZ z)/\(bR ((¬bo (a4C (etZ z))=true∨¬o7 (j6 t)=true)∨t.UTC=true) (Q 0 (l8.no 2)) ((X1 (etZ z)/\z.D7≠[]/\(-4000000000000000000:Int)<=b8 (j6 t)/\b8 (j6 t)<=4000000000000000000)/\Q (V0 (etZ z) (b8 (j6 t))).fst (V0 (etZ z) (b8 (j6 t))).snd))
def b2U(z:V5)(t:Tm):(U8 z t).2=.nil∨∃n,(U8 z t).2=.no n:=by
 unfold U8;split
 . exact a9f _ _
 . exact .inr ⟨2,rfl⟩
def pzf(z:V5)(t:Tm)(hf:X1 z):Vzf z t (fun y0 y1=>y0=(U8 z t).1/\y1=(U8 z t).2):=by
 unfold Vzf;simp only[x9,A6,B3,C5,C4,C6,C8,C3,B9,D0,B7,d4p];refine⟨hf,fun h=>?_,fun h=>?_⟩
 . unfold U8;rw[if_neg]
   . exact⟨rfl,rfl⟩
   . rintro⟨a,b,c⟩;rcases h with(h|h)|h
     . exact h (y6.2 a)
     . exact h b
     . rw[c]at h;cases h
 . have a:a4C z:=y6.1 (d4i.1 fun e=>h (.inl (.inl e)));have b:o7 t=true:=d4i.1 fun e=>h (.inl (.inr e));have c:t.UTC=false:=d4W _ ▸ fun e=>h (.inr e);have rg:=y7 t;unfold U8;rw[if_pos ⟨a,b,c⟩];exact⟨⟨hf,fun e=>a.2.2.2.1 (by rw[e];rfl),by omega,by omega⟩,rfl,rfl⟩
def Nzf:Env:=Nzd.kM 133 (r92.c (r26.c .n)) (.int .i64) (.err) (fun y=>[X1 y.1]) (fun y=>((U8 y.1 y.2.1).1:Int)) (fun y=>((U8 y.1 y.2.1).2:l8))
def Nzf_ok:c8 Nzf:=Nzd_ok.kM Tryz.call133 Tryz.func133 (inlHN_ok Nzd_ok H0_ok c9Z 2) (an:=c9Z 133) (fun _ _=>trivial) (fun y ho=>(b2U _ _)) fun y ho=>kc (pzf y.1 y.2.1 ho.1) (by kernel_rfl)
def d0g:Nat->D1:=fun|134=>⟨23,nn,nn⟩|_=>⟨0,nn,nn⟩
def Vzm(t:Tm)(n:Int)(u:Bool)(Q:Tm->l8->Prop):Prop:=
c6 (b8 (j6 t)+n)/\b8 (j6 t)+n<=9000000000000000000/\(bR ((K3 (b8 (j6 t)+n) (Tm.mk (Dy.mk 0 0 0) 0 0 0 false (decide (u=true)))).Day.Year=0) (Q (Tm.mk (Dy.mk 0 0 0) 0 0 0 false false) (l8.no 3)) (Q (j6 (K3 (b8 (j6 t)+n) (Tm.mk (Dy.mk 0 0 0) 0 0 0 false (decide (u=true))))) l8.nil))
def b1z(t:Tm)(n:Int)(u:Bool):(a4Y t n u).2=.nil∨∃k,(a4Y t n u).2=.no k:=by
 unfold a4Y;split
 . exact .inr ⟨3,rfl⟩
 . exact .inl rfl
def pzm(t:Tm)(n:Int)(u:Bool)(n0:-1000000000<=n)(n1:n<=1000000000):Vzm t n u (fun y0 y1=>y0=(a4Y t n u).1/\y1=(a4Y t n u).2):=by
 unfold Vzm;simp only[x9,A6,B3,C5,C4,C6,C8,C3,B9,D0,B7,d4p];have rg:=y7 t;refine⟨⟨by omega,by omega⟩,by omega,fun h=>?_,fun h=>?_⟩
 . unfold a4Y;rw[if_pos h];exact⟨rfl,rfl⟩
 . unfold a4Y;rw[if_neg h];exact⟨rfl,rfl⟩
def Nzm:Env:=Nzf.kM 134 (r26.c (rI.c (rbo.c .n))) (.val 26) (.err) (fun y=>[-1000000000<=y.2.1,y.2.1<=1000000000]) (fun y=>((a4Y y.1 y.2.1 y.2.2.1).1:Tm)) (fun y=>((a4Y y.1 y.2.1 y.2.2.1).2:l8))
def Nzm_ok:c8 Nzm:=Nzf_ok.kM Tryz.call134 Tryz.func134 (inlHN_ok Nzf_ok H0_ok d0g 2) (an:=d0g 134) (fun y ho=>⟨_,_,rfl,rfl,rfl⟩) (fun y ho=>(b1z _ _ _)) fun y ho=>kc (pzm y.1 y.2.1 y.2.2.1 ho.1 ho.2.1) (by kernel_rfl)
def c8K:Nat->D1:=fun|89=>⟨35,nn,nn⟩|_=>⟨0,nn,nn⟩
def Vzu(z:V5)(t:Tm)(Q:Tm->l8->Prop):Prop:=
X1 (etZ z)/\(bR ((bo (a4C (etZ z))=true/\o7 (j6 t)=true)/\t.UTC=true) (Q (j6 t) l8.nil) (X1 (etZ z)/\(bR ((U8 (etZ z) (j6 t)).snd≠l8.nil) (Q (Tm.mk (Dy.mk 0 0 0) 0 0 0 false false) (U8 (etZ z) (j6 t)).snd) (c6 ((0:Int)-(U8 (etZ z) (j6 t)).fst)/\(-1000000000:Int)<=(0:Int)-(U8 (etZ z) (j6 t)).fst/\(0:Int)-(U8 (etZ z) (j6 t)).fst<=1000000000/\Q (j6 (a4Y (j6 t) ((0:Int)-(U8 (etZ z) (j6 t)).fst) true).fst) (a4Y (j6 t) ((0:Int)-(U8 (etZ z) (j6 t)).fst) true).snd))))
def c17{l:List Obv}(h:q9 l.length fun j=>c18 (ix l j))(t:Int):∀n:Nat,n<=l.length->-86400<=(fz l t n).out/\(fz l t n).out<=86400
 |0,_=>by show(-86400:Int)<=0/\(0:Int)<=86400;omega
 |n+1,hn=>by
  have ih:=c17 h t n (by omega);have o:=(h n (by omega) (by omega)).2.2.2.1;unfold b9Q at o;have o:=d5e o;unfold fz fzN;dsimp only
  (repeat' split) <;> dsimp only <;> omega
def b3S(z:V5)(t:Tm):-86400<=(U8 z t).1/\(U8 z t).1<=86400:=by
 unfold U8;split
 . rename_i h;have hz:=h.1.2.2.2.2.2;unfold V0;split
   . dsimp only;omega
   split
   . exact c17 hz _ _ (d4C _)
   . have e:=a8b z.D7 (b8 t) z.D7.length;have p:=h.1.2.2.2.1;have o:=(hz (fz z.D7 (b8 t) z.D7.length).early e.1 (by omega)).2.2.1;unfold b9Q at o;have o:=d5e o;dsimp only;omega
 . dsimp only;omega
def b0Y(z:V5)(t:Tm):(V9 z t).2=.nil∨∃n,(V9 z t).2=.no n:=by
 unfold V9;split
 . exact .inl rfl
 split
 . exact b1z _ _ _
 . exact b2U _ _
def pzu(z:V5)(t:Tm)(hf:X1 z):Vzu z t (fun y0 y1=>y0=(V9 z t).1/\y1=(V9 z t).2):=by
 unfold Vzu;simp only[x9,A6,B3,C5,C4,C6,C8,C3,B9,D0,B7,d4p];have rg:=b3S z t;refine⟨hf,fun h=>?_,fun h=>⟨hf,fun he=>?_,fun he=>?_⟩⟩
 . unfold V9;rw[if_pos ⟨y6.1 h.1.1,h.1.2,h.2⟩];exact⟨rfl,rfl⟩
 . unfold V9;rw[if_neg (fun e=>h ⟨⟨y6.2 e.1,e.2.1⟩,e.2.2⟩),if_neg he];exact⟨rfl,rfl⟩
 . refine⟨⟨by omega,by omega⟩,by omega,by omega,?_⟩;unfold V9;rw[if_neg (fun e=>h ⟨⟨y6.2 e.1,e.2.1⟩,e.2.2⟩),if_pos (d4i.1 he),Int.zero_sub];exact⟨rfl,rfl⟩
def Nzu:Env:=Nzm.kM 89 (r92.c (r26.c .n)) (.val 26) (.err) (fun y=>[X1 y.1]) (fun y=>((V9 y.1 y.2.1).1:Tm)) (fun y=>((V9 y.1 y.2.1).2:l8))
def Nzu_ok:c8 Nzu:=Nzm_ok.kM Tryz.call89 Tryz.func89 (inlHN_ok Nzm_ok H0_ok c8K 2) (an:=c8K 89) (fun y ho=>⟨_,_,rfl,rfl,rfl⟩) (fun y ho=>(b0Y _ _)) fun y ho=>kc (pzu y.1 y.2.1 ho.1) (by kernel_rfl)
def d0t:Nat->D1:=fun|78=>⟨13,nn,nn⟩|_=>⟨0,nn,nn⟩
def Vrw(p:J8)(Q:y8->Prop):Prop:=
z7 (Y8 p)/\(bR ((a0p (Y8 p)).snd≠l8.nil) (Q []) (Q (a0p (Y8 p)).fst))
def prw(p:J8)(hp:z7 p):Vrw p (fun y0=>y0=G8 p):=by unfold Vrw;simp only[x9,A6,B3,C5,C4,C6,C8,C3,B9,D0,B7,d4p];unfold G8;exact⟨hp,fun h=>by rw[if_neg h],fun h=>by rw[if_pos (d4i.1 h)]⟩
def Nrw:Env:=Nzu.kL 78 (r86.c .n) (.str) (fun y=>[z7 y.1]) (fun y=>G8 y.1)
def Nrw_ok:c8 Nrw:=Nzu_ok.kL Tryz.call78 Tryz.func78 (inlHN_ok Nzu_ok H0_ok d0t 2) (an:=d0t 78) (fun _ _=>trivial) fun y ho=>kc (prw y.1 ho.1) (by kernel_rfl)
def c9w:Nat->D1:=fun|42=>⟨28,nn,nn⟩|_=>⟨0,nn,nn⟩
def Vfo(a:G9)(b:G9)(Q:Bool->Prop):Prop:=
Q (decide (((a.Time.n9=true↔b.Time.n9=true)/\(a.Time.UTC=true↔b.Time.UTC=true))/\a.I3=b.I3))
def pfo(a:G9)(b:G9)  : Vfo a b (fun y0=>y0=R4 a b):=by
 unfold Vfo;show _=decide _
 exact d5c.2 (by simp[and_assoc])
def Nfo:Env:=Nrw.kL 42 (r28.c (r28.c .n)) (.bool) (fun _=>[]) (fun y=>R4 y.1 y.2.1)
def Nfo_ok:c8 Nfo:=Nrw_ok.kL Tryz.call42 Tryz.func42 (inlHN_ok Nrw_ok H0_ok c9w 2) (an:=c9w 42) (fun _ _=>trivial) fun y ho=>kc (pfo y.1 y.2.1 ) (by kernel_rfl)
def d1f:Nat->D1:=fun|83=>⟨14,nn,nn⟩|_=>⟨0,nn,nn⟩
def Vkn(s:y8)(Q:Bool->Prop):Prop:=
(bR (s=([85,73,68]:List UInt8)) ((bR (s=([85,73,68]:List UInt8)) (Q true) (Q false))) ((bR (s=([82,69,67,85,82,82,69,78,67,69,45,73,68]:List UInt8)) ((bR (s=([82,69,67,85,82,82,69,78,67,69,45,73,68]:List UInt8)) (Q true) (Q false))) ((bR (s=([68,84,83,84,65,82,84]:List UInt8)) ((bR (s=([68,84,83,84,65,82,84]:List UInt8)) (Q true) (Q false))) ((bR (s=([68,84,69,78,68]:List UInt8)) ((bR (s=([68,84,69,78,68]:List UInt8)) (Q true) (Q false))) ((bR (s=([68,85,69]:List UInt8)) ((bR (s=([68,85,69]:List UInt8)) (Q true) (Q false))) ((bR (s=([68,85,82,65,84,73,79,78]:List UInt8)) ((bR (s=([68,85,82,65,84,73,79,78]:List UInt8)) (Q true) (Q false))) ((bR (s=([82,82,85,76,69]:List UInt8)) ((bR (s=([82,82,85,76,69]:List UInt8)) (Q true) (Q false))) ((bR (s=([82,68,65,84,69]:List UInt8)) ((bR (s=([82,68,65,84,69]:List UInt8)) (Q true) (Q false))) ((bR (s=([69,88,68,65,84,69]:List UInt8)) (Q true) (Q false))))))))))))))))))
def pkn(s:y8)  : Vkn s (fun y0=>y0=a2c s):=by
 unfold Vkn;unfold a2c;refine⟨fun h=>⟨fun _=>?_,fun h'=>absurd h h'⟩,fun h1=>⟨fun h=>⟨fun _=>?_,fun h'=>absurd h h'⟩,fun h2=>⟨fun h=>⟨fun _=>?_,fun h'=>absurd h h'⟩,fun h3=>⟨fun h=>⟨fun _=>?_,fun h'=>absurd h h'⟩,fun h4=>⟨fun h=>⟨fun _=>?_,fun h'=>absurd h h'⟩,fun h5=>⟨fun h=>⟨fun _=>?_,fun h'=>absurd h h'⟩,fun h6=>⟨fun h=>⟨fun _=>?_,fun h'=>absurd h h'⟩,fun h7=>⟨fun h=>⟨fun _=>?_,fun h'=>absurd h h'⟩,fun h8=>⟨fun h=>?_,fun h9=>?_⟩⟩⟩⟩⟩⟩⟩⟩⟩
 all_goals show _=decide _
 all_goals symm
 all_goals first|exact d4F (by rintro(h|h|h|h|h|h|h|h|h) <;> contradiction)|exact d4u (by subst h;simp)
def Nkn:Env:=Nfo.kL 83 (rS.c .n) (.bool) (fun _=>[]) (fun y=>a2c y.1)
def Nkn_ok:c8 Nkn:=Nfo_ok.kL Tryz.call83 Tryz.func83 (inlHN_ok Nfo_ok H0_ok d1f 2) (an:=d1f 83) (fun _ _=>trivial) fun y ho=>kc (pkn y.1 ) (by kernel_rfl)
def d0U:Env:=Nkn.z6 40 Tryz.f40
def NI40_ok:c8 d0U:=Nkn_ok.z6 Tryz.call40 Tryz.func40
def c9Q:Env:=d0U.z6 88 Tryz.f88
def NI88_ok:c8 c9Q:=NI40_ok.z6 Tryz.call88 Tryz.func88
def c48:Env:=c9Q.z6 128 Tryz.f128
def NI128_ok:c8 c48:=NI88_ok.z6 Tryz.call128 Tryz.func128
def d0W:Nat->D1:=fun|79=>⟨29,nn,nn⟩|40=>⟨9,nn,nn⟩|88=>⟨19,fun|2=>some ⟨[0,1,7],[.slot 8 (.int .i64)]⟩|_=>none,nn⟩|128=>⟨9,nn,nn⟩|_=>⟨0,nn,nn⟩
def Vmo(o:E3)(m:G9)(Q:Bool->Prop):Prop:=
(bR (¬o7 (j6 m.Time)=true) (Q false) ((bR (m.I3=[]) (Q true) ((bR (¬m.Time.n9=true/\¬m.Time.UTC=true) (∃(I:Int->Prop),∃(m_1:Int->Nat),I 0/\∀(x:Int),I x->(bR (x<(↑o.c9.length:Int)) (0<=x/\x<(↑o.c9.length:Int)/\(bR ((ix o.c9 x).ID=m.I3) (Q (decide (0<=x))) (c6 (x+1)/\I (x+1)/\m_1 (x+1)<m_1 x))) (Q (decide ((0:Int)<=(-1:Int)))))) (Q false))))))
def pmo(o:E3)(m:G9)(hz:o.c9.length<=1000):Vmo o m (fun y0=>y0=bo (V3 o.c9 m)):=by
 unfold Vmo;simp only[x9,A6,B3,C5,C4,C6,C8,C3,B9,D0,B7,d4p];refine⟨fun h=>G1 fun e=>h e.1,fun h=>?_⟩;have h:=d4i.1 h;refine⟨fun e=>a3w ⟨h,fun n=>absurd e n⟩,fun e=>⟨fun hh=>?_,fun hh=>G1 fun p=>hh ⟨by rw[(p.2 e).1];exact d5i,by rw[(p.2 e).2.1];exact d5i⟩⟩⟩;refine⟨fun x=>0<=x/\x<=o.c9.length/\q9 x fun j=>(ix o.c9 j).ID≠m.I3,fun x=>((o.c9.length:Int)-x).toNat,⟨by omega,by omega,q9.zero⟩,?_⟩;rintro x ⟨x0,x1,hx⟩;refine⟨fun hi=>⟨x0,hi,fun hd=>?_,fun hd=>⟨⟨by omega,by omega⟩,⟨by omega,by omega,hx.succ hd⟩,by dsimp only;omega⟩⟩,fun hi=>?_⟩
 . rw[d4u x0];exact a3w ⟨h,fun _=>⟨d4W _ ▸ hh.1,d4W _ ▸ hh.2,x,x0,hi,hd⟩⟩
 . exact G1 fun p=>by obtain⟨j,j0,j1,hj⟩:=(p.2 e).2.2;exact hx j j0 (by omega) hj
def Nmo:Env:=c48.kL 79 (r38.c (r28.c .n)) (.bool) (fun y=>[y.1.c9.length<=1000]) (fun y=>bo (V3 y.1.c9 y.2.1))
def Nmo_ok:c8 Nmo:=NI128_ok.kL Tryz.call79 Tryz.func79 (inlHN_ok NI128_ok H0_ok d0W 4) (an:=d0W 79) (fun _ _=>trivial) fun y ho=>kc (pmo y.1 y.2.1 ho.1) (by kernel_rfl)
end Go.Proofs.YtapnoejokajcoaaGreatDoor
section
namespace Go.Proofs.YtapnoejokajcoaaGreatDoor
open Go Go.Wk Go.Wl Go.Rx Go.Re Go.Li Go.Qu Go.Fo 
def b0l(l:List J8)(no:y8->Bool)(j:Int):Prop:=G8 (ix l j)≠[]/\((G8 (ix l j)).length:Int)<=5000/\(ix l j).Name≠bgN/\(ix l j).Name≠enN/\no (ix l j).Name=false/\(0<j->(Op.bytesLess (G8 (ix l (j-1))) (G8 (ix l j))=true∨G8 (ix l (j-1))=G8 (ix l j)))
attribute [local irreducible] i7
def c8z:Nat->D1:=fun|130=>⟨9,nn,nn⟩|_=>⟨0,nn,nn⟩
def Vaq(s:y8)(Q:Bool->Prop):Prop:=
Q (decide (s=([65,67,84,73,79,78]:List UInt8)∨s=([84,82,73,71,71,69,82]:List UInt8)))
def paq(s:y8)  : Vaq s (fun y0=>y0=a1T s):=by
 unfold Vaq;unfold a1T
 first|rfl|exact d5c.2 d6V
def Naq:Env:=Nmo.kL 130 (rS.c .n) (.bool) (fun _=>[]) (fun y=>a1T y.1)
def Naq_ok:c8 Naq:=Nmo_ok.kL Tryz.call130 Tryz.func130 (inlHN_ok Nmo_ok H0_ok c8z 2) (an:=c8z 130) (fun _ _=>trivial) fun y ho=>kc (paq y.1 ) (by kernel_rfl)
end Go.Proofs.YtapnoejokajcoaaGreatDoor
end
namespace Go.Proofs.YtapnoejokajcoaaGreatDoor
open Go Go.Wk Go.Wl Go.Rx Go.Re Go.Li Go.Qu Go.Fo 
attribute [local irreducible] i7
def d0b:Nat->D1:=fun|37=>⟨5,nn,nn⟩|_=>⟨0,nn,nn⟩
def Vrq(s:y8)(Q:Bool->Prop):Prop:=
Q (decide (s=([86,69,82,83,73,79,78]:List UInt8)))
def prq(s:y8)  : Vrq s (fun y0=>y0=a0Y s):=by
 unfold Vrq;unfold a0Y
 first|rfl|exact d5c.2 d6V
def Nrq:Env:=Naq.kL 37 (rS.c .n) (.bool) (fun _=>[]) (fun y=>a0Y y.1)
def Nrq_ok:c8 Nrq:=Naq_ok.kL Tryz.call37 Tryz.func37 (inlHN_ok Naq_ok H0_ok d0b 2) (an:=d0b 37) (fun _ _=>trivial) fun y ho=>kc (prq y.1 ) (by kernel_rfl)
def c57:Nat->D1:=fun|36=>⟨59,fun|2=>some ⟨[0,1,8,9],[.slot 10 (.int .i64)]⟩|_=>none,nn⟩|_=>⟨0,nn,nn⟩
def a8c  := ([66,69,71,73,78]:List UInt8)
def a7t(l:List J8)(x:Int):=List.length (G8 (Y8 (ix l x)))
def a8e  := ([69,78,68]:List UInt8)
def d1Q(l:List J8)(Q:Bool->Prop):Prop:=
∃(I:Int->Prop),∃(m:Int->Nat),I 0/\∀(x:Int),I x->(bR (x<(↑l.length:Int)) (0<=x/\x<(↑l.length:Int)/\z7 (Y8 (ix l x))/\(¬((((G8 (Y8 (ix l x))=[]∨5000<(↑(a7t l x):Int))∨(ix l x).Name=a8c)∨(ix l x).Name=a8e)∨a2c (ix l x).Name=true)/\0<x->c6 (x-1))/\((¬((((G8 (Y8 (ix l x))=[]∨5000<(↑(a7t l x):Int))∨(ix l x).Name=a8c)∨(ix l x).Name=a8e)∨a2c (ix l x).Name=true)/\0<x->0<=x-1)/\(¬((((G8 (Y8 (ix l x))=[]∨5000<(↑(a7t l x):Int))∨(ix l x).Name=a8c)∨(ix l x).Name=a8e)∨a2c (ix l x).Name=true)/\0<x->x-1<(↑l.length:Int)))/\(¬((((G8 (Y8 (ix l x))=[]∨5000<(↑(a7t l x):Int))∨(ix l x).Name=a8c)∨(ix l x).Name=a8e)∨a2c (ix l x).Name=true)/\0<x->z7 (Y8 (ix l (x-1))))/\(¬((((G8 (Y8 (ix l x))=[]∨5000<(↑(a7t l x):Int))∨(ix l x).Name=a8c)∨(ix l x).Name=a8e)∨a2c (ix l x).Name=true)/\0<x->z7 (Y8 (ix l x)))/\(bR (((((G8 (Y8 (ix l x))=[]∨5000<(↑(a7t l x):Int))∨(ix l x).Name=a8c)∨(ix l x).Name=a8e)∨a2c (ix l x).Name=true)∨0<x/\¬(Op.bytesLess (G8 (Y8 (ix l (x-1)))) (G8 (Y8 (ix l x)))=true∨G8 (Y8 (ix l (x-1)))=G8 (Y8 (ix l x)))) (Q false) (c6 (x+1)/\I (x+1)/\m (x+1)<m x))) (Q (decide ((↑l.length:Int)<=100))))
def d3u(l:List J8)(hp:∀p∈l,z7 p)(hl:(l.length:Int)<=1000000):d1Q l (fun y0=>y0=bo (a1G l a2c)):=by
 unfold d1Q a8e a7t a8c;simp only[x9,A6,B3,C5,C4,C6,C8,C3,B9,D0,B7,d4p];refine⟨fun x=>0<=x/\x<=l.length/\q9 x (b0l l a2c),fun x=>((l.length:Int)-x).toNat,⟨by omega,by omega,q9.zero⟩,?_⟩;rintro x ⟨x0,x1,hx⟩;refine⟨fun hi=>?_,fun hi=>?_⟩
 . have sp:=hp _ (w5 x0 hi);refine⟨x0,hi,sp,fun h=>⟨by omega,by omega⟩,⟨fun h=>by omega,fun h=>by omega⟩,fun h=>hp _ (w5 (by omega) (by omega)),fun _=>sp,fun h=>G1 fun e=>?_,fun h=>?_⟩
   . obtain⟨a,b,c,d,n,g⟩:b0l l a2c x:=e.1 x x0 hi;rcases h with((((h|h)|h)|h)|h)|h
     . exact a h
     . omega
     . exact c h
     . exact d h
     . rw[h]at n;cases n
     . exact h.2 (g h.1)
   . have:b0l l a2c x:=⟨fun e=>h (.inl (.inl (.inl (.inl (.inl e))))),d4X.1 fun e=>h (.inl (.inl (.inl (.inl (.inr e))))),fun e=>h (.inl (.inl (.inl (.inr e)))),fun e=>h (.inl (.inl (.inr e))),d4W _ ▸ fun e=>h (.inl (.inr e)),fun p=>d4i.1 fun e=>h (.inr ⟨p,e⟩)⟩;exact⟨⟨by omega,by omega⟩,⟨by omega,by omega,hx.succ this⟩,by dsimp only;omega⟩
 . refine a1g ⟨fun e=>⟨fun j j0 j1=>hx j j0 (by omega),e⟩,fun e=>e.2⟩
def b7G(a:List (SV U)):Option (Q1 U):=match a with|[.sl 86 l,.fn 83]=>some ⟨[∀p∈l,z7 p,(l.length:Int)<=1000000],[],I0 (bo (a1G l a2c))⟩|_=>none
def ceu1_ok(args:List (SV U))(q:Q1 U)(h:b7G args=some q)(ho:p8 q.ob):A0 Nrq 36 args ⟨q.ob,q.hy,q.v,[]⟩:=by
 unfold b7G at h;split at h
 . rename_i l;cases h;exact H6 (an:=c57 36) Nrq_ok (inlHN_ok Nrq_ok H0_ok c57 4) Tryz.func36 (k:=.bool) (x:=bo (a1G l a2c)) trivial (kc (d3u l ho.1 ho.2.1) (by kernel_rfl)) 0
 . cases h
def b7t:Env:=Nrq.A7 36 b7G
def Neu1_ok:c8 b7t:=Nrq_ok.A7 Tryz.call36 ceu1_ok
def c5r:Nat->D1:=fun|36=>⟨59,fun|2=>some ⟨[0,1,8,9],[.slot 10 (.int .i64)]⟩|_=>none,nn⟩|_=>⟨0,nn,nn⟩
def a6t  := ([66,69,71,73,78]:List UInt8)
def a6A(l:List J8)(x:Int):=List.length (G8 (Y8 (ix l x)))
def a7z  := ([69,78,68]:List UInt8)
def c8M(l:List J8)(Q:Bool->Prop):Prop:=
∃(I:Int->Prop),∃(m:Int->Nat),I 0/\∀(x:Int),I x->(bR (x<(↑l.length:Int)) (0<=x/\x<(↑l.length:Int)/\z7 (Y8 (ix l x))/\(¬((((G8 (Y8 (ix l x))=[]∨5000<(↑(a6A l x):Int))∨(ix l x).Name=a6t)∨(ix l x).Name=a7z)∨a1T (ix l x).Name=true)/\0<x->c6 (x-1))/\((¬((((G8 (Y8 (ix l x))=[]∨5000<(↑(a6A l x):Int))∨(ix l x).Name=a6t)∨(ix l x).Name=a7z)∨a1T (ix l x).Name=true)/\0<x->0<=x-1)/\(¬((((G8 (Y8 (ix l x))=[]∨5000<(↑(a6A l x):Int))∨(ix l x).Name=a6t)∨(ix l x).Name=a7z)∨a1T (ix l x).Name=true)/\0<x->x-1<(↑l.length:Int)))/\(¬((((G8 (Y8 (ix l x))=[]∨5000<(↑(a6A l x):Int))∨(ix l x).Name=a6t)∨(ix l x).Name=a7z)∨a1T (ix l x).Name=true)/\0<x->z7 (Y8 (ix l (x-1))))/\(¬((((G8 (Y8 (ix l x))=[]∨5000<(↑(a6A l x):Int))∨(ix l x).Name=a6t)∨(ix l x).Name=a7z)∨a1T (ix l x).Name=true)/\0<x->z7 (Y8 (ix l x)))/\(bR (((((G8 (Y8 (ix l x))=[]∨5000<(↑(a6A l x):Int))∨(ix l x).Name=a6t)∨(ix l x).Name=a7z)∨a1T (ix l x).Name=true)∨0<x/\¬(Op.bytesLess (G8 (Y8 (ix l (x-1)))) (G8 (Y8 (ix l x)))=true∨G8 (Y8 (ix l (x-1)))=G8 (Y8 (ix l x)))) (Q false) (c6 (x+1)/\I (x+1)/\m (x+1)<m x))) (Q (decide ((↑l.length:Int)<=100))))
def d3s(l:List J8)(hp:∀p∈l,z7 p)(hl:(l.length:Int)<=1000000):c8M l (fun y0=>y0=bo (a1G l a1T)):=by
 unfold c8M a7z a6A a6t;simp only[x9,A6,B3,C5,C4,C6,C8,C3,B9,D0,B7,d4p];refine⟨fun x=>0<=x/\x<=l.length/\q9 x (b0l l a1T),fun x=>((l.length:Int)-x).toNat,⟨by omega,by omega,q9.zero⟩,?_⟩;rintro x ⟨x0,x1,hx⟩;refine⟨fun hi=>?_,fun hi=>?_⟩
 . have sp:=hp _ (w5 x0 hi);refine⟨x0,hi,sp,fun h=>⟨by omega,by omega⟩,⟨fun h=>by omega,fun h=>by omega⟩,fun h=>hp _ (w5 (by omega) (by omega)),fun _=>sp,fun h=>G1 fun e=>?_,fun h=>?_⟩
   . obtain⟨a,b,c,d,n,g⟩:b0l l a1T x:=e.1 x x0 hi;rcases h with((((h|h)|h)|h)|h)|h
     . exact a h
     . omega
     . exact c h
     . exact d h
     . rw[h]at n;cases n
     . exact h.2 (g h.1)
   . have:b0l l a1T x:=⟨fun e=>h (.inl (.inl (.inl (.inl (.inl e))))),d4X.1 fun e=>h (.inl (.inl (.inl (.inl (.inr e))))),fun e=>h (.inl (.inl (.inl (.inr e)))),fun e=>h (.inl (.inl (.inr e))),d4W _ ▸ fun e=>h (.inl (.inr e)),fun p=>d4i.1 fun e=>h (.inr ⟨p,e⟩)⟩;exact⟨⟨by omega,by omega⟩,⟨by omega,by omega,hx.succ this⟩,by dsimp only;omega⟩
 . refine a1g ⟨fun e=>⟨fun j j0 j1=>hx j j0 (by omega),e⟩,fun e=>e.2⟩
def b7W(a:List (SV U)):Option (Q1 U):=match a with|[.sl 86 l,.fn 130]=>some ⟨[∀p∈l,z7 p,(l.length:Int)<=1000000],[],I0 (bo (a1G l a1T))⟩|_=>none
def ceu2_ok(args:List (SV U))(q:Q1 U)(h:b7W args=some q)(ho:p8 q.ob):A0 b7t 36 args ⟨q.ob,q.hy,q.v,[]⟩:=by
 unfold b7W at h;split at h
 . rename_i l;cases h;exact H6 (an:=c5r 36) Neu1_ok (inlHN_ok Neu1_ok H0_ok c5r 4) Tryz.func36 (k:=.bool) (x:=bo (a1G l a1T)) trivial (kc (d3s l ho.1 ho.2.1) (by kernel_rfl)) 0
 . cases h
def b7z:Env:=b7t.A7 36 b7W
def Neu2_ok:c8 b7z:=Neu1_ok.A7 Tryz.call36 ceu2_ok
def c5d:Nat->D1:=fun|36=>⟨59,fun|2=>some ⟨[0,1,8,9],[.slot 10 (.int .i64)]⟩|_=>none,nn⟩|_=>⟨0,nn,nn⟩
def a7c  := ([66,69,71,73,78]:List UInt8)
def a6L(l:List J8)(x:Int):=List.length (G8 (Y8 (ix l x)))
def a6u  := ([69,78,68]:List UInt8)
def d2n(l:List J8)(Q:Bool->Prop):Prop:=
∃(I:Int->Prop),∃(m:Int->Nat),I 0/\∀(x:Int),I x->(bR (x<(↑l.length:Int)) (0<=x/\x<(↑l.length:Int)/\z7 (Y8 (ix l x))/\(¬((((G8 (Y8 (ix l x))=[]∨5000<(↑(a6L l x):Int))∨(ix l x).Name=a7c)∨(ix l x).Name=a6u)∨a0Y (ix l x).Name=true)/\0<x->c6 (x-1))/\((¬((((G8 (Y8 (ix l x))=[]∨5000<(↑(a6L l x):Int))∨(ix l x).Name=a7c)∨(ix l x).Name=a6u)∨a0Y (ix l x).Name=true)/\0<x->0<=x-1)/\(¬((((G8 (Y8 (ix l x))=[]∨5000<(↑(a6L l x):Int))∨(ix l x).Name=a7c)∨(ix l x).Name=a6u)∨a0Y (ix l x).Name=true)/\0<x->x-1<(↑l.length:Int)))/\(¬((((G8 (Y8 (ix l x))=[]∨5000<(↑(a6L l x):Int))∨(ix l x).Name=a7c)∨(ix l x).Name=a6u)∨a0Y (ix l x).Name=true)/\0<x->z7 (Y8 (ix l (x-1))))/\(¬((((G8 (Y8 (ix l x))=[]∨5000<(↑(a6L l x):Int))∨(ix l x).Name=a7c)∨(ix l x).Name=a6u)∨a0Y (ix l x).Name=true)/\0<x->z7 (Y8 (ix l x)))/\(bR (((((G8 (Y8 (ix l x))=[]∨5000<(↑(a6L l x):Int))∨(ix l x).Name=a7c)∨(ix l x).Name=a6u)∨a0Y (ix l x).Name=true)∨0<x/\¬(Op.bytesLess (G8 (Y8 (ix l (x-1)))) (G8 (Y8 (ix l x)))=true∨G8 (Y8 (ix l (x-1)))=G8 (Y8 (ix l x)))) (Q false) (c6 (x+1)/\I (x+1)/\m (x+1)<m x))) (Q (decide ((↑l.length:Int)<=100))))
def d3x(l:List J8)(hp:∀p∈l,z7 p)(hl:(l.length:Int)<=1000000):d2n l (fun y0=>y0=bo (a1G l a0Y)):=by
 unfold d2n a6u a6L a7c;simp only[x9,A6,B3,C5,C4,C6,C8,C3,B9,D0,B7,d4p];refine⟨fun x=>0<=x/\x<=l.length/\q9 x (b0l l a0Y),fun x=>((l.length:Int)-x).toNat,⟨by omega,by omega,q9.zero⟩,?_⟩;rintro x ⟨x0,x1,hx⟩;refine⟨fun hi=>?_,fun hi=>?_⟩
 . have sp:=hp _ (w5 x0 hi);refine⟨x0,hi,sp,fun h=>⟨by omega,by omega⟩,⟨fun h=>by omega,fun h=>by omega⟩,fun h=>hp _ (w5 (by omega) (by omega)),fun _=>sp,fun h=>G1 fun e=>?_,fun h=>?_⟩
   . obtain⟨a,b,c,d,n,g⟩:b0l l a0Y x:=e.1 x x0 hi;rcases h with((((h|h)|h)|h)|h)|h
     . exact a h
     . omega
     . exact c h
     . exact d h
     . rw[h]at n;cases n
     . exact h.2 (g h.1)
   . have:b0l l a0Y x:=⟨fun e=>h (.inl (.inl (.inl (.inl (.inl e))))),d4X.1 fun e=>h (.inl (.inl (.inl (.inl (.inr e))))),fun e=>h (.inl (.inl (.inl (.inr e)))),fun e=>h (.inl (.inl (.inr e))),d4W _ ▸ fun e=>h (.inl (.inr e)),fun p=>d4i.1 fun e=>h (.inr ⟨p,e⟩)⟩;exact⟨⟨by omega,by omega⟩,⟨by omega,by omega,hx.succ this⟩,by dsimp only;omega⟩
 . refine a1g ⟨fun e=>⟨fun j j0 j1=>hx j j0 (by omega),e⟩,fun e=>e.2⟩
def b6N(a:List (SV U)):Option (Q1 U):=match a with|[.sl 86 l,.fn 37]=>some ⟨[∀p∈l,z7 p,(l.length:Int)<=1000000],[],I0 (bo (a1G l a0Y))⟩|_=>none
def ceu3_ok(args:List (SV U))(q:Q1 U)(h:b6N args=some q)(ho:p8 q.ob):A0 b7z 36 args ⟨q.ob,q.hy,q.v,[]⟩:=by
 unfold b6N at h;split at h
 . rename_i l;cases h;exact H6 (an:=c5d 36) Neu2_ok (inlHN_ok Neu2_ok H0_ok c5d 4) Tryz.func36 (k:=.bool) (x:=bo (a1G l a0Y)) trivial (kc (d3x l ho.1 ho.2.1) (by kernel_rfl)) 0
 . cases h
def c3K:Env:=b7z.A7 36 b6N
def Neu3_ok:c8 c3K:=Neu2_ok.A7 Tryz.call36 ceu3_ok
def A0.up{E:Env}{K k:Nat}{C:List E.SV->Option (Q1 E.N)}{args:List E.SV}{q:CR E.N}(h:A0 E K args q):A0 (E.A7 k C) K args q:=h
def c7R{args:List (SV U)}{q:CR U}(h:A0 Nrq 36 args q):A0 b7t 36 args q:=A0.up (E:=Nrq) (K:=36) (k:=36) (C:=b7G) (args:=args) (q:=q) h
def c0b{args:List (SV U)}{q:CR U}(h:A0 b7t 36 args q):A0 b7z 36 args q:=A0.up (E:=b7t) (K:=36) (k:=36) (C:=b7W) (args:=args) (q:=q) h
def b4E{args:List (SV U)}{q:CR U}(h:A0 b7z 36 args q):A0 c3K 36 args q:=A0.up (E:=b7z) (K:=36) (k:=36) (C:=b6N) (args:=args) (q:=q) h
def ceu(a:List (SV U)):Option (Q1 U):=match b7G a with
 |some q=>some q
 |none=>match b7W a with
  |some q=>some q
  |none=>b6N a
def c2u{a:List (SV U)}{q:Q1 U}(h:ceu a=some q):b7G a=some q∨b7W a=some q∨b6N a=some q:=by
 unfold ceu at h;split at h
 . rename_i q' e;cases h;exact .inl e
 . split at h
   . rename_i q' e;cases h;exact .inr (.inl e)
   . exact .inr (.inr h)
def eu_ok(args:List (SV U))(q:Q1 U)(h:ceu args=some q)(ho:p8 q.ob):A0 c3K 36 args ⟨q.ob,q.hy,q.v,[]⟩:=by
 rcases c2u h with e|e|e
 . exact b4E (c0b (c7R (ceu1_ok _ _ e ho)))
 . exact b4E (c0b (ceu2_ok _ _ e ho))
 . exact b4E (ceu3_ok _ _ e ho)
def Neu:Env:=c3K.A7 36 ceu
def Neu_ok:c8 Neu:=Neu3_ok.A7 Tryz.call36 eu_ok
def d0p:Nat->D1:=fun|81=>⟨33,nn,nn⟩|_=>⟨0,nn,nn⟩
def Vam(a:Alm)(Q:Bool->Prop):Prop:=
((((a.Action=([65,85,68,73,79]:List UInt8)∨a.Action=([68,73,83,80,76,65,89]:List UInt8))∨a.Action=([69,77,65,73,76]:List UInt8))/\(-1000000000:Int)<=a.S3)/\a.S3<=1000000000->∀(p:J8),p∈a.Extra->z7 p)/\((((a.Action=([65,85,68,73,79]:List UInt8)∨a.Action=([68,73,83,80,76,65,89]:List UInt8))∨a.Action=([69,77,65,73,76]:List UInt8))/\(-1000000000:Int)<=a.S3)/\a.S3<=1000000000->(↑a.Extra.length:Int)<=1000000)/\Q (decide (((((a.Action=([65,85,68,73,79]:List UInt8)∨a.Action=([68,73,83,80,76,65,89]:List UInt8))∨a.Action=([69,77,65,73,76]:List UInt8))/\(-1000000000:Int)<=a.S3)/\a.S3<=1000000000)/\bo (a1G a.Extra a1T)=true))
def pam(a:Alm)(hp:∀p∈a.Extra,z7 p)(hl:(a.Extra.length:Int)<=1000000):Vam a (fun y0=>y0=bo (b7A a)):=by unfold Vam;refine⟨fun _=>hp,fun _=>hl,a1g ?_⟩;rw[y6];exact⟨fun⟨⟨⟨a,b⟩,c⟩,d⟩=>⟨or_assoc.1 a,b,c,d⟩,fun⟨a,b,c,d⟩=>⟨⟨⟨or_assoc.2 a,b⟩,c⟩,d⟩⟩
def d3H(a:Alm):Q1 U:=⟨[(∀p∈a.Extra,z7 p),(a.Extra.length:Int)<=1000000],[],I0 (bo (b7A a))⟩
def cam(a:List (SV U)):Option (Q1 U):=match a with|[.agg l_a]=>(b8U.bk (.agg l_a)).bind fun a=>some (d3H a)|_=>none
def Nam:Env:=Neu.A7 81 cam
def Nam_ok:c8 Nam:=Neu_ok.A7 Tryz.call81 fun(args:List (SV U)) (q:Q1 U) (h:cam args=some q) ho=>by
 unfold cam at h;split at h
 . rename_i l_a;obtain⟨a,hb_a,h⟩:=d4y.1 h;cases h;refine A0.conv (E:=Neu) (args':=[.agg [.str a.Action,.int .i64 a.S3,.sl 86 a.Extra]]) (H6 (an:=d0p 81) Neu_ok (inlHN_ok Neu_ok H0_ok d0p 2) Tryz.func81 (k:=.bool) trivial (kc (pam a ho.1 ho.2.1) (by kernel_rfl)) 0) fun D w vs hr=>N6 [.agg l_a] [.agg [.str a.Action,.int .i64 a.S3,.sl (N:=U) 86 a.Extra]] _ ⟨fun _ h=>b2X hb_a h,trivial⟩ hr
 . cases h
def c8o:Nat->D1:=fun|82=>⟨47,fun|2=>some ⟨[1,3,5,9,10],[.slot 11 (.int .i64)]⟩|_=>none,nn⟩|_=>⟨0,nn,nn⟩
def Vdt(o:E3)(l:List G9)(y:G9)(Q:Bool->Prop):Prop:=
∃(I:Int->Prop),∃(m:Int->Nat),I 0/\∀(x:Int),I x->(bR (x<(↑l.length:Int)) (0<=x/\x<(↑l.length:Int)/\o.c9.length<=1000/\(¬(¬bo (V3 o.c9 (etM (ix l x)))=true∨¬R4 (etM (ix l x)) (etM y)=true)/\0<x->c6 (x-1))/\((¬(¬bo (V3 o.c9 (etM (ix l x)))=true∨¬R4 (etM (ix l x)) (etM y)=true)/\0<x->0<=x-1)/\(¬(¬bo (V3 o.c9 (etM (ix l x)))=true∨¬R4 (etM (ix l x)) (etM y)=true)/\0<x->x-1<(↑l.length:Int)))/\(bR ((¬bo (V3 o.c9 (etM (ix l x)))=true∨¬R4 (etM (ix l x)) (etM y)=true)∨0<x/\b8 (j6 (ix l x).Time)<=b8 (j6 (ix l (x-1)).Time)) (Q false) (c6 (x+1)/\I (x+1)/\m (x+1)<m x))) (Q (decide ((↑l.length:Int)<=100))))
def pdt(o:E3)(l:List G9)(y:G9)(hz:o.c9.length<=1000)(hl:(l.length:Int)<=1000000):Vdt o l y (fun y0=>y0=bo (b0e o.c9 l y)):=by
 unfold Vdt;simp only[x9,A6,B3,C5,C4,C6,C8,C3,B9,D0,B7,d4p];refine⟨fun x=>0<=x/\x<=l.length/\q9 x fun j=>V3 o.c9 (ix l j)/\R4 (ix l j) y=true/\(0<j->b8 (ix l (j-1)).Time<b8 (ix l j).Time),fun x=>((l.length:Int)-x).toNat,⟨by omega,by omega,q9.zero⟩,?_⟩;rintro x ⟨x0,x1,hx⟩;refine⟨fun hi=>⟨x0,hi,hz,fun h=>⟨by omega,by omega⟩,⟨fun h=>by omega,fun h=>by omega⟩,fun h=>G1 fun e=>?_,fun h=>⟨⟨by omega,by omega⟩,⟨by omega,by omega,hx.succ ⟨y6.1 (d4i.1 fun e=>h (.inl (.inl e))),d4i.1 fun e=>h (.inl (.inr e)),fun p=>d7V.1 fun e=>h (.inr ⟨p,e⟩)⟩⟩,by dsimp only;omega⟩⟩,fun hi=>a1g ⟨fun e=>⟨fun j j0 j1=>hx j j0 (by omega),e⟩,fun e=>e.2⟩⟩;obtain⟨a,b,c⟩:=e.1 x x0 hi;rcases h with(h|h)|h
 . exact h (y6.2 a)
 . exact h b
 . exact absurd (c h.1) (by omega)
def d3k(o:E3)(l:List G9)(y:G9):Q1 U:=⟨[o.c9.length<=1000,(l.length:Int)<=1000000],[],I0 (bo (b0e o.c9 l y))⟩
def cdt(a:List (SV U)):Option (Q1 U):=match a with|[.agg l_o,.sl 28 l,.agg l_y]=>(y38.bk (.agg l_o)).bind fun o=>(y28.bk (.agg l_y)).bind fun y=>some (d3k o l y)|_=>none
def Ndt:Env:=Nam.A7 82 cdt
def Ndt_ok:c8 Ndt:=Nam_ok.A7 Tryz.call82 fun(args:List (SV U)) (q:Q1 U) (h:cdt args=some q) ho=>by
 unfold cdt at h;split at h
 . rename_i l_o l l_y;obtain⟨o,hb_o,h⟩:=d4y.1 h;obtain⟨y,hb_y,h⟩:=d4y.1 h;cases h;refine A0.conv (E:=Nam) (args':=[.agg [.str o.Kind,.str o.UID,.sl 92 o.c9,.int .i64 o.Main.Start.Time.Day.Year,.int .i64 o.Main.Start.Time.Day.Month,.int .i64 o.Main.Start.Time.Day.Date,.int .i64 o.Main.Start.Time.Hour,.int .i64 o.Main.Start.Time.Min,.int .i64 o.Main.Start.Time.D5,I0 o.Main.Start.Time.n9,I0 o.Main.Start.Time.UTC,.str o.Main.Start.I3,.sl 28 o.Main.End,.sl 3 o.Main.Span,.sl 64 o.Main.b9,.sl 28 o.Main.p4,.sl 28 o.Main.q8,.sl 28 o.Main.p7,.sl 136 o.Main.v7,.sl 86 o.Main.Extra,.sl 35 o.Over,.sl 86 o.Extra],.sl 28 l,.agg [.int .i64 y.Time.Day.Year,.int .i64 y.Time.Day.Month,.int .i64 y.Time.Day.Date,.int .i64 y.Time.Hour,.int .i64 y.Time.Min,.int .i64 y.Time.D5,I0 y.Time.n9,I0 y.Time.UTC,.str y.I3]]) (H6 (an:=c8o 82) Nam_ok (inlHN_ok Nam_ok H0_ok c8o 2) Tryz.func82 (k:=.bool) trivial (kc (pdt o l y ho.1 ho.2.1) (by kernel_rfl)) 0) fun D w vs hr=>N6 [.agg l_o,.sl 28 l,.agg l_y] [.agg [.str o.Kind,.str o.UID,.sl (N:=U) 92 o.c9,.int .i64 o.Main.Start.Time.Day.Year,.int .i64 o.Main.Start.Time.Day.Month,.int .i64 o.Main.Start.Time.Day.Date,.int .i64 o.Main.Start.Time.Hour,.int .i64 o.Main.Start.Time.Min,.int .i64 o.Main.Start.Time.D5,I0 o.Main.Start.Time.n9,I0 o.Main.Start.Time.UTC,.str o.Main.Start.I3,.sl (N:=U) 28 o.Main.End,.sl (N:=U) 3 o.Main.Span,.sl (N:=U) 64 o.Main.b9,.sl (N:=U) 28 o.Main.p4,.sl (N:=U) 28 o.Main.q8,.sl (N:=U) 28 o.Main.p7,.sl (N:=U) 136 o.Main.v7,.sl (N:=U) 86 o.Main.Extra,.sl (N:=U) 35 o.Over,.sl (N:=U) 86 o.Extra],.sl (N:=U) 28 l,.agg [.int .i64 y.Time.Day.Year,.int .i64 y.Time.Day.Month,.int .i64 y.Time.Day.Date,.int .i64 y.Time.Hour,.int .i64 y.Time.Min,.int .i64 y.Time.D5,I0 y.Time.n9,I0 y.Time.UTC,.str y.I3]] _ ⟨fun _ h=>a7L hb_o h,fun _ h=>h,fun _ h=>a7g hb_y h,trivial⟩ hr
 . cases h
def c9N:Nat->D1:=fun|38=>⟨152,fun|28=>some ⟨[2,3,123,124],[.slot 125 (.int .i64)]⟩|22=>some ⟨[2,3,111,112],[.slot 113 (.int .i64)]⟩|16=>some ⟨[2,3,97,98],[.slot 99 (.int .i64)]⟩|10=>some ⟨[2,3,72,73],[.slot 74 (.int .i64)]⟩|4=>some ⟨[2,3,43,44],[.slot 45 (.int .i64)]⟩|_=>none,nn⟩|_=>⟨0,nn,nn⟩
def b6T(o:E3)(x:R2):=b0e o.c9 x.p4 (etM x.Start)
def Vim(o:E3)(x:R2)(Q:Bool->Prop):Prop:=
o.c9.length<=1000/\(¬¬bo (V3 o.c9 (etM x.Start))=true->c6 ((↑x.End.length:Int)+(↑x.Span.length:Int)))/\(bR (((¬bo (V3 o.c9 (etM x.Start))=true∨1<(↑x.End.length:Int)+(↑x.Span.length:Int))∨1<(↑x.b9.length:Int))∨10<(↑x.v7.length:Int)) (Q false) (∃(I:Int->Prop),∃(m:Int->Nat),I 0/\∀(x_1:Int),I x_1->(bR (x_1<(↑x.End.length:Int)) (0<=x_1/\x_1<(↑x.End.length:Int)/\o.c9.length<=1000/\(bR ((¬bo (V3 o.c9 (etM (ix x.End x_1)))=true∨¬R4 (etM (ix x.End x_1)) (etM x.Start)=true)∨b8 (j6 (ix x.End x_1).Time)<=b8 (j6 x.Start.Time)) (Q false) (c6 (x_1+1)/\I (x_1+1)/\m (x_1+1)<m x_1))) (∃(I:Int->Prop),∃(m:Int->Nat),I 0/\∀(x_2:Int),I x_2->(bR (x_2<(↑x.Span.length:Int)) (0<=x_2/\x_2<(↑x.Span.length:Int)/\(c6 (ix x.Span x_2)->(¬(ix x.Span x_2<1∨1000000000<ix x.Span x_2)/\x.Start.Time.n9=true->(86400:Int)≠0)/\(bR ((ix x.Span x_2<1∨1000000000<ix x.Span x_2)∨x.Start.Time.n9=true/\(ix x.Span x_2).tmod (86400:Int)≠0) (Q false) (c6 (x_2+1)/\I (x_2+1)/\m (x_2+1)<m x_2)))) (∃(I:Int->Prop),∃(m:Int->Nat),I 0/\∀(x_3:Int),I x_3->(bR (x_3<(↑x.b9.length:Int)) (0<=x_3/\x_3<(↑x.b9.length:Int)/\(c6 (ix x.b9 x_3).j8->c6 (ix x.b9 x_3).Interval->c6 (ix x.b9 x_3).Count->c6 (ix x.b9 x_3).u6->F4 (L3 (ix x.b9 x_3))=true/\(bR (¬G0 (j6 x.Start.Time) (L3 (ix x.b9 x_3))=true) (Q false) (c6 (x_3+1)/\I (x_3+1)/\m (x_3+1)<m x_3)))) (∃(I:Int->Prop),∃(m:Int->Nat),I 0/\∀(x_4:Int),I x_4->(bR (x_4<(↑x.p7.length:Int)) (0<=x_4/\x_4<(↑x.p7.length:Int)/\o.c9.length<=1000/\(bR (¬bo (V3 o.c9 (etM (ix x.p7 x_4)))=true) (Q false) (c6 (x_4+1)/\I (x_4+1)/\m (x_4+1)<m x_4))) (∃(I:Int->Prop),∃(m:Int->Nat),I 0/\∀(x_5:Int),I x_5->(bR (x_5<(↑x.v7.length:Int)) (0<=x_5/\x_5<(↑x.v7.length:Int)/\(∀(p:J8),p∈(ix x.v7 x_5).Extra->z7 p)/\(↑(ix x.v7 x_5).Extra.length:Int)<=1000000/\(bR (¬bo (b7A (etA (ix x.v7 x_5)))=true) (Q false) (c6 (x_5+1)/\I (x_5+1)/\m (x_5+1)<m x_5))) (o.c9.length<=1000/\(↑x.p4.length:Int)<=1000000/\(bo (b6T o x)=true->o.c9.length<=1000)/\(bo (b6T o x)=true->(↑x.q8.length:Int)<=1000000)/\(bo (b6T o x)=true/\bo (b0e o.c9 x.q8 (etM x.Start))=true->∀(p:J8),p∈x.Extra->z7 p)/\(bo (b6T o x)=true/\bo (b0e o.c9 x.q8 (etM x.Start))=true->(↑x.Extra.length:Int)<=1000000)/\Q (decide ((bo (b6T o x)=true/\bo (b0e o.c9 x.q8 (etM x.Start))=true)/\bo (a1G x.Extra a2c)=true))))))))))))))
def pim(o:E3)(x:R2)(hz:o.c9.length<=1000)(hf:a2i x):Vim o x (fun y0=>y0=bo (X7 o.c9 x)):=by
 unfold Vim b6T;simp only[x9,A6,B3,C5,C4,C6,C8,C3,B9,D0,B7,d4p];obtain⟨f1,f2,f3,f4,f5,f6,f7,f8,f9,f10,f11⟩:=hf;refine⟨hz,fun _=>⟨by omega,by omega⟩,fun h=>G1 fun e=>?_,fun h=>?_⟩
 . rcases h with((h|h)|h)|h
   . exact h (y6.2 e.1)
   . have:=e.2.1;omega
   . have:=e.2.2.1;omega
   . have:=e.2.2.2.1;omega
 have g1:V3 o.c9 x.Start:=y6.1 (d4i.1 fun e=>h (.inl (.inl (.inl e))));have g2:(x.End.length:Int)+x.Span.length<=1:=d4X.1 fun e=>h (.inl (.inl (.inr e)));have g3:(x.b9.length:Int)<=1:=d4X.1 fun e=>h (.inl (.inr e));have g4:(x.v7.length:Int)<=10:=d4X.1 fun e=>h (.inr e);clear h;refine⟨fun k=>0<=k/\k<=x.End.length/\q9 k fun j=>V3 o.c9 (ix x.End j)/\R4 (ix x.End j) x.Start=true/\b8 x.Start.Time<b8 (ix x.End j).Time,fun k=>((x.End.length:Int)-k).toNat,⟨by omega,by omega,q9.zero⟩,?_⟩;rintro k ⟨k0,k1,hk⟩;refine⟨fun hi=>⟨k0,hi,hz,fun h=>G1 fun e=>?_,fun h=>⟨⟨by omega,by omega⟩,⟨by omega,by omega,hk.succ ⟨y6.1 (d4i.1 fun e=>h (.inl (.inl e))),d4i.1 fun e=>h (.inl (.inr e)),d7V.1 fun e=>h (.inr e)⟩⟩,by dsimp only;omega⟩⟩,fun hi=>?_⟩
 . obtain⟨a,b,c⟩:=e.2.2.2.2.1 k k0 hi;rcases h with(h|h)|h
   . exact h (y6.2 a)
   . exact h b
   . omega
 have g5:q9 x.End.length fun j=>V3 o.c9 (ix x.End j)/\R4 (ix x.End j) x.Start=true/\b8 x.Start.Time<b8 (ix x.End j).Time:=hk.le (by omega);clear hk k0 k1 hi k;refine⟨fun k=>0<=k/\k<=x.Span.length/\q9 k fun j=>1<=ix x.Span j/\ix x.Span j<=1000000000/\(x.Start.Time.n9=true->(ix x.Span j).tmod 86400=0),fun k=>((x.Span.length:Int)-k).toNat,⟨by omega,by omega,q9.zero⟩,?_⟩;rintro k ⟨k0,k1,hk⟩;refine⟨fun hi=>⟨k0,hi,fun _=>⟨fun _=>by decide,fun h=>G1 fun e=>?_,fun h=>⟨⟨by omega,by omega⟩,⟨by omega,by omega,hk.succ ⟨d4X.1 fun e=>h (.inl (.inl e)),d4X.1 fun e=>h (.inl (.inr e)),fun p=>d4i.1 fun e=>h (.inr ⟨p,e⟩)⟩⟩,by dsimp only;omega⟩⟩⟩,fun hi=>?_⟩
 . obtain⟨a,b,c⟩:=e.2.2.2.2.2.1 k k0 hi;rcases h with(h|h)|h
   . omega
   . omega
   . exact h.2 (c h.1)
 have g6:q9 x.Span.length fun j=>1<=ix x.Span j/\ix x.Span j<=1000000000/\(x.Start.Time.n9=true->(ix x.Span j).tmod 86400=0):=hk.le (by omega);clear hk k0 k1 hi k;refine⟨fun k=>0<=k/\k<=x.b9.length/\q9 k fun j=>G0 x.Start.Time (ix x.b9 j)=true,fun k=>((x.b9.length:Int)-k).toNat,⟨by omega,by omega,q9.zero⟩,?_⟩;rintro k ⟨k0,k1,hk⟩;refine⟨fun hi=>⟨k0,hi,fun _ _ _ _=>⟨f8 _ (w5 k0 hi),fun h=>G1 fun e=>?_,fun h=>⟨⟨by omega,by omega⟩,⟨by omega,by omega,hk.succ (d4i.1 h)⟩,by dsimp only;omega⟩⟩⟩,fun hi=>?_⟩
 . exact h (e.2.2.2.2.2.2.1 k k0 hi)
 have g7:q9 x.b9.length fun j=>G0 x.Start.Time (ix x.b9 j)=true:=hk.le (by omega);clear hk k0 k1 hi k;refine⟨fun k=>0<=k/\k<=x.p7.length/\q9 k fun j=>V3 o.c9 (ix x.p7 j),fun k=>((x.p7.length:Int)-k).toNat,⟨by omega,by omega,q9.zero⟩,?_⟩;rintro k ⟨k0,k1,hk⟩;refine⟨fun hi=>⟨k0,hi,hz,fun h=>G1 fun e=>?_,fun h=>⟨⟨by omega,by omega⟩,⟨by omega,by omega,hk.succ (y6.1 (d4i.1 h))⟩,by dsimp only;omega⟩⟩,fun hi=>?_⟩
 . exact h (y6.2 (e.2.2.2.2.2.2.2.1 k k0 hi))
 have g8:q9 x.p7.length fun j=>V3 o.c9 (ix x.p7 j):=hk.le (by omega);clear hk k0 k1 hi k;refine⟨fun k=>0<=k/\k<=x.v7.length/\q9 k fun j=>b7A (ix x.v7 j),fun k=>((x.v7.length:Int)-k).toNat,⟨by omega,by omega,q9.zero⟩,?_⟩;rintro k ⟨k0,k1,hk⟩;refine⟨fun hi=>⟨k0,hi,(f9 _ (w5 k0 hi)).1,(f9 _ (w5 k0 hi)).2,fun h=>G1 fun e=>?_,fun h=>⟨⟨by omega,by omega⟩,⟨by omega,by omega,hk.succ (y6.1 (d4i.1 h))⟩,by dsimp only;omega⟩⟩,fun hi=>?_⟩
 . exact h (y6.2 (e.2.2.2.2.2.2.2.2.1 k k0 hi))
 have g9:q9 x.v7.length fun j=>b7A (ix x.v7 j):=hk.le (by omega);clear hk k0 k1 hi k;refine⟨hz,by omega,fun _=>hz,fun _=>by omega,fun _=>f10,fun _=>f11,a1g ?_⟩;rw[y6,y6,y6];exact⟨fun⟨⟨a,b⟩,c⟩=>⟨g1,g2,g3,g4,g5,g6,g7,g8,g9,a,b,c⟩,fun⟨_,_,_,_,_,_,_,_,_,a,b,c⟩=>⟨⟨a,b⟩,c⟩⟩
def Nim:Env:=Ndt.kL 38 (r38.c (r35.c .n)) (.bool) (fun y=>[y.1.c9.length<=1000,a2i y.2.1]) (fun y=>bo (X7 y.1.c9 y.2.1))
def Nim_ok:c8 Nim:=Ndt_ok.kL Tryz.call38 Tryz.func38 (inlHN_ok Ndt_ok H0_ok c9N 2) (an:=c9N 38) (fun _ _=>trivial) fun y ho=>kc (pim y.1 y.2.1 ho.1 ho.2.1) (by kernel_rfl)
def c8F:Env:=Nim.z6 41 Tryz.f41
def NI41_ok:c8 c8F:=Nim_ok.z6 Tryz.call41 Tryz.func41
def c8D:Nat->D1:=fun|14=>⟨152,fun|13=>some ⟨[1,3,87,88],[.slot 89 (.int .i64)]⟩|7=>some ⟨[1,3,67,68],[.slot 69 (.int .i64)]⟩|_=>none,nn⟩|40=>⟨9,nn,nn⟩|88=>⟨19,fun|2=>some ⟨[0,1,7],[.slot 8 (.int .i64)]⟩|_=>none,nn⟩|41=>⟨9,nn,nn⟩|_=>⟨0,nn,nn⟩
def b4J(o:E3):=J8.mk [] ([85,73,68]:List UInt8) [] o.UID
def Ver(o:E3)(Q:Bool->Prop):Prop:=
(bR (((((o.Kind≠([86,69,86,69,78,84]:List UInt8)/\o.Kind≠([86,84,79,68,79]:List UInt8)∨o.UID=[])∨100<(↑(List.length o.UID):Int))∨5<(↑o.c9.length:Int))∨50<(↑o.Over.length:Int))∨0<(↑o.Main.p7.length:Int)) (Q false) (z7 (b4J o)/\(¬¬Li.D3 (b4J o)=true->∀(p:J8),p∈o.Extra->z7 p)/\(¬¬Li.D3 (b4J o)=true->(↑o.Extra.length:Int)<=1000000)/\(¬(¬Li.D3 (b4J o)=true∨¬bo (a1G o.Extra a0Y)=true)->o.c9.length<=1000)/\(¬(¬Li.D3 (b4J o)=true∨¬bo (a1G o.Extra a0Y)=true)->a2i (etI o.Main))/\(bR ((¬Li.D3 (b4J o)=true∨¬bo (a1G o.Extra a0Y)=true)∨¬bo (X7 o.c9 (etI o.Main))=true) (Q false) (∃(I:Int->Prop),∃(m:Int->Nat),I 0/\∀(x:Int),I x->(bR (x<(↑o.c9.length:Int)) (0<=x/\x<(↑o.c9.length:Int)/\X1 (etZ (ix o.c9 x))/\(bR (¬bo (a4C (etZ (ix o.c9 x)))=true) (Q false) (0<=x/\x<=(↑o.c9.length:Int)/\∃(I_1:Int->Prop),∃(m_1:Int->Nat),I_1 0/\∀(x_1:Int),I_1 x_1->(bR (x_1<(↑(List.take x.toNat o.c9).length:Int)) (0<=x_1/\x_1<(↑(List.take x.toNat o.c9).length:Int)/\(bR ((ix (List.take x.toNat o.c9) x_1).ID=(ix o.c9 x).ID) ((bR (0<=x_1) (Q false) (c6 (x+1)/\I (x+1)/\m (x+1)<m x))) (c6 (x_1+1)/\I_1 (x_1+1)/\m_1 (x_1+1)<m_1 x_1))) ((bR ((0:Int)<=(-1:Int)) (Q false) (c6 (x+1)/\I (x+1)/\m (x+1)<m x))))))) (∃(I:Int->Prop),∃(m:Int->Nat),I 0/\∀(x:Int),I x->(bR (x<(↑o.Over.length:Int)) (0<=x/\x<(↑o.Over.length:Int)/\(¬(↑(ix o.Over x).p7.length:Int)≠1->c6 ((↑(ix o.Over x).b9.length:Int)+(↑(ix o.Over x).p4.length:Int)))/\(¬(↑(ix o.Over x).p7.length:Int)≠1->c6 ((↑(ix o.Over x).b9.length:Int)+(↑(ix o.Over x).p4.length:Int)+(↑(ix o.Over x).q8.length:Int)))/\((¬((↑(ix o.Over x).p7.length:Int)≠1∨0<(↑(ix o.Over x).b9.length:Int)+(↑(ix o.Over x).p4.length:Int)+(↑(ix o.Over x).q8.length:Int))->o.c9.length<=1000)/\(¬((↑(ix o.Over x).p7.length:Int)≠1∨0<(↑(ix o.Over x).b9.length:Int)+(↑(ix o.Over x).p4.length:Int)+(↑(ix o.Over x).q8.length:Int))->a2i (etI (ix o.Over x))))/\((¬(((↑(ix o.Over x).p7.length:Int)≠1∨0<(↑(ix o.Over x).b9.length:Int)+(↑(ix o.Over x).p4.length:Int)+(↑(ix o.Over x).q8.length:Int))∨¬bo (X7 o.c9 (etI (ix o.Over x)))=true)->(0:Int)<=0)/\(¬(((↑(ix o.Over x).p7.length:Int)≠1∨0<(↑(ix o.Over x).b9.length:Int)+(↑(ix o.Over x).p4.length:Int)+(↑(ix o.Over x).q8.length:Int))∨¬bo (X7 o.c9 (etI (ix o.Over x)))=true)->0<(↑(ix o.Over x).p7.length:Int)))/\(bR ((((↑(ix o.Over x).p7.length:Int)≠1∨0<(↑(ix o.Over x).b9.length:Int)+(↑(ix o.Over x).p4.length:Int)+(↑(ix o.Over x).q8.length:Int))∨¬bo (X7 o.c9 (etI (ix o.Over x)))=true)∨¬R4 (etM (ix (ix o.Over x).p7 0)) (etM o.Main.Start)=true) (Q false) ((0<x->c6 (x-1))/\((0<x->0<=x-1)/\(0<x->x-1<(↑o.Over.length:Int)))/\((0<x->(0:Int)<=0)/\(0<x->0<(↑(ix o.Over (x-1)).p7.length:Int)))/\((0<x->(0:Int)<=0)/\(0<x->0<(↑(ix o.Over x).p7.length:Int)))/\(bR (0<x/\b8 (j6 (ix (ix o.Over x).p7 0).Time)<=b8 (j6 (ix (ix o.Over (x-1)).p7 0).Time)) (Q false) (c6 (x+1)/\I (x+1)/\m (x+1)<m x))))) (Q true))))))))
def c8i{α:Type}[Inhabited α]{l:List α}{n:Nat}{i:Int}(h0:0<=i)(h1:i<n)(h2:i<l.length):ix (l.take n) i=ix l i:=by rw[w8 (by rw[d4I];omega),w8 (by omega),d6z]
def b9O(o:E3)(j:Int):Prop:=((ix o.Over j).p7.length:Int)=1/\((ix o.Over j).b9.length:Int)+(ix o.Over j).p4.length+(ix o.Over j).q8.length<=0/\X7 o.c9 (ix o.Over j)/\R4 (ix (ix o.Over j).p7 0) o.Main.Start=true/\(0<j->b8 (ix (ix o.Over (j-1)).p7 0).Time<b8 (ix (ix o.Over j).p7 0).Time)
def per(o:E3)(hf:a1n o):Ver o (fun y0=>y0=bo (a0S o)):=by
 unfold Ver b4J;simp only[x9,A6,B3,C5,C4,C6,C8,C3,B9,D0,B7,d4p];obtain⟨k1,k2,k3,k4,k5,k6,k7,k8,k9⟩:=hf;have sp:z7 ⟨[],c74,[],o.UID⟩:=⟨by show 3<=100000;decide,d5M _,by show o.UID.length<=5000;omega,d5M _,fun x hx=>by cases hx⟩;refine⟨fun h=>G1 fun e=>?_,fun h=>?_⟩
 . rcases h with((((h|h)|h)|h)|h)|h
   . exact e.1.1.elim h.1 h.2
   . exact e.1.2.1 h
   . have:=e.1.2.2.1;omega
   . have:=e.1.2.2.2.1;omega
   . have:=e.1.2.2.2.2.1;omega
   . have:=e.1.2.2.2.2.2;omega
 have hk:o.Kind=evN∨o.Kind=tdN:=d5w fun e=>h (.inl (.inl (.inl (.inl (.inl ⟨fun a=>e (.inl a),fun a=>e (.inr a)⟩)))));have g1:(o.Kind=evN∨o.Kind=tdN)/\o.UID≠[]/\(o.UID.length:Int)<=100/\(o.c9.length:Int)<=5/\(o.Over.length:Int)<=50/\(o.Main.p7.length:Int)<=0:=⟨hk,fun e=>h (.inl (.inl (.inl (.inl (.inr e))))),d4X.1 fun e=>h (.inl (.inl (.inl (.inr e)))),d4X.1 fun e=>h (.inl (.inl (.inr e))),d4X.1 fun e=>h (.inl (.inr e)),d4X.1 fun e=>h (.inr e)⟩;clear h;refine⟨sp,fun _=>k5,fun _=>k6,fun _=>by omega,fun _=>k7,fun h=>G1 fun e=>?_,fun h=>?_⟩
 . rcases h with(h|h)|h
   . exact h e.2.1
   . exact h (y6.2 e.2.2.1)
   . exact h (y6.2 e.2.2.2.1)
 have g2:D3 ⟨[],c74,[],o.UID⟩=true:=d4i.1 fun e=>h (.inl (.inl e));have g3:a1G o.Extra a0Y:=y6.1 (d4i.1 fun e=>h (.inl (.inr e)));have g4:X7 o.c9 o.Main:=y6.1 (d4i.1 fun e=>h (.inr e));clear h;refine⟨fun x=>0<=x/\x<=o.c9.length/\q9 x fun j=>a4C (ix o.c9 j)/\q9 j fun k=>(ix o.c9 k).ID≠(ix o.c9 j).ID,fun x=>((o.c9.length:Int)-x).toNat,⟨by omega,by omega,q9.zero⟩,?_⟩;rintro x ⟨x0,x1,hx⟩;refine⟨fun hi=>⟨x0,hi,k8 _ (w5 x0 hi),fun h=>G1 fun e=>h (y6.2 (e.2.2.2.2.1 x x0 hi).1),fun h=>⟨x0,x1,?_⟩⟩,fun hi=>?_⟩
 . have hz:a4C (ix o.c9 x):=y6.1 (d4i.1 h);have lt:((o.c9.take x.toNat).length:Int)=x:=by rw[d4I];omega
   refine⟨fun k=>0<=k/\k<=x/\q9 k fun j=>(ix o.c9 j).ID≠(ix o.c9 x).ID,fun k=>(x-k).toNat,⟨by omega,by omega,q9.zero⟩,?_⟩;rintro k ⟨j0,j1,hk'⟩;rw[lt];refine⟨fun hi2=>⟨j0,hi2,?_⟩,fun hi2=>⟨fun h=>by omega,fun _=>⟨⟨by omega,by omega⟩,⟨by omega,by omega,hx.succ ⟨hz,hk'.le (by omega)⟩⟩,by dsimp only;omega⟩⟩⟩;rw[c8i j0 (by omega) (by omega)];exact⟨fun hd=>⟨fun _=>G1 fun e=>(e.2.2.2.2.1 x x0 hi).2 k j0 hi2 hd,fun h=>absurd j0 h⟩,fun hd=>⟨⟨by omega,by omega⟩,⟨by omega,by omega,hk'.succ hd⟩,by dsimp only;omega⟩⟩
 have g5:q9 o.c9.length fun j=>a4C (ix o.c9 j)/\q9 j fun k=>(ix o.c9 k).ID≠(ix o.c9 j).ID:=hx.le (by omega);clear hx x0 x1 hi x;refine⟨fun x=>0<=x/\x<=o.Over.length/\q9 x (b9O o),fun x=>((o.Over.length:Int)-x).toNat,⟨by omega,by omega,q9.zero⟩,?_⟩;rintro x ⟨x0,x1,hx⟩;refine⟨fun hi=>?_,fun hi=>a3w ⟨g1,g2,g3,g4,g5,fun j j0 j1=>hx j j0 (by omega)⟩⟩;have fi:=k9 _ (w5 x0 hi);have l1:=fi.2.2.1;have l2:=fi.2.2.2.1;have l3:=fi.2.2.2.2.1;refine⟨x0,hi,fun _=>⟨by omega,by omega⟩,fun _=>⟨by omega,by omega⟩,⟨fun _=>by omega,fun _=>fi⟩,⟨fun _=>d4D 0,fun h=>?_⟩,fun h=>G1 fun e=>?_,fun h=>?_⟩
 . have:((ix o.Over x).p7.length:Int)=1:=d4i.1 fun e=>h (.inl (.inl e));omega
 . obtain⟨a,b,c,d,_⟩:b9O o x:=e.2.2.2.2.2 x x0 hi;rcases h with((h|h)|h)|h
   . exact h a
   . omega
   . exact h (y6.2 c)
   . exact h d
 . have a:((ix o.Over x).p7.length:Int)=1:=d4i.1 fun e=>h (.inl (.inl (.inl e)));have b:((ix o.Over x).b9.length:Int)+(ix o.Over x).p4.length+(ix o.Over x).q8.length<=0:=d4X.1 fun e=>h (.inl (.inl (.inr e)));have c:X7 o.c9 (ix o.Over x):=y6.1 (d4i.1 fun e=>h (.inl (.inr e)));have d:=d4i.1 fun e=>h (.inr e);have pv:0<x->((ix o.Over (x-1)).p7.length:Int)=1:=fun p=>(hx (x-1) (by omega) (by omega)).1;refine⟨fun _=>⟨by omega,by omega⟩,⟨fun _=>by omega,fun _=>by omega⟩,⟨fun _=>d4D 0,fun p=>by have:=pv p;omega⟩,⟨fun _=>d4D 0,fun _=>by omega⟩,fun h=>G1 fun e=>?_,fun h=>⟨⟨by omega,by omega⟩,⟨by omega,by omega,hx.succ ⟨a,b,c,d,fun p=>d7V.1 fun e=>h ⟨p,e⟩⟩⟩,by dsimp only;omega⟩⟩;have ov:b9O o x:=e.2.2.2.2.2 x x0 hi;exact absurd (ov.2.2.2.2 h.1) (by omega)
def Ner:Env:=c8F.kL 14 (r38.c .n) (.bool) (fun y=>[a1n y.1]) (fun y=>bo (a0S y.1))
def Ner_ok:c8 Ner:=NI41_ok.kL Tryz.call14 Tryz.func14 (inlHN_ok NI41_ok H0_ok c8D 4) (an:=c8D 14) (fun _ _=>trivial) fun y ho=>kc (per y.1 ho.1) (by kernel_rfl)
end Go.Proofs.YtapnoejokajcoaaGreatDoor
namespace Go.Qu
open Go Go.Wk Go.Wl Go.Rx Go.Re Go.Li Go.Fo
noncomputable section
def A2(x:R2):Int:=
 if 0<(x.Span.length:Int)/\0<ix x.Span 0 then ix x.Span 0 else
 if 0<(x.End.length:Int)/\b8 x.Start.Time<b8 (ix x.End 0).Time then b8 (ix x.End 0).Time-b8 x.Start.Time else
 if x.Start.Time.n9=true then 86400 else 0
def a14(qa:Nat)(m:G9):List V5->Tm×l8
 |[]=>(K3 (b8 m.Time) tmU,.nil)
 |z::r=>if m.I3≠[]/\z.ID=m.I3 then(if(V9 z m.Time).2=.nil then((V9 z m.Time).1,.nil)else((V9 z m.Time).1,.p qa z.ID ((V9 z m.Time).2.num.getD 0)))else a14 qa m r
def u9(qa:Nat)(o:E3)(m:G9):Tm×l8:=a14 qa m o.c9
def X5(n:Int)(y:Tm):Tm:=K3 (if y.n9=true then(max 0 (min n 315537897599)).tdiv 86400*86400 else max 0 (min n 315537897599)) y
open Classical in
def a1H(o:E3)(x:R2):Int:=if a0S o/\o7 x.Start.Time=true then A2 x else 0
open Classical in
def a4R(qa:Nat)(o:E3)(m:G9):Tm×l8:=if a0S o/\V3 o.c9 m then((u9 qa o m).1,Q7 (u9 qa o m).2)else(tmZ,.no 2)
def W7(o:E3)(t:Tm):Bool:=o.Main.q8.any fun m=>decide (m.Time=t)
def isN:y8:=[105,115]
def a8C(qa:Nat)(s t:Tm):Bool->List Rl->Bool×l8
 |b,[]=>(b,.nil)
 |_,r::l=>if(isP s r t).2=.nil then a8C qa s t (isP s r t).1 l else(false,.p qa isN ((isP s r t).2.num.getD 0))
def a1k(qa:Nat)(o:E3)(t:Tm):Bool×l8:=
 let h:=a8C qa o.Main.Start.Time t (decide ((o.Main.b9.length:Int)=0/\t=o.Main.Start.Time)) o.Main.b9
 if h.2=.nil then((h.1 || o.Main.p4.any fun m=>decide (m.Time=t)) && !W7 o t,.nil)else(false,h.2)
def nrL:List Int:=[2500,2500,1200,500,40,3,1]
def c79{i:Int}(i0:0<=i)(i1:i<=6):0<=ix nrL i/\ix nrL i<=2500:=by
 have h:∀x∈nrL,0<=x/\x<=2500:=by decide
 exact h _ (w5 i0 (by show i<7;omega))
def a4A(f:Int)(s t:Tm):Bool:=decide (o7 s=true->o7 t=true->b8 t-b8 s<=86400*ix nrL (max 0 (min f 6)))
def c7S(z:V5)(t:Tm)(k:Int):Prop:=0<((ix z.D7 k).b9.length:Int)->a4A (ix (ix z.D7 k).b9 0).j8 (ix z.D7 k).Start t=true
def c3d(o:E3)(t:Tm):Bool:=bo (q9 o.c9.length fun j=>q9 (ix o.c9 j).D7.length (c7S (ix o.c9 j) t))
def a7h(x:R2):List Tm:=x.Start.Time::x.p7.map G9.Time
def a6Z(o:E3)(t:Tm):List Tm:=[t,o.Main.Start.Time]++o.Main.p4.map G9.Time++o.Over.flatMap a7h
def lsN(a t:Tm):Tm:=if o7 t=true/\(¬o7 a=true∨b8 a<b8 t)then t else a
def b2m(o:E3)(t:Tm):Tm:=(a6Z o t).foldl lsN t
def T8{α:Type}[Inhabited α]{l:List α}{i:Int}(i0:0<=i)(i1:i<l.length):l.take (i+1).toNat=l.take i.toNat++[ix l i]:=by rw[show(i+1).toNat=i.toNat+1 by omega,d5H (by omega),w8 (by omega)]
def c3f(o:E3)(t:Tm):(a6Z o t).length=2+o.Main.p4.length+(o.Over.flatMap a7h).length:=by unfold a6Z;rw[d4o,d4o,d5F];rfl
def a9q(l:List R2)(n:Nat):((l.take n).flatMap a7h).length<=(l.flatMap a7h).length:=by
 conv=>rhs;rw[<- d6y n l,d7G,d4o]
 exact d8c _ _
def b1l:∀l:List R2,l.length<=(l.flatMap a7h).length
 |[]=>d4C _
 |x::r=>by have:=b1l r;rw[d6O,d4o,d4z];unfold a7h at *;rw[d4z];omega
def teq{a t:Tm}:((a.Day.Year=t.Day.Year/\a.Day.Month=t.Day.Month/\a.Day.Date=t.Day.Date/\True)/\a.Hour=t.Hour/\a.Min=t.Min/\a.D5=t.D5/\(a.n9=true↔t.n9=true)/\(a.UTC=true↔t.UTC=true)/\True)↔a=t:=by
 constructor
 . obtain⟨⟨a1,a2,a3⟩,a4,a5,a6,a7,a8⟩:=a;obtain⟨⟨t1,t2,t3⟩,t4,t5,t6,t7,t8⟩:=t;rintro⟨⟨rfl,rfl,rfl,-⟩,rfl,rfl,rfl,h1,h2,-⟩;obtain rfl:a7=t7:=d5X.2 h1;obtain rfl:a8=t8:=d5X.2 h2;rfl
 . rintro rfl;exact⟨⟨rfl,rfl,rfl,trivial⟩,rfl,rfl,rfl,d6V,d6V,trivial⟩
def b0g{α:Type}[Inhabited α]{l:List α}{p:α->Bool}{j:Int}(j0:0<=j)(j1:j<l.length)(h:p (ix l j)=true):l.any p=true:=d6F.2 ⟨_,w5 j0 j1,h⟩
def b41{α:Type}[Inhabited α]{l:List α}{p:α->Bool}(h:q9 l.length fun j=>p (ix l j)=false):l.any p=false:=by rw[d7U];intro x hx;rw[(q9.list (p:=fun y=>p y=false)).1 h x hx];exact d5i
def ieq{a t:Ins}:(a.Start=t.Start/\a.End=t.End/\a.u5=t.u5/\(a.Over=true↔t.Over=true)/\True)↔a=t:=by
 constructor
 . obtain⟨a1,a2,a3,a4⟩:=a;obtain⟨t1,t2,t3,t4⟩:=t;rintro⟨rfl,rfl,rfl,h,-⟩;obtain rfl:a4=t4:=d5X.2 h;rfl
 . rintro rfl;exact⟨rfl,rfl,rfl,d6V,trivial⟩
def inB(l:List Ins)(x:Ins):Bool:=l.any fun y=>decide (x=y)
def c73{α:Type}[Inhabited α]{a b:List α}(hl:a.length=b.length)(h:q9 a.length fun j=>ix a j=ix b j):a=b:=by
 refine d8b hl fun i h1 h2=>?_;have this:ix a i=ix b i:=h i (by omega) (by omega)
 rwa [w8 (by omega),w8 (by omega)]at this
end
end Go.Qu
namespace Go.Proofs.YtapnoejokajcoaaGreatDoor
open Go Go.Wk Go.Wl Go.Rx Go.Re Go.Li Go.Qu Go.Fo 
attribute [local irreducible] i7
def c9Y:Nat->D1:=fun|27=>⟨10,nn,nn⟩|_=>⟨0,nn,nn⟩
def Vqt(e:l8)(Q:l8->Prop):Prop:=
Proofs.YtapnoejokajcoaaGreatDoor.asB e=true/\(bR (e.num.isSome=true) (Q (l8.no (e.num.getD 0))) (Q e))
def pqt(e:l8)(he:asB e=true):Vqt e (fun y0=>y0=Q7 e):=by unfold Vqt;exact⟨he,b1K,a8Q⟩
def Nqt:Env:=Ner.kL 27 (rE.c .n) (.err) (fun y=>[asB y.1=true]) (fun y=>Q7 y.1)
def Nqt_ok:c8 Nqt:=Ner_ok.kL Tryz.call27 Tryz.func27 (inlHN_ok Ner_ok H0_ok c9Y 2) (an:=c9Y 27) (fun y ho=>(a9y ho.1)) fun y ho=>kc (pqt y.1 ho.1) (by kernel_rfl)
def c4l:Nat->D1:=fun|47=>⟨53,nn,nn⟩|_=>⟨0,nn,nn⟩
def b1O(x:R2):=b8 (j6 (ix x.End 0).Time)-b8 (j6 x.Start.Time)
def c8P(x:R2)(Q:Int->Prop):Prop:=
(bR (0<(↑x.Span.length:Int)) ((0:Int)<=0/\0<(↑x.Span.length:Int)/\(c6 (ix x.Span 0)->(bR (0<ix x.Span 0) ((0:Int)<=0/\0<(↑x.Span.length:Int)/\(c6 (ix x.Span 0)->Q (ix x.Span 0))) ((0<(↑x.End.length:Int)->(0:Int)<=0)/\(0<(↑x.End.length:Int)->0<(↑x.End.length:Int))/\(bR (0<(↑x.End.length:Int)/\b8 (j6 x.Start.Time)<b8 (j6 (ix x.End 0).Time)) ((0:Int)<=0/\0<(↑x.End.length:Int)/\c6 (b1O x)/\Q (b1O x)) ((bR (x.Start.Time.n9=true) (Q 86400) (Q 0)))))))) ((bR (0<(↑x.End.length:Int)) ((0<(↑x.End.length:Int)->(0:Int)<=0)/\(0<(↑x.End.length:Int)->0<(↑x.End.length:Int))/\(bR (0<(↑x.End.length:Int)/\b8 (j6 x.Start.Time)<b8 (j6 (ix x.End 0).Time)) ((0:Int)<=0/\0<(↑x.End.length:Int)/\c6 (b1O x)/\Q (b1O x)) ((bR (x.Start.Time.n9=true) (Q 86400) (Q 0))))) ((bR (x.Start.Time.n9=true) (Q 86400) (Q 0))))))
def d3y(x:R2)  : c8P x (fun y0=>y0=A2 x):=by
 unfold c8P b1O;simp only[x9,A6,B3,C5,C4,C6,C8,C3,B9,D0,B7,d4p];have r0:=y7 x.Start.Time;have r1:=y7 (ix x.End 0).Time;have D:¬(0<(x.Span.length:Int)/\0<ix x.Span 0)->¬(0<(x.End.length:Int)/\b8 x.Start.Time<b8 (ix x.End 0).Time)->(x.Start.Time.n9=true->86400=A2 x)/\(¬x.Start.Time.n9=true->0=A2 x):=fun a b=>⟨fun c=>by unfold A2;rw[if_neg a,if_neg b,if_pos c],fun c=>by unfold A2;rw[if_neg a,if_neg b,if_neg c]⟩;have E:¬(0<(x.Span.length:Int)/\0<ix x.Span 0)->(0<(x.End.length:Int)/\b8 x.Start.Time<b8 (ix x.End 0).Time)->b8 (ix x.End 0).Time-b8 x.Start.Time=A2 x:=fun a b=>by unfold A2;rw[if_neg a,if_pos b]
 refine⟨fun s=>⟨d4D 0,s,fun _=>⟨fun p=>⟨d4D 0,s,fun _=>by unfold A2;rw[if_pos ⟨s,p⟩]⟩,fun p=>?_⟩⟩,fun s=>?_⟩
 . have a:¬(0<(x.Span.length:Int)/\0<ix x.Span 0):=fun e=>p e.2;exact⟨fun _=>d4D 0,fun e=>e,fun b=>⟨d4D 0,b.1,⟨by omega,by omega⟩,E a b⟩,fun b=>D a b⟩
 . have a:¬(0<(x.Span.length:Int)/\0<ix x.Span 0):=fun e=>s e.1;exact⟨fun e=>⟨fun _=>d4D 0,fun e=>e,fun b=>⟨d4D 0,b.1,⟨by omega,by omega⟩,E a b⟩,fun b=>D a b⟩,fun e=>D a fun b=>e b.1⟩
def c6N:Env:=Nqt.kL 47 (r35.c .n) (.int .i64) (fun _=>[]) (fun y=>A2 y.1)
def Nqlo_ok:c8 c6N:=Nqt_ok.kL Tryz.call47 Tryz.func47 (inlHN_ok Nqt_ok H0_ok c4l 2) (an:=c4l 47) (fun _ _=>trivial) fun y ho=>kc (d3y y.1 ) (by kernel_rfl)
def c4k:Nat->D1:=fun|55=>⟨23,nn,nn⟩|_=>⟨0,nn,nn⟩
def a6S(n:Int):=bif true then max (0:Int) (bif false then max n (b8 (Tm.mk (Dy.mk 9999 12 31) 0 0 0 false false)+86400-1)else min n (b8 (Tm.mk (Dy.mk 9999 12 31) 0 0 0 false false)+86400-1))else min (0:Int) (bif false then max n (b8 (Tm.mk (Dy.mk 9999 12 31) 0 0 0 false false)+86400-1)else min n (b8 (Tm.mk (Dy.mk 9999 12 31) 0 0 0 false false)+86400-1))
def c9R(n:Int)(y:Tm)(Q:Tm->Prop):Prop:=
c6 (b8 (Tm.mk (Dy.mk 9999 12 31) 0 0 0 false false)+86400)/\c6 (b8 (Tm.mk (Dy.mk 9999 12 31) 0 0 0 false false)+86400-1)/\(bR (y.n9=true) ((86400:Int)≠0/\c6 ((a6S n).tdiv 86400)/\c6 ((a6S n).tdiv (86400:Int)*86400)/\(a6S n).tdiv (86400:Int)*86400<=9000000000000000000/\Q (j6 (K3 ((a6S n).tdiv (86400:Int)*86400) (j6 y)))) ((a6S n)<=9000000000000000000/\Q (j6 (K3 (a6S n) (j6 y)))))
def b7h:b8 (Tm.mk (Dy.mk 9999 12 31) 0 0 0 false false)=315537811200:=by kernel_rfl
def d2z(n:Int)(y:Tm)  : c9R n y (fun y0=>y0=X5 n y):=by
 unfold c9R a6S;simp only[x9,A6,B3,C5,C4,C6,C8,C3,B9,D0,B7,d4p,b7h,d4G,d4L];have e:(315537811200:Int)+86400-1=315537897599:=by decide
 simp only[e];unfold X5;have b0:0<=max 0 (min n 315537897599):=by omega
 have b1:max 0 (min n 315537897599)<=315537897599:=by omega
 generalize max 0 (min n 315537897599)=k at *;rw[d4r b0];refine⟨⟨by omega,by omega⟩,⟨by omega,by omega⟩,fun h=>⟨by decide,⟨by omega,by omega⟩,⟨by omega,by omega⟩,by omega,?_⟩,fun h=>⟨by omega,?_⟩⟩
 . rw[if_pos h]
 . rw[if_neg h]
def d0G(n:Int)(y:Tm):Q1 U:=⟨[],[],.agg [.int .i64 (X5 n y).Day.Year,.int .i64 (X5 n y).Day.Month,.int .i64 (X5 n y).Day.Date,.int .i64 (X5 n y).Hour,.int .i64 (X5 n y).Min,.int .i64 (X5 n y).D5,I0 (X5 n y).n9,I0 (X5 n y).UTC]⟩
def c6U(a:List (SV U)):Option (Q1 U):=match a with|[.int .i64 n,.agg l_y]=>(y26.bk (.agg l_y)).bind fun y=>some (d0G n y)|_=>none
def d0X:Env:=c6N.A7 55 c6U
def Nqed_ok:c8 d0X:=Nqlo_ok.A7 Tryz.call55 fun(args:List (SV U)) (q:Q1 U) (h:c6U args=some q) ho=>by
 unfold c6U at h;split at h
 . rename_i n l_y;obtain⟨y,hb_y,h⟩:=d4y.1 h;cases h;refine A0.conv (E:=c6N) (args':=[.int .i64 n,.agg [.int .i64 y.Day.Year,.int .i64 y.Day.Month,.int .i64 y.Day.Date,.int .i64 y.Hour,.int .i64 y.Min,.int .i64 y.D5,I0 y.n9,I0 y.UTC]]) (H6 (an:=c4k 55) Nqlo_ok (inlHN_ok Nqlo_ok H0_ok c4k 2) Tryz.func55 (k:=.val 26) ⟨_,_,rfl,rfl,rfl⟩ (kc (d2z n y ) (by kernel_rfl)) 0) fun D w vs hr=>N6 [.int .i64 n,.agg l_y] [.int .i64 n,.agg [.int .i64 y.Day.Year,.int .i64 y.Day.Month,.int .i64 y.Day.Date,.int .i64 y.Hour,.int .i64 y.Min,.int .i64 y.D5,I0 y.n9,I0 y.UTC]] _ ⟨fun _ h=>h,fun _ h=>a1i hb_y h,trivial⟩ hr
 . cases h
def c5j:Env:=d0X.z6 101 Tryz.f101
def NI101_ok:c8 c5j:=Nqed_ok.z6 Tryz.call101 Tryz.func101
def c4A:Env:=c5j.z6 141 Tryz.f141
def NI141_ok:c8 c4A:=NI101_ok.z6 Tryz.call141 Tryz.func141
def c54:Env:=c4A.z6 102 Tryz.f102
def NI102_ok:c8 c54:=NI141_ok.z6 Tryz.call102 Tryz.func102
def c4p:Nat->D1:=fun|59=>⟨10,nn,nn⟩|101=>⟨9,nn,nn⟩|141=>⟨19,fun|2=>some ⟨[0,1,7],[.slot 8 (.int .i64)]⟩|_=>none,nn⟩|102=>⟨8,nn,nn⟩|_=>⟨0,nn,nn⟩
def d0K(o:E3)(t:Tm)(Q:Bool->Prop):Prop:=
∃(I:Int->Prop),∃(m:Int->Nat),I 0/\∀(x:Int),I x->(bR (x<(↑o.Main.q8.length:Int)) (0<=x/\x<(↑o.Main.q8.length:Int)/\(bR (((ix o.Main.q8 x).Time.Day.Year=t.Day.Year/\(ix o.Main.q8 x).Time.Day.Month=t.Day.Month/\(ix o.Main.q8 x).Time.Day.Date=t.Day.Date/\True)/\(ix o.Main.q8 x).Time.Hour=t.Hour/\(ix o.Main.q8 x).Time.Min=t.Min/\(ix o.Main.q8 x).Time.D5=t.D5/\((ix o.Main.q8 x).Time.n9=true↔t.n9=true)/\((ix o.Main.q8 x).Time.UTC=true↔t.UTC=true)/\True) (Q (decide (0<=x))) (c6 (x+1)/\I (x+1)/\m (x+1)<m x))) (Q (decide ((0:Int)<=(-1:Int)))))
def d3g(o:E3)(t:Tm)(hl:(o.Main.q8.length:Int)<=1000000):d0K o t (fun y0=>y0=W7 o t):=by
 unfold d0K;refine⟨fun x=>0<=x/\x<=o.Main.q8.length/\q9 x fun j=>decide ((ix o.Main.q8 j).Time=t)=false,fun x=>((o.Main.q8.length:Int)-x).toNat,⟨by omega,by omega,q9.zero⟩,?_⟩;rintro x ⟨x0,x1,hx⟩;rw[teq];refine⟨fun hi=>⟨x0,hi,fun hd=>?_,fun hd=>⟨⟨by omega,by omega⟩,⟨by omega,by omega,hx.succ (d4F hd)⟩,by dsimp only;omega⟩⟩,fun hi=>?_⟩
 . rw[d4u x0];exact(b0g x0 hi (d4u hd)).symm
 . exact(b41 (l:=o.Main.q8) (p:=fun m:G9=>decide (m.Time=t)) fun j j0 j1=>hx j j0 (by omega)).symm
def d2r:Env:=c54.kL 59 (r38.c (r26.c .n)) (.bool) (fun y=>[(y.1.Main.q8.length:Int)<=1000000]) (fun y=>W7 y.1 y.2.1)
def Nqou_ok:c8 d2r:=NI102_ok.kL Tryz.call59 Tryz.func59 (inlHN_ok NI102_ok H0_ok c4p 4) (an:=c4p 59) (fun _ _=>trivial) fun y ho=>kc (d3g y.1 y.2.1 ho.1) (by kernel_rfl)
def I9(o:E3)(m:G9)(x:Int)(Q:Tm->l8->Prop):Prop:=(V9 (etZ (ix o.c9 x)) (j6 m.Time)).snd=l8.no (V9 (etZ (ix o.c9 x)) (j6 m.Time)).snd.n0/\Q (j6 (V9 (etZ (ix o.c9 x)) (j6 m.Time)).fst) (l8.p 105 (ix o.c9 x).ID (V9 (etZ (ix o.c9 x)) (j6 m.Time)).snd.n0)
def c50:Nat->D1:=fun|46=>⟨50,fun|2=>some ⟨[3,4,11,12],[.slot 13 (.int .i64),.own 4 [(.int .i64),(.int .i64),(.int .i64),(.int .i64),(.int .i64),(.int .i64),.bool,.bool]]⟩|_=>none,fun|3000007=>some ⟨[],[]⟩|_=>none⟩|_=>⟨0,nn,nn⟩
def c9W(o:E3)(m:G9)(Q:Tm->l8->Prop):Prop:=
∃(I:Int->Int->Int->Int->Int->Int->Int->Bool->Bool->Prop),∃(m_1:Int->Int->Int->Int->Int->Int->Int->Bool->Bool->Nat),I 0 0 0 0 0 0 0 false false/\∀(x x_1 x_2 x_3 x_4 x_5 x_6:Int)(x_7 x_8:Bool),I x x_1 x_2 x_3 x_4 x_5 x_6 x_7 x_8->(bR (x<(↑o.c9.length:Int)) (0<=x/\x<(↑o.c9.length:Int)/\(bR (m.I3≠[]/\(ix o.c9 x).ID=m.I3) (X1 (etZ (ix o.c9 x))/\(bR ((V9 (etZ (ix o.c9 x)) (j6 m.Time)).snd≠l8.nil) ((((((((I9 o m x Q)/\I9 o m x Q)/\I9 o m x Q)/\I9 o m x Q)/\I9 o m x Q)/\(((((I9 o m x Q)/\I9 o m x Q)/\I9 o m x Q)/\I9 o m x Q)/\I9 o m x Q)/\(I9 o m x Q)/\I9 o m x Q)/\((((((I9 o m x Q)/\I9 o m x Q)/\I9 o m x Q)/\I9 o m x Q)/\I9 o m x Q)/\I9 o m x Q)/\((I9 o m x Q)/\I9 o m x Q)/\I9 o m x Q)/\(((((((I9 o m x Q)/\I9 o m x Q)/\I9 o m x Q)/\I9 o m x Q)/\I9 o m x Q)/\(((((I9 o m x Q)/\I9 o m x Q)/\I9 o m x Q)/\I9 o m x Q)/\I9 o m x Q)/\(I9 o m x Q)/\I9 o m x Q)/\((((((I9 o m x Q)/\I9 o m x Q)/\I9 o m x Q)/\I9 o m x Q)/\I9 o m x Q)/\((((I9 o m x Q)/\I9 o m x Q)/\I9 o m x Q)/\I9 o m x Q)/\(((I9 o m x Q)/\I9 o m x Q)/\I9 o m x Q)/\((I9 o m x Q)/\I9 o m x Q)/\I9 o m x Q)/\(((((I9 o m x Q)/\I9 o m x Q)/\I9 o m x Q)/\I9 o m x Q)/\I9 o m x Q)/\((((I9 o m x Q)/\I9 o m x Q)/\I9 o m x Q)/\I9 o m x Q)/\(((I9 o m x Q)/\I9 o m x Q)/\I9 o m x Q)/\((I9 o m x Q)/\I9 o m x Q)/\I9 o m x Q)/\((((((I9 o m x Q)/\I9 o m x Q)/\I9 o m x Q)/\I9 o m x Q)/\I9 o m x Q)/\I9 o m x Q)/\(((((I9 o m x Q)/\I9 o m x Q)/\I9 o m x Q)/\I9 o m x Q)/\I9 o m x Q)/\((((I9 o m x Q)/\I9 o m x Q)/\I9 o m x Q)/\I9 o m x Q)/\(((I9 o m x Q)/\I9 o m x Q)/\I9 o m x Q)/\((I9 o m x Q)/\I9 o m x Q)/\I9 o m x Q) (Q (j6 (V9 (etZ (ix o.c9 x)) (j6 m.Time)).fst) l8.nil))) (c6 (x+1)/\I (x+1) x_1 x_2 x_3 x_4 x_5 x_6 (decide (x_7=true)) (decide (x_8=true))/\m_1 (x+1) x_1 x_2 x_3 x_4 x_5 x_6 (decide (x_7=true)) (decide (x_8=true))<m_1 x x_1 x_2 x_3 x_4 x_5 x_6 x_7 x_8))) (b8 (j6 m.Time)<=9000000000000000000/\Q (j6 (K3 (b8 (j6 m.Time)) (Tm.mk (Dy.mk 0 0 0) 0 0 0 false true))) l8.nil))
def d2w(o:E3)(m:G9)(hf:∀z∈o.c9,X1 z)(hl:(o.c9.length:Int)<=1000000):c9W o m (fun y0 y1=>y0=(u9 105 o m).1/\y1=(u9 105 o m).2):=by
 unfold c9W;refine⟨fun x _ _ _ _ _ _ _ _=>0<=x/\x<=o.c9.length/\a14 105 m o.c9=a14 105 m (o.c9.drop x.toNat),fun x _ _ _ _ _ _ _ _=>((o.c9.length:Int)-x).toNat,⟨by omega,by omega,rfl⟩,?_⟩;rintro x _ _ _ _ _ _ _ _ ⟨x0,x1,hx⟩;have rg:=y7 m.Time;simp only[x9,A6,B3,C5,C4,C6,C8,C3,B9,D0,B7,d4p];have hd:x<o.c9.length->o.c9.drop x.toNat=ix o.c9 x::o.c9.drop (x+1).toNat:=fun hi=>by rw[show(x+1).toNat=x.toNat+1 by omega,w8 (by omega)];exact d5Q (by omega)
 have ms:u9 105 o m=a14 105 m (o.c9.drop x.toNat):=hx;rw[ms];refine⟨fun hi=>⟨x0,hi,fun hc=>⟨hf _ (w5 x0 hi),fun he=>?_,fun he=>?_⟩,fun hc=>⟨⟨by omega,by omega⟩,⟨by omega,by omega,?_⟩,by omega⟩⟩,fun hi=>⟨by omega,?_⟩⟩
 . have T:I9 o m x (fun y0 y1=>y0=(a14 105 m (o.c9.drop x.toNat)).1/\y1=(a14 105 m (o.c9.drop x.toNat)).2):=by
     unfold I9;simp only[x9,A6,B3,C5,C4,C6,C8,C3,B9,D0,B7,d4p];obtain⟨k,hk⟩:=(b0Y (ix o.c9 x) m.Time).resolve_left he;rw[hd hi];unfold a14;rw[if_pos hc,if_neg he,hk];exact⟨rfl,rfl,rfl⟩
   simp only[and_self];exact T
 . have he:=d4i.1 he;rw[hd hi];unfold a14;rw[if_pos hc,if_pos he];exact⟨rfl,rfl⟩
 . rw[hx,hd hi,a14,if_neg hc]
 . rw[d5P (by omega),a14];exact⟨rfl,rfl⟩
def c9p(o:E3)(m:G9)(nx:Nat):CR U:=⟨[(∀z∈o.c9,X1 z),(o.c9.length:Int)<=1000000],[],.E8 [.agg [.int .i64 ((u9 105 o m).1).Day.Year,.int .i64 ((u9 105 o m).1).Day.Month,.int .i64 ((u9 105 o m).1).Day.Date,.int .i64 ((u9 105 o m).1).Hour,.int .i64 ((u9 105 o m).1).Min,.int .i64 ((u9 105 o m).1).D5,I0 ((u9 105 o m).1).n9,I0 ((u9 105 o m).1).UTC],.err ((u9 105 o m).2)],[]⟩
def c6t(a:List (SV U))(nx:Nat):Option (CR U):=match a with|[.agg l_o,.agg l_m]=>(y38.bk (.agg l_o)).bind fun o=>(y28.bk (.agg l_m)).bind fun m=>some (c9p o m nx)|_=>none
def d2g:Env:=d2r.a0B 46 c6t
def Nqmo_ok:c8 d2g:=Nqou_ok.a0B Tryz.call46 fun(args:List (SV U)) nx (c:CR U) (h:c6t args nx=some c) hp ho=>by
 unfold c6t at h;split at h
 . rename_i l_o l_m;obtain⟨o,hb_o,h⟩:=d4y.1 h;obtain⟨m,hb_m,h⟩:=d4y.1 h;cases h;exact O8.a3F (b:=[.agg [.str o.Kind,.str o.UID,.sl (N:=U) 92 o.c9,.int .i64 o.Main.Start.Time.Day.Year,.int .i64 o.Main.Start.Time.Day.Month,.int .i64 o.Main.Start.Time.Day.Date,.int .i64 o.Main.Start.Time.Hour,.int .i64 o.Main.Start.Time.Min,.int .i64 o.Main.Start.Time.D5,I0 o.Main.Start.Time.n9,I0 o.Main.Start.Time.UTC,.str o.Main.Start.I3,.sl (N:=U) 28 o.Main.End,.sl (N:=U) 3 o.Main.Span,.sl (N:=U) 64 o.Main.b9,.sl (N:=U) 28 o.Main.p4,.sl (N:=U) 28 o.Main.q8,.sl (N:=U) 28 o.Main.p7,.sl (N:=U) 136 o.Main.v7,.sl (N:=U) 86 o.Main.Extra,.sl (N:=U) 35 o.Over,.sl (N:=U) 86 o.Extra],.agg [.int .i64 m.Time.Day.Year,.int .i64 m.Time.Day.Month,.int .i64 m.Time.Day.Date,.int .i64 m.Time.Hour,.int .i64 m.Time.Min,.int .i64 m.Time.D5,I0 m.Time.n9,I0 m.Time.UTC,.str m.I3]]) (c6Z (an:=c50 46) Nqou_ok (inlHN_ok Nqou_ok H0_ok c50 2) Tryz.func46 (k1:=.val 26) (k2:=.err) rfl rfl (kc (d2w o m ho.1 ho.2.1) (by kernel_rfl))) fun ρ Z w v hr=>N6 [.agg l_o,.agg l_m] [.agg [.str o.Kind,.str o.UID,.sl (N:=U) 92 o.c9,.int .i64 o.Main.Start.Time.Day.Year,.int .i64 o.Main.Start.Time.Day.Month,.int .i64 o.Main.Start.Time.Day.Date,.int .i64 o.Main.Start.Time.Hour,.int .i64 o.Main.Start.Time.Min,.int .i64 o.Main.Start.Time.D5,I0 o.Main.Start.Time.n9,I0 o.Main.Start.Time.UTC,.str o.Main.Start.I3,.sl (N:=U) 28 o.Main.End,.sl (N:=U) 3 o.Main.Span,.sl (N:=U) 64 o.Main.b9,.sl (N:=U) 28 o.Main.p4,.sl (N:=U) 28 o.Main.q8,.sl (N:=U) 28 o.Main.p7,.sl (N:=U) 136 o.Main.v7,.sl (N:=U) 86 o.Main.Extra,.sl (N:=U) 35 o.Over,.sl (N:=U) 86 o.Extra],.agg [.int .i64 m.Time.Day.Year,.int .i64 m.Time.Day.Month,.int .i64 m.Time.Day.Date,.int .i64 m.Time.Hour,.int .i64 m.Time.Min,.int .i64 m.Time.D5,I0 m.Time.n9,I0 m.Time.UTC,.str m.I3]] _ ⟨fun _ h=>a7L hb_o h,fun _ h=>a7g hb_m h,trivial⟩ hr
 . cases h
def c5J:Nat->D1:=fun|17=>⟨17,nn,nn⟩|_=>⟨0,nn,nn⟩
def c8T(o:E3)(x:R2)(Q:Int->Prop):Prop:=
a1n (etE o)/\(bR (¬bo (a0S (etE o))=true∨¬o7 (j6 x.Start.Time)=true) (Q 0) (Q (A2 (etI x))))
def d3o(o:E3)(x:R2)(hf:a1n o):c8T o x (fun y0=>y0=a1H o x):=by
 unfold c8T;simp only[x9,A6,B3,C5,C4,C6,C8,C3,B9,D0,B7,d4p];unfold a1H;refine⟨hf,fun h=>?_,fun h=>?_⟩
 . rw[if_neg fun e=>h.elim (fun n=>n (y6.2 e.1)) (fun n=>n e.2)]
 . rw[if_pos ⟨y6.1 (d4i.1 fun e=>h (.inl e)),d4i.1 fun e=>h (.inr e)⟩]
def c8U:Env:=d2g.kL 17 (r38.c (r35.c .n)) (.int .i64) (fun y=>[a1n y.1]) (fun y=>a1H y.1 y.2.1)
def Nqlg_ok:c8 c8U:=Nqmo_ok.kL Tryz.call17 Tryz.func17 (inlHN_ok Nqmo_ok H0_ok c5J 2) (an:=c5J 17) (fun _ _=>trivial) fun y ho=>kc (d3o y.1 y.2.1 ho.1) (by kernel_rfl)
def d0w:Env:=c8U.z6 45 Tryz.f45
def NI45_ok:c8 d0w:=Nqlg_ok.z6 Tryz.call45 Tryz.func45
def c4I:Nat->D1:=fun|16=>⟨50,nn,nn⟩|40=>⟨9,nn,nn⟩|88=>⟨19,fun|2=>some ⟨[0,1,7],[.slot 8 (.int .i64)]⟩|_=>none,nn⟩|45=>⟨9,nn,nn⟩|_=>⟨0,nn,nn⟩
def a3m(o:E3)(m:G9):=u9 (105:Nat) (etE o) (etM m)
def b0Q  := Tm.mk (Dy.mk 0 0 0) 0 0 0 false false
def d1C(o:E3)(m:G9)(Q:Tm->l8->Prop):Prop:=
a1n (etE o)/\(bR (¬bo (a0S (etE o))=true∨¬o7 (j6 m.Time)=true) (Q b0Q (l8.no 2)) ((bR (m.I3≠[]) ((bR (m.Time.n9=true∨m.Time.UTC=true) (Q b0Q (l8.no 2)) (∃(I:Int->Prop),∃(m_1:Int->Nat),I 0/\∀(x:Int),I x->(bR (x<(↑o.c9.length:Int)) (0<=x/\x<(↑o.c9.length:Int)/\(bR ((ix o.c9 x).ID=m.I3) ((bR (¬0<=x) (Q b0Q (l8.no 2)) ((∀(z:V5),z∈o.c9->X1 z)/\(↑o.c9.length:Int)<=1000000/\asB (a3m o m).snd=true/\Q (j6 (a3m o m).fst) (Q7 (a3m o m).snd)))) (c6 (x+1)/\I (x+1)/\m_1 (x+1)<m_1 x))) ((bR (¬(0:Int)<=(-1:Int)) (Q b0Q (l8.no 2)) ((∀(z:V5),z∈o.c9->X1 z)/\(↑o.c9.length:Int)<=1000000/\asB (a3m o m).snd=true/\Q (j6 (a3m o m).fst) (Q7 (a3m o m).snd)))))))) ((∀(z:V5),z∈o.c9->X1 z)/\(↑o.c9.length:Int)<=1000000/\asB (a3m o m).snd=true/\Q (j6 (a3m o m).fst) (Q7 (a3m o m).snd)))))
def b0n(m:G9):∀l:List V5,asB (a14 105 m l).2=true
 |[]=>rfl
 |z::r=>by
  unfold a14;split
  . split <;> rfl
  . exact b0n m r
def d3l(o:E3)(m:G9)(hf:a1n o):d1C o m (fun y0 y1=>y0=(a4R 105 o m).1/\y1=(a4R 105 o m).2):=by
 unfold d1C b0Q a3m;simp only[x9,A6,B3,C5,C4,C6,C8,C3,B9,D0,B7,d4p];have hz:=hf.2.2.2.2.2.2.2.1;have hl:=hf.2.2.1;have F:¬(a0S o/\V3 o.c9 m)->tmZ=(a4R 105 o m).1/\l8.no 2=(a4R 105 o m).2:=fun h=>by unfold a4R;rw[if_neg h];exact⟨rfl,rfl⟩
 have G:a0S o/\V3 o.c9 m->(∀z∈o.c9,X1 z)/\(o.c9.length:Int)<=1000000/\asB (u9 105 o m).2=true/\(u9 105 o m).1=(a4R 105 o m).1/\Q7 (u9 105 o m).2=(a4R 105 o m).2:=fun h=>⟨hz,by omega,b0n _ _,by unfold a4R;rw[if_pos h],by unfold a4R;rw[if_pos h]⟩;refine⟨hf,fun h=>F fun e=>h.elim (fun n=>n (y6.2 e.1)) (fun n=>n e.2.1),fun h=>?_⟩;have ho:a0S o:=y6.1 (d4i.1 fun e=>h (.inl e));have hr:o7 m.Time=true:=d4i.1 fun e=>h (.inr e);refine⟨fun hn=>⟨fun hb=>F fun e=>?_,fun hb=>?_⟩,fun hn=>G ⟨ho,hr,fun e=>absurd e hn⟩⟩
 . rcases hb with hb|hb
   . rw[(e.2.2 hn).1]at hb;cases hb
   . rw[(e.2.2 hn).2.1]at hb;cases hb
 refine⟨fun x=>0<=x/\x<=o.c9.length/\q9 x fun j=>(ix o.c9 j).ID≠m.I3,fun x=>((o.c9.length:Int)-x).toNat,⟨by omega,by omega,q9.zero⟩,?_⟩;rintro x ⟨x0,x1,hx⟩;refine⟨fun hi=>⟨x0,hi,fun hd=>⟨fun h=>absurd x0 h,fun _=>G ⟨ho,hr,fun _=>⟨d4W _ ▸ fun e=>hb (.inl e),d4W _ ▸ fun e=>hb (.inr e),x,x0,hi,hd⟩⟩⟩,fun hd=>⟨⟨by omega,by omega⟩,⟨by omega,by omega,hx.succ hd⟩,by dsimp only;omega⟩⟩,fun hi=>⟨fun _=>F fun e=>?_,fun h=>absurd (d4i.1 h) (by decide)⟩⟩;obtain⟨j,j0,j1,hj⟩:=(e.2.2 hn).2.2;exact hx j j0 (by omega) hj
def c91:Env:=d0w.kD 16 (r38.c (r28.c .n)) (.val 26) (.err) (fun y=>[a1n y.1]) (fun y=>((a4R 105 y.1 y.2.1).1:Tm)) (fun y=>((a4R 105 y.1 y.2.1).2:l8))
def Nqmm_ok:c8 c91:=NI45_ok.kD Tryz.call16 Tryz.func16 (inlHN_ok NI45_ok H0_ok c4I 4) (an:=c4I 16) (fun _=>rfl) fun y ho=>kc (d3l y.1 y.2.1 ho.1) (by kernel_rfl)
def c5l:Env:=c91.z6 109 Tryz.f109
def NI109_ok:c8 c5l:=Nqmm_ok.z6 Tryz.call109 Tryz.func109
def c5s:Nat->D1:=fun|64=>⟨63,fun|3=>some ⟨[2,3,25,26],[.slot 6 .bool,.slot 27 (.int .i64)]⟩|_=>none,nn⟩|101=>⟨9,nn,nn⟩|141=>⟨19,fun|2=>some ⟨[0,1,7],[.slot 8 (.int .i64)]⟩|_=>none,nn⟩|109=>⟨8,nn,nn⟩|_=>⟨0,nn,nn⟩
def a6l(o:E3)(x_1:Int)(t:Tm):=isP (j6 o.Main.Start.Time) (L3 (ix o.Main.b9 x_1)) (j6 t)
def d0v(o:E3)(t:Tm)(Q:Bool->l8->Prop):Prop:=
∃(I:Bool->Int->Prop),∃(m:Bool->Int->Nat),I (decide ((↑o.Main.b9.length:Int)=0/\(t.Day.Year=o.Main.Start.Time.Day.Year/\t.Day.Month=o.Main.Start.Time.Day.Month/\t.Day.Date=o.Main.Start.Time.Day.Date/\True)/\t.Hour=o.Main.Start.Time.Hour/\t.Min=o.Main.Start.Time.Min/\t.D5=o.Main.Start.Time.D5/\(t.n9=true↔o.Main.Start.Time.n9=true)/\(t.UTC=true↔o.Main.Start.Time.UTC=true)/\True)) 0/\∀(x:Bool)(x_1:Int),I x x_1->(bR (x_1<(↑o.Main.b9.length:Int)) (0<=x_1/\x_1<(↑o.Main.b9.length:Int)/\(c6 (ix o.Main.b9 x_1).j8->c6 (ix o.Main.b9 x_1).Interval->c6 (ix o.Main.b9 x_1).Count->c6 (ix o.Main.b9 x_1).u6->F4 (L3 (ix o.Main.b9 x_1))=true/\(bR ((a6l o x_1 t).snd≠l8.nil) ((a6l o x_1 t).snd=l8.no (a6l o x_1 t).snd.n0/\Q false (l8.p (105:Nat) ([105,115]:List UInt8) (a6l o x_1 t).snd.n0)) (c6 (x_1+1)/\I (decide ((a6l o x_1 t).fst=true)) (x_1+1)/\m (decide ((a6l o x_1 t).fst=true)) (x_1+1)<m x x_1)))) ((bR (x=true) ((↑o.Main.q8.length:Int)<=1000000/\Q (decide ¬W7 (etE o) (j6 t)=true) l8.nil) (∃(I:Int->Prop),∃(m:Int->Nat),I 0/\∀(x:Int),I x->(bR (x<(↑o.Main.p4.length:Int)) (0<=x/\x<(↑o.Main.p4.length:Int)/\(bR (((ix o.Main.p4 x).Time.Day.Year=t.Day.Year/\(ix o.Main.p4 x).Time.Day.Month=t.Day.Month/\(ix o.Main.p4 x).Time.Day.Date=t.Day.Date/\True)/\(ix o.Main.p4 x).Time.Hour=t.Hour/\(ix o.Main.p4 x).Time.Min=t.Min/\(ix o.Main.p4 x).Time.D5=t.D5/\((ix o.Main.p4 x).Time.n9=true↔t.n9=true)/\((ix o.Main.p4 x).Time.UTC=true↔t.UTC=true)/\True) ((0<=x->(↑o.Main.q8.length:Int)<=1000000)/\Q (decide (0<=x/\¬W7 (etE o) (j6 t)=true)) l8.nil) (c6 (x+1)/\I (x+1)/\m (x+1)<m x))) (((0:Int)<=(-1:Int)->(↑o.Main.q8.length:Int)<=1000000)/\Q (decide ((0:Int)<=(-1:Int)/\¬W7 (etE o) (j6 t)=true)) l8.nil))))))
def d3N(o:E3)(t:Tm)(hf:a2i o.Main):d0v o t (fun y0 y1=>y0=(a1k 105 o t).1/\y1=(a1k 105 o t).2):=by
 unfold d0v a6l;simp only[x9,A6,B3,C5,C4,C6,C8,C3,B9,D0,B7,d4p,teq];obtain⟨f1,f2,f3,f4,f5,f6,f7,f8,f9,f10,f11⟩:=hf;have hd:∀i:Int,0<=i->i<o.Main.b9.length->o.Main.b9.drop i.toNat=ix o.Main.b9 i::o.Main.b9.drop (i+1).toNat:=fun i i0 hi=>by rw[show(i+1).toNat=i.toNat+1 by omega,w8 (by omega)];exact d5Q (by omega)
 refine⟨fun b i=>0<=i/\i<=o.Main.b9.length/\a8C 105 o.Main.Start.Time t (decide ((o.Main.b9.length:Int)=0/\t=o.Main.Start.Time)) o.Main.b9=a8C 105 o.Main.Start.Time t b (o.Main.b9.drop i.toNat),fun _ i=>((o.Main.b9.length:Int)-i).toNat,⟨by omega,by omega,rfl⟩,?_⟩;rintro b i ⟨i0,i1,hb⟩;refine⟨fun hi=>⟨i0,hi,fun _ _ _ _=>⟨f8 _ (w5 i0 hi),fun he=>?_,fun he=>⟨⟨by omega,by omega⟩,⟨by omega,by omega,?_⟩,by dsimp only;omega⟩⟩⟩,fun hi=>?_⟩
 . obtain⟨k,hk⟩:=(b67 o.Main.Start.Time (ix o.Main.b9 i) t).resolve_left he;have hL:a8C 105 o.Main.Start.Time t (decide ((o.Main.b9.length:Int)=0/\t=o.Main.Start.Time)) o.Main.b9=(false,.p 105 isN k):=by
    rw[hb,hd i i0 hi,a8C,if_neg he,hk];rfl
   have H:a1k 105 o t=(false,.p 105 isN k):=by unfold a1k;dsimp only;rw[hL,if_neg (fun e=>by cases e)]
   rw[H,hk];exact⟨rfl,rfl,rfl⟩
 . rw[hb,hd i i0 hi,a8C,if_pos (d4i.1 he)]
 . have hL:a8C 105 o.Main.Start.Time t (decide ((o.Main.b9.length:Int)=0/\t=o.Main.Start.Time)) o.Main.b9=(b,.nil):=by
     rw[hb,d5P (by omega)];rfl
   have H:a1k 105 o t=((b || o.Main.p4.any fun m=>decide (m.Time=t)) && !W7 o t,.nil):=by unfold a1k;dsimp only;rw[hL,if_pos rfl]
   rw[H];refine⟨fun hx=>⟨by omega,?_,rfl⟩,fun hx=>⟨fun x=>0<=x/\x<=o.Main.p4.length/\q9 x fun j=>decide ((ix o.Main.p4 j).Time=t)=false,fun x=>((o.Main.p4.length:Int)-x).toNat,⟨by omega,by omega,q9.zero⟩,?_⟩⟩
   . rw[hx,Bool.true_or,Bool.true_and];cases W7 o t <;> rfl
   rintro x ⟨x0,x1,hx'⟩;refine⟨fun hi2=>⟨x0,hi2,fun hd=>⟨fun _=>by omega,?_,rfl⟩,fun hd=>⟨⟨by omega,by omega⟩,⟨by omega,by omega,hx'.succ (d4F hd)⟩,by dsimp only;omega⟩⟩,fun hi2=>⟨fun h=>by omega,?_,rfl⟩⟩
   . rw[b0g (p:=fun m:G9=>decide (m.Time=t)) x0 hi2 (d4u hd),Bool.or_true,Bool.true_and];cases W7 o t <;> simp[x0]
   . rw[b41 (l:=o.Main.p4) (p:=fun m:G9=>decide (m.Time=t)) fun j j0 j1=>hx' j j0 (by omega),d7R.2 hx];exact d4F fun e=>absurd e.1 (by decide)
def c8X:Env:=c5l.kD 64 (r38.c (r26.c .n)) (.bool) (.err) (fun y=>[a2i y.1.Main]) (fun y=>((a1k 105 y.1 y.2.1).1:Bool)) (fun y=>((a1k 105 y.1 y.2.1).2:l8))
def Nqha_ok:c8 c8X:=NI109_ok.kD Tryz.call64 Tryz.func64 (inlHN_ok NI109_ok H0_ok c5s 4) (an:=c5s 64) (fun _=>rfl) fun y ho=>kc (d3N y.1 y.2.1 ho.1) (by kernel_rfl)
end Go.Proofs.YtapnoejokajcoaaGreatDoor
section
namespace Go.Proofs.YtapnoejokajcoaaGreatDoor
open Go Go.Wk Go.Wl Go.Rx Go.Re Go.Li Go.Qu Go.Fo 
def a9c{p:J8}(h:b33 p=true):z7 p:=by unfold b33 at h;obtain⟨h1,h2⟩:=d5e h;unfold c6s at h2;have a1:=J5 p.Value.length;have a2:=J5 p.Name.length;have a3:=J5 p.D9.length;have a4:=a6k (p.Params.take 31);have e:p.Params.take 31=p.Params:=d4M (by omega);rw[e]at h2 a4;have b1:=R7 (n:=p.Value.length) (k:=5000) (by omega) (by decide);have b2:=R7 (n:=p.Name.length) (k:=5000) (by omega) (by decide);have b3:=R7 (n:=p.D9.length) (k:=5000) (by omega) (by decide);refine⟨by omega,by omega,by omega,by omega,fun x hx=>?_⟩;have c:=c1x hx;unfold a8o at c;have c1:=J5 x.Name.length;have c2:=J5 x.o8.length;have c3:=a4u (x.o8.take 31);have d1:=R7 (n:=x.Name.length) (k:=5000) (by omega) (by decide);have d2:=R7 (n:=x.o8.length) (k:=5000) (by omega) (by decide);refine⟨by omega,by omega,fun v hv=>?_⟩;have c4:=b99 hv;have d3:=R7 (n:=v.length) (k:=5000) (by omega) (by decide);omega
attribute [local irreducible] i7
def prS(l:List J8):Nat->Int
 |0=>0
 |n+1=>prS l n+10+(ix l n).Value.length
def a3n(l:List J8):Bool:=bo ((l.length:Int)<=110/\(q9 l.length fun j=>b33 (ix l j)=true)/\prS l l.length<=6000)
def c5H:Nat->D1:=fun|48=>⟨31,fun|5=>some ⟨[0,9],[.slot 3 (.int .i64),.slot 10 (.int .i64)]⟩|_=>none,nn⟩|_=>⟨0,nn,nn⟩
def d0I(l:List J8)(Q:Bool->Prop):Prop:=
(bR (110<(↑l.length:Int)) (Q false) (∃(I:Int->Int->Prop),∃(m:Int->Int->Nat),I 0 0/\∀(x x_1:Int),I x x_1->(bR (x_1<(↑l.length:Int)) (0<=x_1/\x_1<(↑l.length:Int)/\(bR (¬b33 (Y8 (ix l x_1))=true) (Q false) (c6 (x+10)/\0<=x_1/\x_1<(↑l.length:Int)/\c6 (x+10+(↑(List.length (ix l x_1).Value):Int))/\c6 (x_1+1)/\I (x+10+(↑(List.length (ix l x_1).Value):Int)) (x_1+1)/\m (x+10+(↑(List.length (ix l x_1).Value):Int)) (x_1+1)<m x x_1))) (Q (decide (x<=6000))))))
def d3O(l:List J8)  : d0I l (fun y0=>y0=a3n l):=by
 unfold d0I;simp only[x9,A6,B3,C5,C4,C6,C8,C3,B9,D0,B7,d4p];refine⟨fun h=>G1 fun e=>by omega,fun h=>?_⟩;refine⟨fun x i=>0<=i/\i<=l.length/\(q9 i fun j=>b33 (ix l j)=true)/\x=prS l i.toNat/\0<=x/\x<=5010*i,fun _ i=>((l.length:Int)-i).toNat,⟨by omega,by omega,q9.zero,rfl,by omega,by omega⟩,?_⟩;rintro x i ⟨i0,i1,hx,hs,s0,s1⟩;refine⟨fun hi=>⟨i0,hi,fun hf=>G1 fun e=>hf (e.2.1 i i0 hi),fun hf=>?_⟩,fun hi=>?_⟩
 . have hf:=d4i.1 hf;have v:=(a9c hf).value;refine⟨⟨by omega,by omega⟩,i0,hi,⟨by omega,by omega⟩,⟨by omega,by omega⟩,⟨by omega,by omega,hx.succ hf,?_,by omega,by omega⟩,by dsimp only;omega⟩;rw[show(i+1).toNat=i.toNat+1 by omega,prS,<- hs,show((i.toNat:Nat):Int)=i by omega]
 . have e:i.toNat=l.length:=by omega
   rw[hs,e];exact a1g ⟨fun q=>⟨by omega,fun j j0 j1=>hx j j0 (by omega),q⟩,fun q=>q.2.2⟩
def d0O:Env:=c8X.kL 48 ((rL 86).c .n) (.bool) (fun _=>[]) (fun y=>a3n y.1)
def Nl3p_ok:c8 d0O:=Nqha_ok.kL Tryz.call48 Tryz.func48 (inlHN_ok Nqha_ok H0_ok c5H 2) (an:=c5H 48) (fun _ _=>trivial) fun y ho=>kc (d3O y.1 ) (by kernel_rfl)
end Go.Proofs.YtapnoejokajcoaaGreatDoor
end
namespace Go.Proofs.YtapnoejokajcoaaGreatDoor
open Go Go.Wk Go.Wl Go.Rx Go.Re Go.Li Go.Qu Go.Fo 
attribute [local irreducible] i7
def c7C(x:R2)(j:Int):Prop:=(((ix x.v7 j).Action.length:Nat):Int)<=2000/\((ix x.v7 j).Extra.length:Int)<=20/\a3n (ix x.v7 j).Extra=true
def c9j(x:R2):Prop:=(x.End.length:Int)<=60/\(x.Span.length:Int)<=60/\(x.b9.length:Int)<=5/\(x.p4.length:Int)<=120/\(x.q8.length:Int)<=120/\(x.p7.length:Int)<=60/\(x.v7.length:Int)<=15/\a3n x.Extra=true
def a8l(x:R2):Bool:=bo (c9j x/\(q9 x.b9.length fun j=>F4 (ix x.b9 j)=true)/\q9 x.v7.length (c7C x))
def c4h:Nat->D1:=fun|49=>⟨100,fun|10=>some ⟨[1,67],[.slot 68 (.int .i64)]⟩|4=>some ⟨[1,53],[.slot 54 (.int .i64)]⟩|_=>none,nn⟩|_=>⟨0,nn,nn⟩
def c9l(x:R2)(Q:Bool->Prop):Prop:=
(bR (((((((60<(↑x.End.length:Int)∨60<(↑x.Span.length:Int))∨5<(↑x.b9.length:Int))∨120<(↑x.p4.length:Int))∨120<(↑x.q8.length:Int))∨60<(↑x.p7.length:Int))∨15<(↑x.v7.length:Int))∨¬a3n x.Extra=true) (Q false) (∃(I:Int->Prop),∃(m:Int->Nat),I 0/\∀(x_1:Int),I x_1->(bR (x_1<(↑x.b9.length:Int)) (0<=x_1/\x_1<(↑x.b9.length:Int)/\(c6 (ix x.b9 x_1).j8->c6 (ix x.b9 x_1).Interval->c6 (ix x.b9 x_1).Count->c6 (ix x.b9 x_1).u6->(bR (¬F4 (L3 (ix x.b9 x_1))=true) (Q false) (c6 (x_1+1)/\I (x_1+1)/\m (x_1+1)<m x_1)))) (∃(I:Int->Prop),∃(m:Int->Nat),I 0/\∀(x_2:Int),I x_2->(bR (x_2<(↑x.v7.length:Int)) (0<=x_2/\x_2<(↑x.v7.length:Int)/\(¬2000<(↑(List.length (ix x.v7 x_2).Action):Int)->0<=x_2)/\(¬2000<(↑(List.length (ix x.v7 x_2).Action):Int)->x_2<(↑x.v7.length:Int))/\(¬(2000<(↑(List.length (ix x.v7 x_2).Action):Int)∨20<(↑(ix x.v7 x_2).Extra.length:Int))->0<=x_2)/\(¬(2000<(↑(List.length (ix x.v7 x_2).Action):Int)∨20<(↑(ix x.v7 x_2).Extra.length:Int))->x_2<(↑x.v7.length:Int))/\(bR ((2000<(↑(List.length (ix x.v7 x_2).Action):Int)∨20<(↑(ix x.v7 x_2).Extra.length:Int))∨¬a3n (ix x.v7 x_2).Extra=true) (Q false) (c6 (x_2+1)/\I (x_2+1)/\m (x_2+1)<m x_2))) (Q true))))))
def d2J(x:R2)  : c9l x (fun y0=>y0=a8l x):=by
 unfold c9l;simp only[x9,A6,B3,C5,C4,C6,C8,C3,B9,D0,B7,d4p];refine⟨fun h=>G1 fun⟨⟨a,b,c,d,e,f,g,p⟩,_⟩=>?_,fun h=>?_⟩
 . rcases h with((((((h|h)|h)|h)|h)|h)|h)|h
   . omega
   . omega
   . omega
   . omega
   . omega
   . omega
   . omega
   . exact h p
 have g1:c9j x:=⟨d4X.1 fun e=>h (.inl (.inl (.inl (.inl (.inl (.inl (.inl e))))))),d4X.1 fun e=>h (.inl (.inl (.inl (.inl (.inl (.inl (.inr e))))))),d4X.1 fun e=>h (.inl (.inl (.inl (.inl (.inl (.inr e)))))),d4X.1 fun e=>h (.inl (.inl (.inl (.inl (.inr e))))),d4X.1 fun e=>h (.inl (.inl (.inl (.inr e)))),d4X.1 fun e=>h (.inl (.inl (.inr e))),d4X.1 fun e=>h (.inl (.inr e)),d4i.1 fun e=>h (.inr e)⟩;clear h;have l1:=g1.2.2.1;have l2:=g1.2.2.2.2.2.2.1;refine⟨fun k=>0<=k/\k<=x.b9.length/\q9 k fun j=>F4 (ix x.b9 j)=true,fun k=>((x.b9.length:Int)-k).toNat,⟨by omega,by omega,q9.zero⟩,?_⟩;rintro k ⟨k0,k1,hk⟩;refine⟨fun hi=>⟨k0,hi,fun _ _ _ _=>⟨fun h=>G1 fun e=>?_,fun h=>⟨⟨by omega,by omega⟩,⟨by omega,by omega,hk.succ (d4i.1 h)⟩,by dsimp only;omega⟩⟩⟩,fun hi=>?_⟩
 . exact h (e.2.1 k k0 hi)
 have g2:q9 x.b9.length fun j=>F4 (ix x.b9 j)=true:=hk.le (by omega);clear hk k0 k1 hi k;refine⟨fun k=>0<=k/\k<=x.v7.length/\q9 k fun j=>c7C x j,fun k=>((x.v7.length:Int)-k).toNat,⟨by omega,by omega,q9.zero⟩,?_⟩;rintro k ⟨k0,k1,hk⟩;refine⟨fun hi=>⟨k0,hi,fun _=>k0,fun _=>hi,fun _=>k0,fun _=>hi,fun h=>G1 fun e=>?_,fun h=>⟨⟨by omega,by omega⟩,⟨by omega,by omega,hk.succ ⟨d4X.1 fun e=>h (.inl (.inl e)),d4X.1 fun e=>h (.inl (.inr e)),d4i.1 fun e=>h (.inr e)⟩⟩,by dsimp only;omega⟩⟩,fun hi=>?_⟩
 . obtain⟨a,b,c⟩:=e.2.2 k k0 hi;rcases h with(h|h)|h
   . omega
   . omega
   . exact h c
 have g3:q9 x.v7.length fun j=>c7C x j:=hk.le (by omega);clear hk k0 k1 hi k;exact a3w ⟨g1,g2,g3⟩
def d0j:Env:=d0O.kL 49 (r35.c .n) (.bool) (fun _=>[]) (fun y=>a8l y.1)
def Nl3i_ok:c8 d0j:=Nl3p_ok.kL Tryz.call49 Tryz.func49 (inlHN_ok Nl3p_ok H0_ok c4h 2) (an:=c4h 49) (fun _ _=>trivial) fun y ho=>kc (d2J y.1 ) (by kernel_rfl)
def c6P(z:V5)(k:Int):Prop:=((ix z.D7 k).b9.length:Int)<=3/\(((ix z.D7 k).Name.length:Nat):Int)<=2000/\(0<((ix z.D7 k).b9.length:Int)->F4 (ix (ix z.D7 k).b9 0)=true)
def b7q(o:E3)(j:Int):Prop:=((ix o.c9 j).D7.length:Int)<=25/\(((ix o.c9 j).ID.length:Nat):Int)<=2000/\q9 (ix o.c9 j).D7.length (c6P (ix o.c9 j))
def ovS(l:List R2):Nat->Int
 |0=>0
 |n+1=>ovS l n+1+(ix l n).Extra.length+5*(ix l n).v7.length
def b0d(o:E3):Bool:=bo (((o.Kind.length:Int)+o.UID.length<=3000/\(o.c9.length:Int)<=8/\(o.Over.length:Int)<=60/\a3n o.Extra=true/\a8l o.Main=true)/\q9 o.c9.length (b7q o)/\(q9 o.Over.length fun j=>a8l (ix o.Over j)=true)/\ovS o.Over o.Over.length<=300)
def c23{x:R2}(h:a8l x=true):(x.Extra.length:Int)<=110/\(x.v7.length:Int)<=15:=by have r:=(y6.1 h).1;exact⟨(y6.1 r.2.2.2.2.2.2.2).1,r.2.2.2.2.2.2.1⟩
def c5m:Nat->D1:=fun|20=>⟨144,fun|18=>some ⟨[1,111],[.slot 6 (.int .i64),.slot 112 (.int .i64)]⟩|4=>some ⟨[1,42],[.slot 43 (.int .i64)]⟩|9=>some ⟨[1,3,42,43,70],[.slot 71 (.int .i64)]⟩|_=>none,nn⟩|_=>⟨0,nn,nn⟩
def M6(o:E3)(x:Int)(x_1:Int):=ix (ix o.c9 x).D7 x_1
def b5K(x:Int)(o:E3)(x_1:Int):=x+1+(↑(ix o.Over x_1).Extra.length:Int)+5*(↑(ix o.Over x_1).v7.length:Int)
def a5m(o:E3)(x:Int)(x_1:Int):=List.length (M6 o x x_1).Name
def c8y(o:E3)(Q:Bool->Prop):Prop:=
c6 ((↑(List.length o.Kind):Int)+(↑(List.length o.UID):Int))/\(bR ((((3000<(↑(List.length o.Kind):Int)+(↑(List.length o.UID):Int)∨8<(↑o.c9.length:Int))∨60<(↑o.Over.length:Int))∨¬a3n o.Extra=true)∨¬a8l (etI o.Main)=true) (Q false) (∃(I:Int->Prop),∃(m:Int->Nat),I 0/\∀(x:Int),I x->(bR (x<(↑o.c9.length:Int)) (0<=x/\x<(↑o.c9.length:Int)/\(¬25<(↑(ix o.c9 x).D7.length:Int)->0<=x)/\(¬25<(↑(ix o.c9 x).D7.length:Int)->x<(↑o.c9.length:Int))/\(bR (25<(↑(ix o.c9 x).D7.length:Int)∨2000<(↑(List.length (ix o.c9 x).ID):Int)) (Q false) (0<=x/\x<(↑o.c9.length:Int)/\∃(I_1:Int->Prop),∃(m_1:Int->Nat),I_1 0/\∀(x_1:Int),I_1 x_1->(bR (x_1<(↑(ix o.c9 x).D7.length:Int)) (0<=x/\x<(↑o.c9.length:Int)/\0<=x_1/\x_1<(↑(ix o.c9 x).D7.length:Int)/\(¬(3<(↑(M6 o x x_1).b9.length:Int)∨2000<(↑(a5m o x x_1):Int))/\0<(↑(M6 o x x_1).b9.length:Int)->(0:Int)<=0)/\(¬(3<(↑(M6 o x x_1).b9.length:Int)∨2000<(↑(a5m o x x_1):Int))/\0<(↑(M6 o x x_1).b9.length:Int)->0<(↑(M6 o x x_1).b9.length:Int))/\((¬(3<(↑(M6 o x x_1).b9.length:Int)∨2000<(↑(a5m o x x_1):Int))/\0<(↑(M6 o x x_1).b9.length:Int)->c6 (ix (M6 o x x_1).b9 0).j8)->(¬(3<(↑(M6 o x x_1).b9.length:Int)∨2000<(↑(a5m o x x_1):Int))/\0<(↑(M6 o x x_1).b9.length:Int)->c6 (ix (M6 o x x_1).b9 0).Interval)->(¬(3<(↑(M6 o x x_1).b9.length:Int)∨2000<(↑(a5m o x x_1):Int))/\0<(↑(M6 o x x_1).b9.length:Int)->c6 (ix (M6 o x x_1).b9 0).Count)->(¬(3<(↑(M6 o x x_1).b9.length:Int)∨2000<(↑(a5m o x x_1):Int))/\0<(↑(M6 o x x_1).b9.length:Int)->c6 (ix (M6 o x x_1).b9 0).u6)->(bR ((3<(↑(M6 o x x_1).b9.length:Int)∨2000<(↑(a5m o x x_1):Int))∨0<(↑(M6 o x x_1).b9.length:Int)/\¬F4 (L3 (ix (M6 o x x_1).b9 0))=true) (Q false) (c6 (x_1+1)/\I_1 (x_1+1)/\m_1 (x_1+1)<m_1 x_1)))) (c6 (x+1)/\I (x+1)/\m (x+1)<m x))))) (∃(I:Int->Int->Prop),∃(m:Int->Int->Nat),I 0 0/\∀(x x_1:Int),I x x_1->(bR (x_1<(↑o.Over.length:Int)) (0<=x_1/\x_1<(↑o.Over.length:Int)/\(bR (¬a8l (etI (ix o.Over x_1))=true) (Q false) (c6 (x+1)/\0<=x_1/\x_1<(↑o.Over.length:Int)/\c6 (x+1+(↑(ix o.Over x_1).Extra.length:Int))/\0<=x_1/\x_1<(↑o.Over.length:Int)/\c6 ((5:Int)*(↑(ix o.Over x_1).v7.length:Int))/\c6 (b5K x o x_1)/\c6 (x_1+1)/\I (b5K x o x_1) (x_1+1)/\m (b5K x o x_1) (x_1+1)<m x x_1))) (Q (decide (x<=300))))))))
def d2S(o:E3)(hk:(o.Kind.length:Int)<=140737488355328)(hu:(o.UID.length:Int)<=140737488355328):c8y o (fun y0=>y0=b0d o):=by
 unfold c8y a5m b5K M6;simp only[x9,A6,B3,C5,C4,C6,C8,C3,B9,D0,B7,d4p];refine⟨⟨by omega,by omega⟩,fun h=>G1 fun⟨⟨a,b,c,d,e⟩,_⟩=>?_,fun h=>?_⟩
 . rcases h with(((h|h)|h)|h)|h
   . omega
   . omega
   . omega
   . exact h d
   . exact h e
 have g1:(o.Kind.length:Int)+o.UID.length<=3000/\(o.c9.length:Int)<=8/\(o.Over.length:Int)<=60/\a3n o.Extra=true/\a8l o.Main=true:=⟨d4X.1 fun e=>h (.inl (.inl (.inl (.inl e)))),d4X.1 fun e=>h (.inl (.inl (.inl (.inr e)))),d4X.1 fun e=>h (.inl (.inl (.inr e))),d4i.1 fun e=>h (.inl (.inr e)),d4i.1 fun e=>h (.inr e)⟩;clear h;have l1:=g1.2.1;have l2:=g1.2.2.1;refine⟨fun x=>0<=x/\x<=o.c9.length/\q9 x (b7q o),fun x=>((o.c9.length:Int)-x).toNat,⟨by omega,by omega,q9.zero⟩,?_⟩;rintro x ⟨x0,x1,hx⟩;refine⟨fun hi=>⟨x0,hi,fun _=>x0,fun _=>hi,fun h=>G1 fun e=>?_,fun h=>⟨x0,hi,?_⟩⟩,fun hi=>?_⟩
 . have z:b7q o x:=e.2.1 x x0 hi;have z1:=z.1;have z2:=z.2.1;omega
 . have z1:((ix o.c9 x).D7.length:Int)<=25:=d4X.1 fun e=>h (.inl e);have z2:(((ix o.c9 x).ID.length:Nat):Int)<=2000:=d4X.1 fun e=>h (.inr e);refine⟨fun k=>0<=k/\k<=(ix o.c9 x).D7.length/\q9 k (c6P (ix o.c9 x)),fun k=>(((ix o.c9 x).D7.length:Int)-k).toNat,⟨by omega,by omega,q9.zero⟩,?_⟩;rintro k ⟨k0,k1,hk'⟩;refine⟨fun hj=>⟨x0,hi,k0,hj,fun _=>d4D 0,fun h=>h.2,fun _ _ _ _=>⟨fun h=>G1 fun e=>?_,fun h=>⟨⟨by omega,by omega⟩,⟨by omega,by omega,hk'.succ ⟨d4X.1 fun e=>h (.inl (.inl e)),d4X.1 fun e=>h (.inl (.inr e)),fun p=>d4i.1 fun e=>h (.inr ⟨p,e⟩)⟩⟩,by dsimp only;omega⟩⟩⟩,fun hj=>⟨⟨by omega,by omega⟩,⟨by omega,by omega,hx.succ ⟨z1,z2,hk'.le (by omega)⟩⟩,by dsimp only;omega⟩⟩;obtain⟨a,b,c⟩:c6P (ix o.c9 x) k:=(show b7q o x from e.2.1 x x0 hi).2.2 k k0 hj;rcases h with(h|h)|h
   . omega
   . omega
   . exact h.2 (c h.1)
 have g2:q9 o.c9.length (b7q o):=hx.le (by omega);clear hx x0 x1 hi x;refine⟨fun s x=>0<=x/\x<=o.Over.length/\(q9 x fun j=>a8l (ix o.Over j)=true)/\s=ovS o.Over x.toNat/\0<=s/\s<=186*x,fun _ x=>((o.Over.length:Int)-x).toNat,⟨by omega,by omega,q9.zero,rfl,by omega,by omega⟩,?_⟩;rintro s x ⟨x0,x1,hx,hs,s0,s1⟩;refine⟨fun hi=>⟨x0,hi,fun h=>G1 fun e=>h (e.2.2.1 x x0 hi),fun h=>?_⟩,fun hi=>?_⟩
 . have h:=d4i.1 h;have q:=c23 h;refine⟨⟨by omega,by omega⟩,x0,hi,⟨by omega,by omega⟩,x0,hi,⟨by omega,by omega⟩,⟨by omega,by omega⟩,⟨by omega,by omega⟩,⟨by omega,by omega,hx.succ h,?_,by omega,by omega⟩,by dsimp only;omega⟩;rw[show(x+1).toNat=x.toNat+1 by omega,ovS,<- hs,show((x.toNat:Nat):Int)=x by omega]
 . have e:x.toNat=o.Over.length:=by omega
   rw[hs,e];exact a1g ⟨fun q=>⟨g1,g2,fun j j0 j1=>hx j j0 (by omega),q⟩,fun q=>q.2.2.2⟩
def d1k:Env:=d0j.kL 20 (r38.c .n) (.bool) (fun y=>[(List.length (α:=UInt8) y.1.Kind:Int)<=140737488355328,(List.length (α:=UInt8) y.1.UID:Int)<=140737488355328]) (fun y=>b0d y.1)
def Nl3f_ok:c8 d1k:=Nl3i_ok.kL Tryz.call20 Tryz.func20 (inlHN_ok Nl3i_ok H0_ok c5m 2) (an:=c5m 20) (fun _ _=>trivial) fun y ho=>kc (d2S y.1 ho.1 ho.2.1) (by kernel_rfl)
def c5M:Nat->D1:=fun|19=>⟨30,nn,nn⟩|_=>⟨0,nn,nn⟩
def b2P(f:Int):=bif true then max (0:Int) (bif false then max f 6 else min f 6)else min (0:Int) (bif false then max f 6 else min f 6)
def d1N(f:Int)(s:Tm)(t:Tm)(Q:Bool->Prop):Prop:=
(bR (¬o7 (j6 s)=true∨¬o7 (j6 t)=true) (Q true) ((0<=bif true then max (0:Int) (bif false then max f 6 else min f 6)else min (0:Int) (bif false then max f 6 else min f 6))/\(b2P f)<(↑[(2500:Int),(2500:Int),(1200:Int),(500:Int),(40:Int),(3:Int),(1:Int)].length:Int)/\(c6 (ix [(2500:Int),(2500:Int),(1200:Int),(500:Int),(40:Int),(3:Int),(1:Int)] (b2P f))->c6 (b8 (j6 t)-b8 (j6 s))/\c6 ((86400:Int)*ix [(2500:Int),(2500:Int),(1200:Int),(500:Int),(40:Int),(3:Int),(1:Int)] (b2P f))/\Q (decide (b8 (j6 t)-b8 (j6 s)<=(86400:Int)*ix [(2500:Int),(2500:Int),(1200:Int),(500:Int),(40:Int),(3:Int),(1:Int)] (b2P f))))))
def d4b(f:Int)(s:Tm)(t:Tm)  : d1N f s t (fun y0=>y0=a4A f s t):=by
 unfold d1N b2P;simp only[x9,A6,B3,C5,C4,C6,C8,C3,B9,D0,B7,d4p,d4G,d4L];have r0:=y7 s;have r1:=y7 t;have b0:0<=max 0 (min f 6):=by omega
 have b1:max 0 (min f 6)<=6:=by omega
 have b2:=c79 b0 b1;unfold a4A;refine⟨fun h=>?_,fun h=>⟨b0,by show _<(7:Int);omega,fun _=>⟨⟨by omega,by omega⟩,?_,?_⟩⟩⟩
 . exact(d4u fun a b=>absurd h fun e=>e.elim (fun n=>n a) (fun n=>n b)).symm
 . change c6 (86400*ix nrL _);exact⟨by omega,by omega⟩
 . have a:o7 s=true:=d4i.1 fun e=>h (.inl e);have b:o7 t=true:=d4i.1 fun e=>h (.inr e);exact d5c.2 ⟨fun q _ _=>q,fun q=>q a b⟩
def c92:Env:=d1k.kL 19 (rI.c (r26.c (r26.c .n))) (.bool) (fun _=>[]) (fun y=>a4A y.1 y.2.1 y.2.2.1)
def Nl4n_ok:c8 c92:=Nl3f_ok.kL Tryz.call19 Tryz.func19 (inlHN_ok Nl3f_ok H0_ok c5M 2) (an:=c5M 19) (fun _ _=>trivial) fun y ho=>kc (d4b y.1 y.2.1 y.2.2.1 ) (by kernel_rfl)
def c5c:Nat->D1:=fun|21=>⟨51,fun|2=>some ⟨[2,3,10],[.slot 11 (.int .i64)]⟩|5=>some ⟨[2,3,5,10,11,20],[.slot 21 (.int .i64)]⟩|_=>none,nn⟩|_=>⟨0,nn,nn⟩
def Z8(o:E3)(x:Int)(x_1:Int):=ix (ix o.c9 x).D7 x_1
def c96(o:E3)(t:Tm)(Q:Bool->Prop):Prop:=
∃(I:Int->Prop),∃(m:Int->Nat),I 0/\∀(x:Int),I x->(bR (x<(↑o.c9.length:Int)) (0<=x/\x<(↑o.c9.length:Int)/\∃(I_1:Int->Prop),∃(m_1:Int->Nat),I_1 0/\∀(x_1:Int),I_1 x_1->(bR (x_1<(↑(ix o.c9 x).D7.length:Int)) (0<=x/\x<(↑o.c9.length:Int)/\0<=x_1/\x_1<(↑(ix o.c9 x).D7.length:Int)/\((0<(↑(Z8 o x x_1).b9.length:Int)->(0:Int)<=0)/\(0<(↑(Z8 o x x_1).b9.length:Int)->0<(↑(Z8 o x x_1).b9.length:Int)))/\((0<(↑(Z8 o x x_1).b9.length:Int)->c6 (ix (Z8 o x x_1).b9 0).j8)->(0<(↑(Z8 o x x_1).b9.length:Int)->c6 (ix (Z8 o x x_1).b9 0).Interval)->(0<(↑(Z8 o x x_1).b9.length:Int)->c6 (ix (Z8 o x x_1).b9 0).Count)->(0<(↑(Z8 o x x_1).b9.length:Int)->c6 (ix (Z8 o x x_1).b9 0).u6)->(bR (0<(↑(Z8 o x x_1).b9.length:Int)/\¬a4A (ix (Z8 o x x_1).b9 0).j8 (j6 (Z8 o x x_1).Start) (j6 t)=true) (Q false) (c6 (x_1+1)/\I_1 (x_1+1)/\m_1 (x_1+1)<m_1 x_1)))) (c6 (x+1)/\I (x+1)/\m (x+1)<m x))) (Q true))
def d3j(o:E3)(t:Tm)(hf:b0d o=true):c96 o t (fun y0=>y0=c3d o t):=by unfold c96 Z8;simp only[x9,A6,B3,C5,C4,C6,C8,C3,B9,D0,B7,d4p];have fw:=y6.1 hf;have l1:=fw.1.2.1;refine⟨fun x=>0<=x/\x<=o.c9.length/\q9 x fun j=>q9 (ix o.c9 j).D7.length (c7S (ix o.c9 j) t),fun x=>((o.c9.length:Int)-x).toNat,⟨by omega,by omega,q9.zero⟩,?_⟩;rintro x ⟨x0,x1,hx⟩;refine⟨fun hi=>⟨x0,hi,?_⟩,fun hi=>a3w fun j j0 j1=>hx j j0 (by omega)⟩;have l2:((ix o.c9 x).D7.length:Int)<=25:=(show b7q o x from fw.2.1 x x0 hi).1;refine⟨fun k=>0<=k/\k<=(ix o.c9 x).D7.length/\q9 k (c7S (ix o.c9 x) t),fun k=>(((ix o.c9 x).D7.length:Int)-k).toNat,⟨by omega,by omega,q9.zero⟩,?_⟩;rintro k ⟨k0,k1,hk⟩;refine⟨fun hj=>⟨x0,hi,k0,hj,⟨fun _=>d4D 0,fun h=>h⟩,fun _ _ _ _=>⟨fun h=>G1 fun e=>h.2 (e x x0 hi k k0 hj h.1),fun h=>⟨⟨by omega,by omega⟩,⟨by omega,by omega,hk.succ fun p=>d4i.1 fun e=>h ⟨p,e⟩⟩,by dsimp only;omega⟩⟩⟩,fun hj=>⟨⟨by omega,by omega⟩,⟨by omega,by omega,hx.succ (hk.le (by omega))⟩,by dsimp only;omega⟩⟩
def d0m:Env:=c92.kL 21 (r38.c (r26.c .n)) (.bool) (fun y=>[b0d y.1=true]) (fun y=>c3d y.1 y.2.1)
def Nl4z_ok:c8 d0m:=Nl4n_ok.kL Tryz.call21 Tryz.func21 (inlHN_ok Nl4n_ok H0_ok c5c 2) (an:=c5c 21) (fun _ _=>trivial) fun y ho=>kc (d3j y.1 y.2.1 ho.1) (by kernel_rfl)
def c4M:Nat->D1:=fun|22=>⟨6,nn,nn⟩|_=>⟨0,nn,nn⟩
def c8H(d:Int)(Q:Tm->Prop):Prop:=
Q (Tm.mk (Dy.mk 2000 1 d) 0 0 0 true false)
def d3Y(d:Int)  : c8H d (fun y0=>y0=(Tm.mk (Dy.mk 2000 1 d) 0 0 0 true false)):=by unfold c8H;rfl
def c8g:Env:=d0m.kL 22 (rI.c .n) (.val 26) (fun _=>[]) (fun y=>((Tm.mk (Dy.mk 2000 1 y.1) 0 0 0 true false):Tm))
def Nl4d_ok:c8 c8g:=Nl4z_ok.kL Tryz.call22 Tryz.func22 (inlHN_ok Nl4z_ok H0_ok c4M 2) (an:=c4M 22) (fun y ho=>⟨_,_,rfl,rfl,rfl⟩) fun y ho=>kc (d3Y y.1 ) (by kernel_rfl)
def c4x:Nat->D1:=fun|23=>⟨6,nn,nn⟩|_=>⟨0,nn,nn⟩
def d2o(d:Int)(Q:Tm->Prop):Prop:=
Q (Tm.mk (Dy.mk 2000 1 d) 0 0 0 false true)
def d3T(d:Int)  : d2o d (fun y0=>y0=(Tm.mk (Dy.mk 2000 1 d) 0 0 0 false true)):=by unfold d2o;rfl
def d06:Env:=c8g.kL 23 (rI.c .n) (.val 26) (fun _=>[]) (fun y=>((Tm.mk (Dy.mk 2000 1 y.1) 0 0 0 false true):Tm))
def Nl4u_ok:c8 d06:=Nl4d_ok.kL Tryz.call23 Tryz.func23 (inlHN_ok Nl4d_ok H0_ok c4x 2) (an:=c4x 23) (fun y ho=>⟨_,_,rfl,rfl,rfl⟩) fun y ho=>kc (d3T y.1 ) (by kernel_rfl)
def c42:Nat->D1:=fun|18=>⟨86,fun|19=>some ⟨[4,12,63,64],[.slot 65 (.int .i64),.own 12 [(.int .i64),(.int .i64),(.int .i64),(.int .i64),(.int .i64),(.int .i64),.bool,.bool]]⟩|8=>some ⟨[3,4,36,37],[.slot 5 (.acc 26),.slot 38 (.int .i64)]⟩|12=>some ⟨[3,4,36,37,38,49,50],[.slot 5 (.acc 26),.slot 51 (.int .i64)]⟩|3=>some ⟨[2,3,4,23,24],[.slot 5 (.acc 26),.slot 25 (.int .i64)]⟩|_=>none,nn⟩|_=>⟨0,nn,nn⟩
def c8r(o:E3)(t:Tm)(Q:Tm->Prop):Prop:=
∃(I:List Tm->Int->Prop),∃(m:List Tm->Int->Nat),I [j6 t,j6 o.Main.Start.Time] 0/\∀(x:List Tm)(x_1:Int),I x x_1->(bR (x_1<(↑o.Main.p4.length:Int)) (0<=x_1/\x_1<(↑o.Main.p4.length:Int)/\(x.length+[j6 (ix o.Main.p4 x_1).Time].length)*(some (56:Nat)).getD (0:Nat)<=140737488355328/\c6 (x_1+1)/\I (x++[j6 (ix o.Main.p4 x_1).Time]) (x_1+1)/\m (x++[j6 (ix o.Main.p4 x_1).Time]) (x_1+1)<m x x_1) (∃(I:List Tm->Int->Prop),∃(m:List Tm->Int->Nat),I x 0/\∀(x:List Tm)(x_2:Int),I x x_2->(bR (x_2<(↑o.Over.length:Int)) (0<=x_2/\x_2<(↑o.Over.length:Int)/\(x.length+[j6 (ix o.Over x_2).Start.Time].length)*(some (56:Nat)).getD (0:Nat)<=140737488355328/\∃(I_1:List Tm->Int->Prop),∃(m_1:List Tm->Int->Nat),I_1 (x++[j6 (ix o.Over x_2).Start.Time]) 0/\∀(x_3:List Tm)(x_4:Int),I_1 x_3 x_4->(bR (x_4<(↑(ix o.Over x_2).p7.length:Int)) (0<=x_4/\x_4<(↑(ix o.Over x_2).p7.length:Int)/\(x_3.length+[j6 (ix (ix o.Over x_2).p7 x_4).Time].length)*(some (56:Nat)).getD (0:Nat)<=140737488355328/\c6 (x_4+1)/\I_1 (x_3++[j6 (ix (ix o.Over x_2).p7 x_4).Time]) (x_4+1)/\m_1 (x_3++[j6 (ix (ix o.Over x_2).p7 x_4).Time]) (x_4+1)<m_1 x_3 x_4) (c6 (x_2+1)/\I x_3 (x_2+1)/\m x_3 (x_2+1)<m x x_2))) (∃(I:Int->Int->Int->Int->Int->Int->Int->Bool->Bool->Prop),∃(m:Int->Int->Int->Int->Int->Int->Int->Bool->Bool->Nat),I 0 t.Day.Year t.Day.Month t.Day.Date t.Hour t.Min t.D5 (decide (t.n9=true)) (decide (t.UTC=true))/\∀(x_3 x_4 x_5 x_6 x_7 x_8 x_9:Int)(x_10 x_11:Bool),I x_3 x_4 x_5 x_6 x_7 x_8 x_9 x_10 x_11->(bR (x_3<(↑x.length:Int)) (0<=x_3/\x_3<(↑x.length:Int)/\(c6 (ix x x_3).Day.Year->c6 (ix x x_3).Day.Month->c6 (ix x x_3).Day.Date->c6 (ix x x_3).Hour->c6 (ix x x_3).Min->c6 (ix x x_3).D5->(bR (o7 (j6 (ix x x_3))=true/\(¬o7 (Tm.mk (Dy.mk x_4 x_5 x_6) x_7 x_8 x_9 (decide (x_10=true)) (decide (x_11=true)))=true∨b8 (Tm.mk (Dy.mk x_4 x_5 x_6) x_7 x_8 x_9 (decide (x_10=true)) (decide (x_11=true)))<b8 (j6 (ix x x_3)))) (c6 (x_3+1)/\I (x_3+1) (ix x x_3).Day.Year (ix x x_3).Day.Month (ix x x_3).Day.Date (ix x x_3).Hour (ix x x_3).Min (ix x x_3).D5 (decide ((ix x x_3).n9=true)) (decide ((ix x x_3).UTC=true))/\m (x_3+1) (ix x x_3).Day.Year (ix x x_3).Day.Month (ix x x_3).Day.Date (ix x x_3).Hour (ix x x_3).Min (ix x x_3).D5 (decide ((ix x x_3).n9=true)) (decide ((ix x x_3).UTC=true))<m x_3 x_4 x_5 x_6 x_7 x_8 x_9 x_10 x_11) (c6 (x_3+1)/\I (x_3+1) x_4 x_5 x_6 x_7 x_8 x_9 (decide (x_10=true)) (decide (x_11=true))/\m (x_3+1) x_4 x_5 x_6 x_7 x_8 x_9 (decide (x_10=true)) (decide (x_11=true))<m x_3 x_4 x_5 x_6 x_7 x_8 x_9 x_10 x_11)))) (Q (Tm.mk (Dy.mk x_4 x_5 x_6) x_7 x_8 x_9 (decide (x_10=true)) (decide (x_11=true)))))))))
def d3G(o:E3)(t:Tm)(hf:((a6Z o t).length:Int)<=1000000):c8r o t (fun y0=>y0=b2m o t):=by
 unfold c8r;simp only[x9,A6,B3,C5,C4,C6,C8,C3,B9,D0,B7,d4p];have hT:=c3f o t;have hO:=b1l o.Over;refine⟨fun l i=>0<=i/\i<=o.Main.p4.length/\l=[t,o.Main.Start.Time]++(o.Main.p4.take i.toNat).map G9.Time/\(l.length:Int)=2+i,fun _ i=>((o.Main.p4.length:Int)-i).toNat,⟨by omega,by omega,rfl,rfl⟩,?_⟩;rintro l i ⟨i0,i1,hl,hn⟩;refine⟨fun hi=>⟨i0,hi,by show(_+1)*56<=_;omega,⟨by omega,by omega⟩,⟨by omega,by omega,?_,?_⟩,by dsimp only;omega⟩,fun hi=>?_⟩
 . rw[T8 i0 hi,d6L,hl,d4K];rfl
 . rw[d4o];simp only[d6q];omega
 have hL:l=[t,o.Main.Start.Time]++o.Main.p4.map G9.Time:=by rw[hl,d4M (by omega)]
 have hn2:(l.length:Int)=2+o.Main.p4.length:=by omega
 clear hl hn i0 i1 hi i;refine⟨fun k i=>0<=i/\i<=o.Over.length/\k=l++(o.Over.take i.toNat).flatMap a7h,fun _ i=>((o.Over.length:Int)-i).toNat,⟨by omega,by omega,by simp⟩,?_⟩;rintro k i ⟨i0,i1,hk⟩;have hkl:k.length=l.length+((o.Over.take i.toNat).flatMap a7h).length:=by rw[hk,d4o]
 have tf:=a9q o.Over i.toNat;refine⟨fun hi=>?_,fun hi=>?_⟩
 . have r:=a9q o.Over (i+1).toNat;have e:([ix o.Over i].flatMap a7h).length=1+(ix o.Over i).p7.length:=by simp[a7h];omega
   rw[T8 i0 hi,d7G,d4o,e]at r;refine⟨i0,hi,by show(_+1)*56<=_;omega,fun q j=>0<=j/\j<=(ix o.Over i).p7.length/\q=(k++[(ix o.Over i).Start.Time])++((ix o.Over i).p7.take j.toNat).map G9.Time/\(q.length:Int)=k.length+1+j,fun _ j=>(((ix o.Over i).p7.length:Int)-j).toNat,⟨by omega,by omega,by simp,by simp⟩,?_⟩;rintro q j ⟨j0,j1,hq,hm⟩;refine⟨fun hj=>⟨j0,hj,by show(_+1)*56<=_;omega,⟨by omega,by omega⟩,⟨by omega,by omega,?_,?_⟩,by dsimp only;omega⟩,fun hj=>⟨⟨by omega,by omega⟩,⟨by omega,by omega,?_⟩,by dsimp only;omega⟩⟩
   . rw[T8 j0 hj,d6L,hq,d4K];rfl
   . rw[d4o];simp only[d6q];omega
   . have tk:(ix o.Over i).p7.take j.toNat=(ix o.Over i).p7:=d4M (by omega);rw[T8 i0 hi,d7G,hq,hk,tk];simp[a7h]
 have hK:k=a6Z o t:=by rw[hk,hL,d4M (by omega)];rfl
 refine⟨fun i a b c d e f g h=>0<=i/\i<=k.length/\Tm.mk (Dy.mk a b c) d e f g h=(k.take i.toNat).foldl lsN t,fun i _ _ _ _ _ _ _ _=>((k.length:Int)-i).toNat,⟨by omega,by omega,rfl⟩,?_⟩;rintro j a b c d e f g h ⟨j0,j1,hs⟩;rw[hs];refine⟨fun hj=>⟨j0,hj,fun _ _ _ _ _ _=>⟨fun hc=>⟨⟨by omega,by omega⟩,⟨by omega,by omega,?_⟩,by dsimp only;omega⟩,fun hc=>⟨⟨by omega,by omega⟩,⟨by omega,by omega,?_⟩,by dsimp only;omega⟩⟩⟩,fun hj=>?_⟩
 . rw[T8 j0 hj,d7S];exact(if_pos hc:lsN ((k.take j.toNat).foldl lsN t) (ix k j)=ix k j).symm
 . rw[T8 j0 hj,d7S,hs];exact(if_neg hc:lsN ((k.take j.toNat).foldl lsN t) (ix k j)=_).symm
 . rw[d4M (by omega),hK];rfl
def c8n:Env:=d06.kC 18 (r38.c (r26.c .n)) (.val 26) (fun y=>[((a6Z y.1 y.2.1).length:Int)<=1000000]) (fun y=>b2m y.1 y.2.1)
def Nl4l_ok:c8 c8n:=Nl4u_ok.kC Tryz.call18 Tryz.func18 (inlHN_ok Nl4u_ok H0_ok c42 2) (an:=c42 18) fun y ho=>kc (d3G y.1 y.2.1 ho.1) (by kernel_rfl)
def c24(o:E3)(t:Tm):Bool:=bo ((q9 o.Main.b9.length fun j=>a4A (ix o.Main.b9 j).j8 o.Main.Start.Time (b2m o t)=true)/\b0d o=true/\c3d o (b2m o t)=true)
def c4N:Nat->D1:=fun|7=>⟨36,fun|3=>some ⟨[2,5,13,14],[.slot 15 (.int .i64)]⟩|_=>none,nn⟩|_=>⟨0,nn,nn⟩
def d0L(o:E3)(t:Tm)(Q:Bool->Prop):Prop:=
(↑(a6Z (etE o) (j6 t)).length:Int)<=1000000/\∃(I:Int->Prop),∃(m:Int->Nat),I 0/\∀(x:Int),I x->(bR (x<(↑o.Main.b9.length:Int)) (0<=x/\x<(↑o.Main.b9.length:Int)/\(c6 (ix o.Main.b9 x).j8->c6 (ix o.Main.b9 x).Interval->c6 (ix o.Main.b9 x).Count->c6 (ix o.Main.b9 x).u6->(bR (¬a4A (ix o.Main.b9 x).j8 (j6 o.Main.Start.Time) (j6 (b2m (etE o) (j6 t)))=true) (Q false) (c6 (x+1)/\I (x+1)/\m (x+1)<m x)))) ((↑(List.length o.Kind):Int)<=140737488355328/\(↑(List.length o.UID):Int)<=140737488355328/\(b0d (etE o)=true->b0d (etE o)=true)/\Q (decide (b0d (etE o)=true/\c3d (etE o) (j6 (b2m (etE o) (j6 t)))=true))))
def d3L(o:E3)(t:Tm)(hf:((a6Z o t).length:Int)<=1000000)(hr:(o.Main.b9.length:Int)<=1000000)(hk:(o.Kind.length:Int)<=140737488355328)(hu:(o.UID.length:Int)<=140737488355328):d0L o t (fun y0=>y0=c24 o t):=by
 unfold d0L;simp only[x9,A6,B3,C5,C4,C6,C8,C3,B9,D0,B7,d4p];refine⟨hf,?_⟩;refine⟨fun k=>0<=k/\k<=o.Main.b9.length/\q9 k fun j=>a4A (ix o.Main.b9 j).j8 o.Main.Start.Time (b2m o t)=true,fun k=>((o.Main.b9.length:Int)-k).toNat,⟨by omega,by omega,q9.zero⟩,?_⟩;rintro k ⟨k0,k1,hk⟩;refine⟨fun hi=>⟨k0,hi,fun _ _ _ _=>⟨fun h=>G1 fun e=>?_,fun h=>⟨⟨by omega,by omega⟩,⟨by omega,by omega,hk.succ (d4i.1 h)⟩,by dsimp only;omega⟩⟩⟩,fun hi=>?_⟩
 . exact h (e.1 k k0 hi)
 have g1:q9 o.Main.b9.length fun j=>a4A (ix o.Main.b9 j).j8 o.Main.Start.Time (b2m o t)=true:=hk.le (by omega);clear hk k0 k1 hi k;exact⟨hk,hu,fun h=>h,a1g ⟨fun e=>⟨g1,e.1,e.2⟩,fun e=>⟨e.2.1,e.2.2⟩⟩⟩
def c9B:Env:=c8n.kC 7 (r38.c (r26.c .n)) (.bool) (fun y=>[((a6Z y.1 y.2.1).length:Int)<=1000000,(y.1.Main.b9.length:Int)<=1000000,(List.length (α:=UInt8) y.1.Kind:Int)<=140737488355328,(List.length (α:=UInt8) y.1.UID:Int)<=140737488355328]) (fun y=>c24 y.1 y.2.1)
def Nl4r_ok:c8 c9B:=Nl4l_ok.kC Tryz.call7 Tryz.func7 (inlHN_ok Nl4l_ok H0_ok c4N 2) (an:=c4N 7) fun y ho=>kc (d3L y.1 y.2.1 ho.1 ho.2.1 ho.2.2.1 ho.2.2.2.1) (by kernel_rfl)
def c5x:Nat->D1:=fun|13=>⟨17,fun|2=>some ⟨[3,7,8],[.slot 9 (.int .i64)]⟩|_=>none,nn⟩|_=>⟨0,nn,nn⟩
def d0k(l:List Ins)(x:Ins)(Q:Bool->Prop):Prop:=
∃(I:Int->Prop),∃(m:Int->Nat),I 0/\∀(x_1:Int),I x_1->(bR (x_1<(↑l.length:Int)) (0<=x_1/\x_1<(↑l.length:Int)/\(bR (((x.Start.Day.Year=(ix l x_1).Start.Day.Year/\x.Start.Day.Month=(ix l x_1).Start.Day.Month/\x.Start.Day.Date=(ix l x_1).Start.Day.Date/\True)/\x.Start.Hour=(ix l x_1).Start.Hour/\x.Start.Min=(ix l x_1).Start.Min/\x.Start.D5=(ix l x_1).Start.D5/\(x.Start.n9=true↔(ix l x_1).Start.n9=true)/\(x.Start.UTC=true↔(ix l x_1).Start.UTC=true)/\True)/\((x.End.Day.Year=(ix l x_1).End.Day.Year/\x.End.Day.Month=(ix l x_1).End.Day.Month/\x.End.Day.Date=(ix l x_1).End.Day.Date/\True)/\x.End.Hour=(ix l x_1).End.Hour/\x.End.Min=(ix l x_1).End.Min/\x.End.D5=(ix l x_1).End.D5/\(x.End.n9=true↔(ix l x_1).End.n9=true)/\(x.End.UTC=true↔(ix l x_1).End.UTC=true)/\True)/\((x.u5.Day.Year=(ix l x_1).u5.Day.Year/\x.u5.Day.Month=(ix l x_1).u5.Day.Month/\x.u5.Day.Date=(ix l x_1).u5.Day.Date/\True)/\x.u5.Hour=(ix l x_1).u5.Hour/\x.u5.Min=(ix l x_1).u5.Min/\x.u5.D5=(ix l x_1).u5.D5/\(x.u5.n9=true↔(ix l x_1).u5.n9=true)/\(x.u5.UTC=true↔(ix l x_1).u5.UTC=true)/\True)/\(x.Over=true↔(ix l x_1).Over=true)/\True) (Q true) (c6 (x_1+1)/\I (x_1+1)/\m (x_1+1)<m x_1))) (Q false))
def d3M(l:List Ins)(x:Ins)(hl:(l.length:Int)<=1000000):d0k l x (fun y0=>y0=inB l x):=by
 unfold d0k;simp only[teq,ieq];refine⟨fun i=>0<=i/\i<=l.length/\q9 i fun j=>decide (x=ix l j)=false,fun i=>((l.length:Int)-i).toNat,⟨by omega,by omega,q9.zero⟩,?_⟩;rintro i ⟨i0,i1,hx⟩;refine⟨fun hi=>⟨i0,hi,fun hd=>?_,fun hd=>⟨⟨by omega,by omega⟩,⟨by omega,by omega,hx.succ (d4F hd)⟩,by dsimp only;omega⟩⟩,fun hi=>?_⟩
 . exact(b0g (p:=fun y:Ins=>decide (x=y)) i0 hi (d4u hd)).symm
 . exact(b41 (l:=l) (p:=fun y:Ins=>decide (x=y)) fun j j0 j1=>hx j j0 (by omega)).symm
def d0N:Env:=c9B.kL 13 ((rL 48).c (r48.c .n)) (.bool) (fun y=>[(y.1.length:Int)<=1000000]) (fun y=>inB y.1 y.2.1)
def Nl4i_ok:c8 d0N:=Nl4r_ok.kL Tryz.call13 Tryz.func13 (inlHN_ok Nl4r_ok H0_ok c5x 2) (an:=c5x 13) (fun _ _=>trivial) fun y ho=>kc (d3M y.1 y.2.1 ho.1) (by kernel_rfl)
def c5i:Nat->D1:=fun|12=>⟨26,fun|4=>some ⟨[0,1],[.slot 5 (.int .i64)]⟩|_=>none,nn⟩|_=>⟨0,nn,nn⟩
def c8E(a:List Ins)(b:List Ins)(Q:Bool->Prop):Prop:=
(bR ((↑a.length:Int)≠(↑b.length:Int)) (Q false) (∃(I:Int->Prop),∃(m:Int->Nat),I 0/\∀(x:Int),I x->(bR (x<(↑a.length:Int)) (0<=x/\x<(↑a.length:Int)/\0<=x/\x<(↑b.length:Int)/\(bR (¬((((ix a x).Start.Day.Year=(ix b x).Start.Day.Year/\(ix a x).Start.Day.Month=(ix b x).Start.Day.Month/\(ix a x).Start.Day.Date=(ix b x).Start.Day.Date/\True)/\(ix a x).Start.Hour=(ix b x).Start.Hour/\(ix a x).Start.Min=(ix b x).Start.Min/\(ix a x).Start.D5=(ix b x).Start.D5/\((ix a x).Start.n9=true↔(ix b x).Start.n9=true)/\((ix a x).Start.UTC=true↔(ix b x).Start.UTC=true)/\True)/\(((ix a x).End.Day.Year=(ix b x).End.Day.Year/\(ix a x).End.Day.Month=(ix b x).End.Day.Month/\(ix a x).End.Day.Date=(ix b x).End.Day.Date/\True)/\(ix a x).End.Hour=(ix b x).End.Hour/\(ix a x).End.Min=(ix b x).End.Min/\(ix a x).End.D5=(ix b x).End.D5/\((ix a x).End.n9=true↔(ix b x).End.n9=true)/\((ix a x).End.UTC=true↔(ix b x).End.UTC=true)/\True)/\(((ix a x).u5.Day.Year=(ix b x).u5.Day.Year/\(ix a x).u5.Day.Month=(ix b x).u5.Day.Month/\(ix a x).u5.Day.Date=(ix b x).u5.Day.Date/\True)/\(ix a x).u5.Hour=(ix b x).u5.Hour/\(ix a x).u5.Min=(ix b x).u5.Min/\(ix a x).u5.D5=(ix b x).u5.D5/\((ix a x).u5.n9=true↔(ix b x).u5.n9=true)/\((ix a x).u5.UTC=true↔(ix b x).u5.UTC=true)/\True)/\((ix a x).Over=true↔(ix b x).Over=true)/\True)) (Q false) (c6 (x+1)/\I (x+1)/\m (x+1)<m x))) (Q true))))
def d2X(a:List Ins)(b:List Ins)(hl:(a.length:Int)<=1000000):c8E a b (fun y0=>y0=bo (a=b)):=by unfold c8E;simp only[teq,ieq];refine⟨fun h=>G1 fun e=>h (by rw[e]),fun h=>?_⟩;have h:a.length=b.length:=Int.ofNat_inj.1 (d4i.1 h);refine⟨fun i=>0<=i/\i<=a.length/\q9 i fun j=>ix a j=ix b j,fun i=>((a.length:Int)-i).toNat,⟨by omega,by omega,q9.zero⟩,?_⟩;rintro i ⟨i0,i1,hx⟩;refine⟨fun hi=>⟨i0,hi,i0,by omega,fun hd=>G1 fun e=>hd (by rw[e]),fun hd=>⟨⟨by omega,by omega⟩,⟨by omega,by omega,hx.succ (d4i.1 hd)⟩,by dsimp only;omega⟩⟩,fun hi=>?_⟩;exact a3w (c73 h fun j j0 j1=>hx j j0 (by omega))
def c8Z:Env:=d0N.kL 12 ((rL 48).c ((rL 48).c .n)) (.bool) (fun y=>[(y.1.length:Int)<=1000000]) (fun y=>(bo (y.1=y.2.1):Bool))
def Nr4s_ok:c8 c8Z:=Nl4i_ok.kL Tryz.call12 Tryz.func12 (inlHN_ok Nl4i_ok H0_ok c5i 2) (an:=c5i 12) (fun _ _=>trivial) fun y ho=>kc (d2X y.1 y.2.1 ho.1) (by kernel_rfl)
end Go.Proofs.YtapnoejokajcoaaGreatDoor
namespace Go.Qu
open Go Go.Wk Go.Wl Go.Rx Go.Re Go.Li Go.Fo
def a4M(a b:Int):Int:=if a<b then -1 else if b<a then 1 else 0
def a0W(a b:Tm):Int:=a4M (b8 a) (b8 b)
def orI:List Int->Int
 |[]=>0
 |x::r=>if x=0 then orI r else x
def a6U(a b:Ins):Int:=if a0W a.Start b.Start=0 then a0W a.u5 b.u5 else a0W a.Start b.Start
def a5C(l:List Tm):List Tm:=l.mergeSort fun x y=>!decide (a0W y x<0)
def b1x(l:List Ins):List Ins:=l.mergeSort fun x y=>!decide (a6U y x<0)
def b6F{a b:Int}:a4M a b=0↔a=b:=by
 unfold a4M;split
 . simp;omega
 . split
   . simp;omega
   . simp;omega
def a3W{a b:Int}:a4M a b<0↔a<b:=by
 unfold a4M;split
 . simp;omega
 . split
   . simp;omega
   . simp;omega
def c0W{l:List Int}{i:Int}(i0:0<=i)(i1:i<l.length):orI (l.drop i.toNat)=if ix l i=0 then orI (l.drop (i+1).toNat)else ix l i:=by rw[show(i+1).toNat=i.toNat+1 by omega,w8 (by omega),d5Q (by omega)];rfl
def a2u{α:Type}[DecidableEq α](x:α):List α->List α
 |[]=>[]
 |y::r=>if y=x then a2u x r else y::a2u y r
def ded{α:Type}[DecidableEq α]:List α->List α
 |[]=>[]
 |x::r=>x::a2u x r
section
variable{α:Type}[DecidableEq α]
def a5d(x:α):∀(l:List α)(y:α),a2u x (l++[y])=if y=(x::l).getLast (by simp)then a2u x l else a2u x l++[y]
 |[],y=>by rw[d5r,List.getLast_singleton,a2u,a2u];rfl
 |z::r,y=>by
  rw[d5N,a2u,a2u,List.getLast_cons (by simp)];by_cases h:z=x
  . rw[if_pos h,if_pos h];have e:(z::r).getLast (by simp)=(x::r).getLast (by simp):=by rw[h]
    rw[a5d x r y,e]
  . rw[if_neg h,if_neg h,a5d z r y];split <;> simp
def c0G{l:List α}(h:l≠[])(y:α):ded (l++[y])=if y=l.getLast h then ded l else ded l++[y]:=by
 cases l with
 |nil=>exact absurd rfl h
 |cons x r =>
  rw[d5N,ded,ded,a5d];split <;> simp
def a6Q[Inhabited α]{l:List α}{j:Int}(j0:1<=j)(j1:j<l.length):ded (l.take (j+1).toNat)=if ix l j=ix l (j-1)then ded (l.take j.toNat)else ded (l.take j.toNat)++[ix l j]:=by
 have hne:l.take j.toNat≠[]:=d6X.1 (by rw[d4I];omega);have hl:(l.take j.toNat).getLast hne=ix l (j-1):=by
  have e:(l.take j.toNat).length-1=(j-1).toNat:=by rw[d4I];omega
  rw[List.getLast_eq_getElem,w8 (by omega),d6z];simp only[e]
 rw[T8 (by omega) j1,c0G hne,hl]
def a7G(x:α):∀l:List α,(a2u x l).length<=l.length
 |[]=>d4C _
 |y::r=>by
  rw[a2u];split
  . have:=a7G x r;rw[d4z];omega
  . have:=a7G y r;rw[d4z,d4z];omega
def c3N(l:List α):(ded l).length<=l.length:=by
 cases l with
 |nil=>exact d4C _
 |cons x r=>have:=a7G x r;rw[ded,d4z,d4z];omega
def b5x{l:List α}(h:l.length<2):ded l=l:=by
 match l,h with
 |[],_=>rfl
 |[x],_=>rfl
def b2p[Inhabited α]{l:List α}:∀n:Nat,n<=l.length->(∀j:Int,1<=j->j<n->ix l j≠ix l (j-1))->ded (l.take n)=l.take n
 |0,_,_=>by simp[ded]
 |1,h,_=>b5x (by rw[d4I];omega)
 |n+2,h,hj=>by
  have h1:=b2p (n+1) (by omega) fun j j0 j1=>hj j j0 (by omega);have h2:=a6Q (l:=l) (j:=((n+1:Nat):Int)) (by omega) (by omega);have e:(((n+1:Nat):Int)+1).toNat=n+2:=by omega
  have e':((n+1:Nat):Int).toNat=n+1:=by omega
  rw[e,e',if_neg (hj _ (by omega) (by omega)),h1]at h2;have h3:=T8 (l:=l) (i:=((n+1:Nat):Int)) (by omega) (by omega);rw[e,e']at h3;rw[h2,h3]
end
def take_set{α:Type}{l:List α}{i:Nat}(h:i<l.length)(v:α):(l.set i v).take (i+1)=l.take i++[v]:=by rw[d5H (by rw[d7c];exact h),List.take_set,List.getElem_set_self,List.set_eq_of_length_le (by rw[d4I];omega)]
def a8K{α:Type}[Inhabited α]{l:List α}{i:Nat}{q:Int}(v:α)(q0:0<=q)(q1:q<l.length)(h:q.toNat≠i):ix (l.set i v) q=ix l q:=by rw[w8 (by rw[d7c];omega),w8 (by omega),List.getElem_set_ne (d5y h)]
def a6P{α:Type}{l a b:List α}{k:Nat}(h:k<=l.length):(l.take k++a++b).take k=l.take k:=by rw[d4K,List.take_append_of_le_length (by rw[d4I];omega),List.take_take,Nat.min_self]
end Go.Qu
namespace Go.Proofs.YtapnoejokajcoaaGreatDoor
open Go Go.Wk Go.Wl Go.Rx Go.Re Go.Li Go.Qu Go.Fo 
attribute [local irreducible] i7
def d1L:Nat->D1:=fun|32=>⟨20,nn,nn⟩|68=>⟨6,nn,nn⟩|_=>⟨0,nn,nn⟩
def VcC(a:Int)(b:Int)(Q:Int->Prop):Prop:=
(bR (a≠a) ((bR (b≠b) (Q 0) (Q (-1:Int)))) ((bR (b≠b) (Q 1) ((bR (a<b) (Q (-1:Int)) ((bR (b<a) (Q 1) (Q 0))))))))
def pcC(a:Int)(b:Int)  : VcC a b (fun y0=>y0=a4M a b):=by
 unfold VcC;unfold a4M;refine⟨fun h=>absurd rfl h,fun _=>⟨fun h=>absurd rfl h,fun _=>⟨fun h=>?_,fun h=>⟨fun k=>?_,fun k=>?_⟩⟩⟩⟩
 . rw[if_pos h]
 . rw[if_neg h,if_pos k]
 . rw[if_neg h,if_neg k]
def NcC:Env:=c8Z.kL 32 (rI.c (rI.c .n)) (.int .i64) (fun _=>[]) (fun y=>a4M y.1 y.2.1)
def NcC_ok:c8 NcC:=Nr4s_ok.kL Tryz.call32 Tryz.func32 (inlHN_ok Nr4s_ok H0_ok d1L 4) (an:=d1L 32) (fun _ _=>trivial) fun y ho=>kc (pcC y.1 y.2.1 ) (by kernel_rfl)
def c9F:Nat->D1:=fun|61=>⟨10,nn,nn⟩|_=>⟨0,nn,nn⟩
def Vtc(a:Tm)(b:Tm)(Q:Int->Prop):Prop:=
Q (a4M (b8 (j6 a)) (b8 (j6 b)))
def ptc(a:Tm)(b:Tm)  : Vtc a b (fun y0=>y0=a0W a b):=by unfold Vtc;simp only[x9,A6,B3,C5,C4,C6,C8,C3,B9,D0,B7,d4p];rfl
def Ntc:Env:=NcC.kL 61 (r26.c (r26.c .n)) (.int .i64) (fun _=>[]) (fun y=>a0W y.1 y.2.1)
def Ntc_ok:c8 Ntc:=NcC_ok.kL Tryz.call61 Tryz.func61 (inlHN_ok NcC_ok H0_ok c9F 2) (an:=c9F 61) (fun _ _=>trivial) fun y ho=>kc (ptc y.1 y.2.1 ) (by kernel_rfl)
def d2j:Nat->D1:=fun|31=>⟨18,fun|3=>some ⟨[3,6,7],[.slot 8 (.int .i64)]⟩|_=>none,nn⟩|_=>⟨0,nn,nn⟩
def VcO(l:List Int)(Q:Int->Prop):Prop:=
∃(I:Int->Prop),∃(m:Int->Nat),I 0/\∀(x:Int),I x->(bR (x<(↑l.length:Int)) (0<=x/\x<(↑l.length:Int)/\(c6 (ix l x)->(bR (ix l x≠0) (Q (ix l x)) (c6 (x+1)/\I (x+1)/\m (x+1)<m x)))) (Q 0))
def pcO(l:List Int)(hl:List.length (α:=Int) l<=1000000):VcO l (fun y0=>y0=orI l):=by
 unfold VcO;refine⟨fun x=>0<=x/\x<=List.length (α:=Int) l/\orI l=orI (List.drop (α:=Int) x.toNat l),fun x=>(List.length (α:=Int) l-x).toNat,⟨by omega,by omega,rfl⟩,?_⟩;rintro x ⟨x0,x1,hx⟩;refine⟨fun hi=>⟨x0,hi,fun _=>?_⟩,fun hi=>?_⟩
 . have h:=c0W (l:=l) x0 hi;rw[<- hx]at h;refine⟨fun hn=>?_,fun hn=>⟨⟨by omega,by omega⟩,⟨by omega,by omega,?_⟩,by dsimp only;omega⟩⟩
   . rw[h,if_neg hn]
   . rw[h,if_pos (d4i.1 hn)]
 . have e:List.drop (α:=Int) x.toNat l=[]:=d5P (by omega);rw[hx,e];rfl
def NcO:Env:=Ntc.kL 31 ((rL 3).c .n) (.int .i64) (fun y=>[List.length (α:=Int) y.1<=1000000]) (fun y=>orI y.1)
def NcO_ok:c8 NcO:=Ntc_ok.kL Tryz.call31 Tryz.func31 (inlHN_ok Ntc_ok H0_ok d2j 2) (an:=d2j 31) (fun _ _=>trivial) fun y ho=>kc (pcO y.1 ho.1) (by kernel_rfl)
def c8l:Nat->D1:=fun|30=>⟨21,nn,nn⟩|_=>⟨0,nn,nn⟩
def Vic(a:Ins)(b:Ins)(Q:Int->Prop):Prop:=
[a4M (b8 (j6 a.Start)) (b8 (j6 b.Start)),a4M (b8 (j6 a.u5)) (b8 (j6 b.u5))].length<=1000000/\Q (orI [a4M (b8 (j6 a.Start)) (b8 (j6 b.Start)),a4M (b8 (j6 a.u5)) (b8 (j6 b.u5))])
def pic(a:Ins)(b:Ins)  : Vic a b (fun y0=>y0=a6U a b):=by
 unfold Vic;simp only[x9,A6,B3,C5,C4,C6,C8,C3,B9,D0,B7,d4p];refine⟨by show 2<=1000000;decide,?_⟩;show orI [a0W a.Start b.Start,a0W a.u5 b.u5]=a6U a b
 unfold a6U;rw[orI,orI,orI];by_cases h:a0W a.Start b.Start=0
 . rw[if_pos h,if_pos h];by_cases k:a0W a.u5 b.u5=0
   . rw[if_pos k,k]
   . rw[if_neg k]
 . rw[if_neg h,if_neg h]
def Nic:Env:=NcO.kL 30 (r48.c (r48.c .n)) (.int .i64) (fun _=>[]) (fun y=>a6U y.1 y.2.1)
def Nic_ok:c8 Nic:=NcO_ok.kL Tryz.call30 Tryz.func30 (inlHN_ok NcO_ok H0_ok c8l 2) (an:=c8l 30) (fun _ _=>trivial) fun y ho=>kc (pic y.1 y.2.1 ) (by kernel_rfl)
def c9g:Nat->D1:=fun|57=>⟨8,nn,nn⟩|_=>⟨0,nn,nn⟩
def VcT(l:List Tm)(Q:List Tm->Prop):Prop:=
(l=[]->Q [])/\(([]:List UInt8).length+l.length)*(some (56:Nat)).getD (0:Nat)<=140737488355328/\Q ([]++l)
def pcT(l:List Tm)(hl:(l.length:Int)<=1000000):VcT l (fun y0=>y0=l):=by unfold VcT;refine⟨fun h=>h.symm,by show(0+l.length)*56<=_;omega,rfl⟩
def NcT:Env:=Nic.kC 57 ((rL 26).c .n) (.acc 26) (fun y=>[(y.1.length:Int)<=1000000]) (fun y=>y.1)
def NcT_ok:c8 NcT:=Nic_ok.kC Tryz.call57 Tryz.func57 (inlHN_ok Nic_ok H0_ok c9g 2) (an:=c9g 57) fun y ho=>kc (pcT y.1 ho.1) (by kernel_rfl)
def c4s:Nat->D1:=fun|62=>⟨61,fun|4=>some ⟨[0],[.slot 3 (.int .i64),.cont 0 26]⟩|9=>some ⟨[0,4],[.slot 3 (.int .i64),.slot 5 (.int .i64),.cont 0 26]⟩|_=>none,nn⟩|_=>⟨0,nn,nn⟩
def b6u(x_2:Int)(x_4:List Tm):=List.take ((some x_2).getD 0).toNat x_4++List.replicate (none.getD (↑x_4.length:Int)-(some x_2).getD 0).toNat (Tm.mk (Dy.mk 0 0 0) 0 0 0 false false)++List.drop (((some x_2).getD 0).toNat+(none.getD (↑x_4.length:Int)-(some x_2).getD 0).toNat) x_4
def L9(x_4:List Tm)(x:Int)(x_3:Int):=ix x_4 ((some x).getD (0:Int)+x_3)
def Y7(x_4:List Tm)(x:Int)(x_3:Int):=ix x_4 ((some x).getD (0:Int)+(x_3-1))
def d1H(l:List Tm)(Q:List Tm->Prop):Prop:=
(bR ((↑l.length:Int)<2) (Q l) (∃(I:Int->List Tm->Prop),∃(m:Int->List Tm->Nat),I 1 l/\∀(x:Int)(x_1:List Tm),I x x_1->(bR (x<(↑x_1.length:Int)) (0<=x/\x<(↑x_1.length:Int)/\(c6 (ix x_1 x).Day.Year->c6 (ix x_1 x).Day.Month->c6 (ix x_1 x).Day.Date->c6 (ix x_1 x).Hour->c6 (ix x_1 x).Min->c6 (ix x_1 x).D5->c6 (x-1)/\0<=x-1/\x-1<(↑x_1.length:Int)/\(c6 (ix x_1 (x-1)).Day.Year->c6 (ix x_1 (x-1)).Day.Month->c6 (ix x_1 (x-1)).Day.Date->c6 (ix x_1 (x-1)).Hour->c6 (ix x_1 (x-1)).Min->c6 (ix x_1 (x-1)).D5->(bR (((ix x_1 x).Day.Year=(ix x_1 (x-1)).Day.Year/\(ix x_1 x).Day.Month=(ix x_1 (x-1)).Day.Month/\(ix x_1 x).Day.Date=(ix x_1 (x-1)).Day.Date/\True)/\(ix x_1 x).Hour=(ix x_1 (x-1)).Hour/\(ix x_1 x).Min=(ix x_1 (x-1)).Min/\(ix x_1 x).D5=(ix x_1 (x-1)).D5/\((ix x_1 x).n9=true↔(ix x_1 (x-1)).n9=true)/\((ix x_1 x).UTC=true↔(ix x_1 (x-1)).UTC=true)/\True) (0<=x/\x<=(↑x_1.length:Int)/\∃(I:Int->Int->List Tm->Prop),∃(m:Int->Int->List Tm->Nat),I x 1 x_1/\∀(x_2 x_3:Int)(x_4:List Tm),I x_2 x_3 x_4->(bR (x_3<none.getD (↑x_1.length:Int)-(some x).getD 0) (0<=x_3/\x_3<none.getD (↑x_1.length:Int)-(some x).getD 0/\(c6 (L9 x_4 x x_3).Day.Year->c6 (L9 x_4 x x_3).Day.Month->c6 (L9 x_4 x x_3).Day.Date->c6 (L9 x_4 x x_3).Hour->c6 (L9 x_4 x x_3).Min->c6 (L9 x_4 x x_3).D5->c6 (x_3-1)/\0<=x_3-1/\x_3-1<none.getD (↑x_1.length:Int)-(some x).getD 0/\(c6 (Y7 x_4 x x_3).Day.Year->c6 (Y7 x_4 x x_3).Day.Month->c6 (Y7 x_4 x x_3).Day.Date->c6 (Y7 x_4 x x_3).Hour->c6 (Y7 x_4 x x_3).Min->c6 (Y7 x_4 x x_3).D5->(bR (¬(((L9 x_4 x x_3).Day.Year=(Y7 x_4 x x_3).Day.Year/\(L9 x_4 x x_3).Day.Month=(Y7 x_4 x x_3).Day.Month/\(L9 x_4 x x_3).Day.Date=(Y7 x_4 x x_3).Day.Date/\True)/\(L9 x_4 x x_3).Hour=(Y7 x_4 x x_3).Hour/\(L9 x_4 x x_3).Min=(Y7 x_4 x x_3).Min/\(L9 x_4 x x_3).D5=(Y7 x_4 x x_3).D5/\((L9 x_4 x x_3).n9=true↔(Y7 x_4 x x_3).n9=true)/\((L9 x_4 x x_3).UTC=true↔(Y7 x_4 x x_3).UTC=true)/\True)) (0<=x_3/\x_3<none.getD (↑x_1.length:Int)-(some x).getD 0/\(c6 (L9 x_4 x x_3).Day.Year->c6 (L9 x_4 x x_3).Day.Month->c6 (L9 x_4 x x_3).Day.Date->c6 (L9 x_4 x x_3).Hour->c6 (L9 x_4 x x_3).Min->c6 (L9 x_4 x x_3).D5->0<=x_2/\x_2<(↑x_4.length:Int)/\c6 (x_2+1)/\c6 (x_3+1)/\I (x_2+1) (x_3+1) (x_4.set x_2.toNat (j6 (L9 x_4 x x_3)))/\m (x_2+1) (x_3+1) (x_4.set x_2.toNat (j6 (L9 x_4 x x_3)))<m x_2 x_3 x_4)) (c6 (x_3+1)/\I x_2 (x_3+1) x_4/\m x_2 (x_3+1) x_4<m x_2 x_3 x_4))))) (0<=x_2/\x_2<=(↑x_4.length:Int)/\0<=x_2/\x_2<=(↑(b6u x_2 x_4).length:Int)/\Q (List.take ((some x_2).getD (↑(b6u x_2 x_4).length:Int)-none.getD 0).toNat (b6u x_2 x_4))))) (c6 (x+1)/\I (x+1) x_1/\m (x+1) x_1<m x x_1))))) (Q x_1))))
def d2x(l:List Tm)(hl:(l.length:Int)<=1000000):d1H l (fun y0=>y0=ded (α:=Tm) l):=by
 unfold d1H Y7 L9 b6u;simp only[x9,A6,B3,C5,C4,C6,C8,C3,B9,D0,B7,d4p,teq,d7q,d8f,d8e];refine⟨fun h=>(b5x (by omega)).symm,fun h2=>?_⟩;refine⟨fun x k=>1<=x/\x<=l.length/\k=l/\∀j:Int,1<=j->j<x->ix l j≠ix l (j-1),fun x _=>((l.length:Int)-x).toNat,⟨by omega,by omega,rfl,fun j j0 j1=>by omega⟩,?_⟩;rintro x k ⟨x0,x1,hk,hx⟩;rw[hk];have hs:ded (l.take x.toNat)=l.take x.toNat:=b2p x.toNat (by omega) fun j j0 j1=>hx j j0 (by omega);refine⟨fun hi=>⟨by omega,hi,fun _ _ _ _ _ _=>⟨⟨by omega,by omega⟩,by omega,by omega,fun _ _ _ _ _ _=>⟨fun he=>⟨by omega,by omega,?_⟩,fun he=>⟨⟨by omega,by omega⟩,⟨by omega,by omega,rfl,fun j j0 j1=>?_⟩,by dsimp only;omega⟩⟩⟩⟩,fun hi=>?_⟩
 . refine⟨fun k2 j L=>1<=j/\x+j<=l.length/\L.length=l.length/\x<=k2/\k2<=x+j-1/\L.take k2.toNat=ded (l.take (x+j).toNat)/\∀q:Int,x+j-1<=q->q<l.length->ix L q=ix l q,fun _ j _=>((l.length:Int)-(x+j)).toNat,⟨by omega,by omega,rfl,by omega,by omega,?_,fun _ _ _=>rfl⟩,?_⟩
   . rw[a6Q x0 hi,if_pos he,hs]
   rintro k2 j L ⟨j0,j1,hL,k0,k1,ht,hq⟩;refine⟨fun hj=>?_,fun hj=>?_⟩
   . have e1:=hq (x+j) (by omega) (by omega);have e2:=hq (x+(j-1)) (by omega) (by omega);have dt:=a6Q (l:=l) (j:=x+j) (by omega) (by omega);rw[show x+j-1=x+(j-1) by omega,<- e1,<- e2]at dt;refine⟨by omega,hj,fun _ _ _ _ _ _=>⟨⟨by omega,by omega⟩,by omega,by omega,fun _ _ _ _ _ _=>⟨fun hne=>⟨by omega,hj,fun _ _ _ _ _ _=>⟨by omega,by omega,⟨by omega,by omega⟩,⟨by omega,by omega⟩,⟨by omega,by omega,by rw[d7c];exact hL,by omega,by omega,?_,fun q q0 q1=>?_⟩,by dsimp only;omega⟩⟩,fun hne=>⟨⟨by omega,by omega⟩,⟨by omega,by omega,hL,by omega,by omega,?_,fun q q0 q1=>hq q (by omega) q1⟩,by dsimp only;omega⟩⟩⟩⟩
     . rw[show(k2+1).toNat=k2.toNat+1 by omega,take_set (by omega),show x+(j+1)=x+j+1 by omega,dt,if_neg hne,ht]
     . rw[a8K _ (by omega) (by omega) (by omega)];exact hq q (by omega) q1
     . rw[show x+(j+1)=x+j+1 by omega,dt,if_pos (d4i.1 hne),ht]
   . have hl2:l.take (x+j).toNat=l:=d4M (by omega);rw[hl2]at ht;refine⟨by omega,by omega,by omega,?_,?_⟩
     . simp only[d4o,d4I,d5o,d6p];omega
     . rw[a6P (by omega),ht]
 . by_cases e:j=x
   . rw[e];exact he
   . exact hx j j0 (by omega)
 . have e:l.take x.toNat=l:=d4M (by omega);rw[e]at hs;exact hs.symm
def c8Q(l:List Tm):FR U:=b4p NcT [(l.length:Int)<=1000000] [(0,.ac (N:=U) 26 l)] 2 1 [.slot 0 (.acc 26)] (ded (α:=Tm) l,())
def c88:FC U:=⟨[],[],fun a its=>match a,its with|[.acc 0],[(0,.ac 26 l)]=>some (c8Q l)|_,_=>none⟩
def fcmT_ok(args:List (SV U))(its:c7 U)(r:FR U)(h:c88.C args its=some r)(ho:p8 r.ob):L8 Tryz.prog U eT Gl 62 args its (2*its.length) (fun k=>p8 r.hy->k r.v r.its r.n):=by
 unfold c88 at h;simp only at h;split at h
 . rename_i l;cases h;exact fc_ok (an:=c4s 62) NcT_ok (inlHN_ok NcT_ok H0_ok c4s 3) Tryz.func62 (n:=1) rfl (vs:=[.slot 0 (.acc 26)]) (X:=(ded (α:=Tm) l,())) rfl (kc (d2x l ho.1) (by kernel_rfl))
 . cases h
def c9C:Env:=(NcT.z6 62 Tryz.f62).a1K 62 c88
def NcmT_ok:c8 c9C:=(NcT_ok.z6 Tryz.call62 Tryz.func62).a1K Tryz.call62 fcmT_ok
end Go.Proofs.YtapnoejokajcoaaGreatDoor
namespace Go.Proofs
open Go.Shelf
def Tryz.b7Y:Go.Shelf.Ren:=⟨fun|6=>60|15=>67|14=>103|28=>118|29=>119|20=>142|21=>143|22=>144|23=>145|24=>146|25=>147|26=>148|27=>149|46=>175|47=>154|48=>155|49=>176|50=>177|57=>199|n=>n,fun|22=>61|24=>26|25=>111|3=>3|39=>120|0=>0|53=>173|55=>175|4=>4|46=>166|45=>165|50=>170|5=>5|9=>9|66=>220|70=>224|76=>250|77=>251|n=>n,fun|n=>n⟩
def Tryz.b6i:Go.Proofs.SlLaysF0.n6 Tryz.prog Tryz.b7Y:={
 mixed:=by kernel_rfl
 f6:=⟨Tryz.f60.name,by decide,Tryz.func60.trans (congrArg some (by kernel_rfl))⟩
 f14:=⟨Tryz.f103.name,by decide,Tryz.func103.trans (congrArg some (by kernel_rfl))⟩
 f15:=Tryz.func67.trans (congrArg some (by kernel_rfl))
 f20:=⟨Tryz.f142.name,by decide,Tryz.func142.trans (congrArg some (by kernel_rfl))⟩
 f21:=⟨Tryz.f143.name,by decide,Tryz.func143.trans (congrArg some (by kernel_rfl))⟩
 f22:=⟨Tryz.f144.name,by decide,Tryz.func144.trans (congrArg some (by kernel_rfl))⟩
 f23:=⟨Tryz.f145.name,by decide,Tryz.func145.trans (congrArg some (by kernel_rfl))⟩
 f24:=⟨Tryz.f146.name,by decide,Tryz.func146.trans (congrArg some (by kernel_rfl))⟩
 f25:=⟨Tryz.f147.name,by decide,Tryz.func147.trans (congrArg some (by kernel_rfl))⟩
 f26:=⟨Tryz.f148.name,by decide,Tryz.func148.trans (congrArg some (by kernel_rfl))⟩
 f27:=⟨Tryz.f149.name,by decide,Tryz.func149.trans (congrArg some (by kernel_rfl))⟩
 f28:=Tryz.func118.trans (congrArg some (by kernel_rfl))
 f29:=Tryz.func119.trans (congrArg some (by kernel_rfl))
 f46:=⟨Tryz.f175.name,by decide,Tryz.func175.trans (congrArg some (by kernel_rfl))⟩
 f47:=Tryz.func154.trans (congrArg some (by kernel_rfl))
 f48:=Tryz.func155.trans (congrArg some (by kernel_rfl))
 f49:=⟨Tryz.f176.name,by decide,Tryz.func176.trans (congrArg some (by kernel_rfl))⟩
 f50:=⟨Tryz.f177.name,by decide,Tryz.func177.trans (congrArg some (by kernel_rfl))⟩
 f57:=⟨Tryz.f199.name,by decide,Tryz.func199.trans (congrArg some (by kernel_rfl))⟩
 t0:=Tryz.underlying0
 a0:=Tryz.isAgg0
 z0:=Tryz.sizeOf0
 v0:=Tryz.zeroValue0
 t3:=Tryz.underlying3
 a3:=Tryz.isAgg3
 z3:=Tryz.sizeOf3
 v3:=Tryz.zeroValue3
 t4:=Tryz.underlying4
 a4:=Tryz.isAgg4
 z4:=Tryz.sizeOf4
 v4:=Tryz.zeroValue4
 t5:=Tryz.underlying5
 a5:=Tryz.isAgg5
 z5:=Tryz.sizeOf5
 v5:=Tryz.zeroValue5
 t9:=Tryz.underlying9
 a9:=Tryz.isAgg9
 z9:=Tryz.sizeOf9
 v9:=Tryz.zeroValue9
 t22:=Tryz.underlying61
 a22:=Tryz.isAgg61
 z22:=Tryz.sizeOf61
 v22:=Tryz.zeroValue61
 t25:=Tryz.underlying111
 a25:=Tryz.isAgg111
 z25:=Tryz.sizeOf111
 v25:=Tryz.zeroValue111
 t39:=Tryz.underlying120
 a39:=Tryz.isAgg120
 z39:=Tryz.sizeOf120
 v39:=Tryz.zeroValue120
 t45:=Tryz.underlying165
 a45:=Tryz.isAgg165
 z45:=Tryz.sizeOf165
 v45:=Tryz.zeroValue165
 t46:=Tryz.underlying166
 a46:=Tryz.isAgg166
 z46:=Tryz.sizeOf166
 v46:=Tryz.zeroValue166
 t50:=Tryz.underlying170
 a50:=Tryz.isAgg170
 z50:=Tryz.sizeOf170
 v50:=Tryz.zeroValue170
 t53:=Tryz.underlying173
 a53:=Tryz.isAgg173
 z53:=Tryz.sizeOf173
 v53:=Tryz.zeroValue173
 t55:=Tryz.underlying175
 a55:=Tryz.isAgg175
 z55:=Tryz.sizeOf175
 v55:=Tryz.zeroValue175
 t66:=Tryz.underlying220
 a66:=Tryz.isAgg220
 z66:=Tryz.sizeOf220
 v66:=Tryz.zeroValue220
 t70:=Tryz.underlying224
 a70:=Tryz.isAgg224
 z70:=Tryz.sizeOf224
 v70:=Tryz.zeroValue224
 t76:=Tryz.underlying250
 a76:=Tryz.isAgg250
 z76:=Tryz.sizeOf250
 v76:=Tryz.zeroValue250
 t77:=Tryz.underlying251
 a77:=Tryz.isAgg251
 z77:=Tryz.sizeOf251
 v77:=Tryz.zeroValue251 }
def Tryz.b7s:Go.Shelf.Ren:=⟨fun|6=>29|15=>67|14=>66|28=>118|29=>119|20=>110|21=>111|22=>112|23=>113|24=>114|25=>115|26=>116|27=>117|46=>153|47=>154|48=>155|49=>156|50=>157|57=>179|n=>n,fun|22=>41|24=>48|25=>78|3=>3|39=>120|0=>0|53=>173|55=>175|4=>4|46=>166|45=>165|50=>170|5=>5|9=>9|66=>220|70=>224|76=>250|77=>251|n=>n,fun|n=>n⟩
def Tryz.c5g:Go.Proofs.SlLaysF0.n6 Tryz.prog Tryz.b7s:={
 mixed:=by kernel_rfl
 f6:=⟨Tryz.f29.name,by decide,Tryz.func29.trans (congrArg some (by kernel_rfl))⟩
 f14:=⟨Tryz.f66.name,by decide,Tryz.func66.trans (congrArg some (by kernel_rfl))⟩
 f15:=Tryz.func67.trans (congrArg some (by kernel_rfl))
 f20:=⟨Tryz.f110.name,by decide,Tryz.func110.trans (congrArg some (by kernel_rfl))⟩
 f21:=⟨Tryz.f111.name,by decide,Tryz.func111.trans (congrArg some (by kernel_rfl))⟩
 f22:=⟨Tryz.f112.name,by decide,Tryz.func112.trans (congrArg some (by kernel_rfl))⟩
 f23:=⟨Tryz.f113.name,by decide,Tryz.func113.trans (congrArg some (by kernel_rfl))⟩
 f24:=⟨Tryz.f114.name,by decide,Tryz.func114.trans (congrArg some (by kernel_rfl))⟩
 f25:=⟨Tryz.f115.name,by decide,Tryz.func115.trans (congrArg some (by kernel_rfl))⟩
 f26:=⟨Tryz.f116.name,by decide,Tryz.func116.trans (congrArg some (by kernel_rfl))⟩
 f27:=⟨Tryz.f117.name,by decide,Tryz.func117.trans (congrArg some (by kernel_rfl))⟩
 f28:=Tryz.func118.trans (congrArg some (by kernel_rfl))
 f29:=Tryz.func119.trans (congrArg some (by kernel_rfl))
 f46:=⟨Tryz.f153.name,by decide,Tryz.func153.trans (congrArg some (by kernel_rfl))⟩
 f47:=Tryz.func154.trans (congrArg some (by kernel_rfl))
 f48:=Tryz.func155.trans (congrArg some (by kernel_rfl))
 f49:=⟨Tryz.f156.name,by decide,Tryz.func156.trans (congrArg some (by kernel_rfl))⟩
 f50:=⟨Tryz.f157.name,by decide,Tryz.func157.trans (congrArg some (by kernel_rfl))⟩
 f57:=⟨Tryz.f179.name,by decide,Tryz.func179.trans (congrArg some (by kernel_rfl))⟩
 t0:=Tryz.underlying0
 a0:=Tryz.isAgg0
 z0:=Tryz.sizeOf0
 v0:=Tryz.zeroValue0
 t3:=Tryz.underlying3
 a3:=Tryz.isAgg3
 z3:=Tryz.sizeOf3
 v3:=Tryz.zeroValue3
 t4:=Tryz.underlying4
 a4:=Tryz.isAgg4
 z4:=Tryz.sizeOf4
 v4:=Tryz.zeroValue4
 t5:=Tryz.underlying5
 a5:=Tryz.isAgg5
 z5:=Tryz.sizeOf5
 v5:=Tryz.zeroValue5
 t9:=Tryz.underlying9
 a9:=Tryz.isAgg9
 z9:=Tryz.sizeOf9
 v9:=Tryz.zeroValue9
 t22:=Tryz.underlying41
 a22:=Tryz.isAgg41
 z22:=Tryz.sizeOf41
 v22:=Tryz.zeroValue41
 t25:=Tryz.underlying78
 a25:=Tryz.isAgg78
 z25:=Tryz.sizeOf78
 v25:=Tryz.zeroValue78
 t39:=Tryz.underlying120
 a39:=Tryz.isAgg120
 z39:=Tryz.sizeOf120
 v39:=Tryz.zeroValue120
 t45:=Tryz.underlying165
 a45:=Tryz.isAgg165
 z45:=Tryz.sizeOf165
 v45:=Tryz.zeroValue165
 t46:=Tryz.underlying166
 a46:=Tryz.isAgg166
 z46:=Tryz.sizeOf166
 v46:=Tryz.zeroValue166
 t50:=Tryz.underlying170
 a50:=Tryz.isAgg170
 z50:=Tryz.sizeOf170
 v50:=Tryz.zeroValue170
 t53:=Tryz.underlying173
 a53:=Tryz.isAgg173
 z53:=Tryz.sizeOf173
 v53:=Tryz.zeroValue173
 t55:=Tryz.underlying175
 a55:=Tryz.isAgg175
 z55:=Tryz.sizeOf175
 v55:=Tryz.zeroValue175
 t66:=Tryz.underlying220
 a66:=Tryz.isAgg220
 z66:=Tryz.sizeOf220
 v66:=Tryz.zeroValue220
 t70:=Tryz.underlying224
 a70:=Tryz.isAgg224
 z70:=Tryz.sizeOf224
 v70:=Tryz.zeroValue224
 t76:=Tryz.underlying250
 a76:=Tryz.isAgg250
 z76:=Tryz.sizeOf250
 v76:=Tryz.zeroValue250
 t77:=Tryz.underlying251
 a77:=Tryz.isAgg251
 z77:=Tryz.sizeOf251
 v77:=Tryz.zeroValue251 }
open Go.RowKit Go.Lib Go.Sort in
def Tryz.b4g{α:Type}[Inhabited α](k:Nat)(aE:∀w,(isAgg 26).run Tryz.prog w=.ok true w)(zE:∀w,(Go.sizeOf 26).run Tryz.prog w=.ok k w)(enc:α->List Value)(hk:∀x,(enc x).length=k)(h1:∀x,∀v∈enc x,v.oneCell'=true)(cf:α->α->Int)(hO:SWO (ltOf cf))(g:Nat)(cb:Array Value)(blk off cap:Nat)(d:Array α)(w:World)
  (eg:∀args w,(callFunc g args).run Tryz.prog w=.ok (.enter g args) w) (hcmp:CmpLays Tryz.prog g cb enc k cf blk off d.size w) (hH:HoldsK enc k w blk off d) (hblk:blk<w.heap.size) (hsz:d.size<4611686018427387904) (hT:∀x y,(ltOf cf) x y=false->(ltOf cf) y x=false->x=y) :
  Calls Tryz.prog 60 #[.slice (some ⟨blk,off,none⟩) d.size cap,.func (.func g) #[] cb] w fun e w'=>e=.returned (.tuple #[])/\∃n os,w'=sortWorldK enc k w blk off n (d.toList.mergeSort fun x y=>!(ltOf cf) y x).toArray os:=AnyQ.slices_SortFunc_total Tryz.b6i k aE zE enc hk h1 cf hO g cb blk off cap d w eg hcmp hH hblk hsz hT
open Go.RowKit Go.Lib Go.Sort in
def Tryz.b0R(p:Option Addr)(cap:Nat)(fv:Value)(w:World):Calls Tryz.prog 60 #[.slice p 0 cap,fv] w fun e w'=>e=.returned (.tuple #[])/\w'=w:=AnyF.slices_SortFunc_none { Tryz.b6i with } p cap fv w
open Go.RowKit Go.Lib Go.Sort in
def Tryz.b40{α:Type}[Inhabited α](k:Nat)(aE:∀w,(isAgg 48).run Tryz.prog w=.ok true w)(zE:∀w,(Go.sizeOf 48).run Tryz.prog w=.ok k w)(enc:α->List Value)(hk:∀x,(enc x).length=k)(h1:∀x,∀v∈enc x,v.oneCell'=true)(cf:α->α->Int)(hO:SWO (ltOf cf))(g:Nat)(cb:Array Value)(blk off cap:Nat)(d:Array α)(w:World)
  (eg:∀args w,(callFunc g args).run Tryz.prog w=.ok (.enter g args) w) (hcmp:CmpLays Tryz.prog g cb enc k cf blk off d.size w) (hH:HoldsK enc k w blk off d) (hblk:blk<w.heap.size) (hsz:d.size<4611686018427387904) (hT:∀x y,(ltOf cf) x y=false->(ltOf cf) y x=false->x=y) :
  Calls Tryz.prog 29 #[.slice (some ⟨blk,off,none⟩) d.size cap,.func (.func g) #[] cb] w fun e w'=>e=.returned (.tuple #[])/\∃n os,w'=sortWorldK enc k w blk off n (d.toList.mergeSort fun x y=>!(ltOf cf) y x).toArray os:=AnyQ.slices_SortFunc_total Tryz.c5g k aE zE enc hk h1 cf hO g cb blk off cap d w eg hcmp hH hblk hsz hT
open Go.RowKit Go.Lib Go.Sort in
def Tryz.b2G(p:Option Addr)(cap:Nat)(fv:Value)(w:World):Calls Tryz.prog 29 #[.slice p 0 cap,fv] w fun e w'=>e=.returned (.tuple #[])/\w'=w:=AnyF.slices_SortFunc_none { Tryz.c5g with } p cap fv w
end Go.Proofs
section
namespace Go.Wk
open Go
def b3n{α:Type}:∀(a:Ask α)(w:World),w.drawn<=(w.ask a).2.drawn
 |.done a,w=>d4C _
 |.ask what range k,w=>by
  unfold World.ask;simp only;split
  . exact b3n (k 0) w
  . exact d4v (Nat.le_succ _) (b3n (k _) { w with drawn:=w.drawn+1 })
def b8T(w:World)(c:Sys):w.drawn<=(w.sys c).2.drawn:=by
 unfold World.sys;have h:=b3n (Kernel.perform c w.os) w;split
 . exact d4C _
 . rename_i r os w' _ e;rw[e]at h;exact h
def b2h{p:Program}{w w':World}{a:Addr}{v:Value}{m:Bool}{l:List Addr}(h:w.farStore p a v m=.ok (w',l)):w'.drawn=w.drawn:=by
 unfold World.farStore at h;split at h
 . split at h
   . rename_i r hr;cases h;unfold World.viewStore at hr;simp only[bind,Except.bind,pure,Except.pure,throw,throwThe,MonadExceptOf.throw]at hr
     repeat' split at hr
     all_goals first
      |cases hr;done
      |(cases hr;rfl)
   . cases h
 . cases h
def rwd{α:Type}:Result α->Nat
 |.ok _ w=>w.drawn
 |.halt _ w=>w.drawn
def I8{α:Type}(p:Program):∀(s:Sem α)(w:World),w.drawn<=rwd (s.run p w)
 |.pure a,w=>d4C _
 |.load m a k,w=>by
  unfold Sem.run;split
  . exact I8 p (k _) w
  . split
    . exact I8 p (k _) w
    . exact d4C _
 |.store m a v k,w=>by
  cases v
  case agg=>exact d4C _
  case tuple=>exact d4C _
  all_goals
   simp only[Sem.run];split
   . split
     . exact d4C _
     . exact I8 p k (w.setCell a _)
   . split
     . rename_i e;exact d4v (d8d (b2h e).symm) (I8 p k _)
     . exact d4C _
 |.new o k,w=>I8 p (k w.heap.size) { w with heap:=w.heap.push o }
 |.shape r k,w=>I8 p (k _) w
 |.freeze a n k,w=>by
  have:(w.freeze a n).drawn=w.drawn:=by unfold World.freeze;split <;> rfl
  exact d4v (d8d this.symm) (I8 p k _)
 |.frozen a k,w=>I8 p (k _) w
 |.getObj r k,w=>by
  unfold Sem.run;split
  . exact d4C _
  . exact I8 p (k _) w
  . exact d4C _
 |.setObj r o k,w=>by
  unfold Sem.run;split
  . exact d4C _
  . exact I8 p k { w with heap:=w.heap.setIfInBounds r o }
  . exact d4C _
 |.choose q k,w=>by
  unfold Sem.run;split
  . exact I8 p (k _) w
  . exact d4v (Nat.le_succ _) (I8 p (k _) { w with drawn:=w.drawn+1 })
 |.sys c k,w=>d4v (b8T w c) (I8 p (k _) _)
 |.program k,w=>I8 p (k _) w
 |.mark m k,w=>I8 p k w
 |.halt h,w=>d4C _
def run_ok{α:Type}{p:Program}{s:Sem α}{w w':World}{v:α}(h:s.run p w=.ok v w'):w.drawn<=w'.drawn:=by have:=I8 p s w;rw[h]at this;exact this
def run_halt{α:Type}{p:Program}{s:Sem α}{w w':World}{v:Halt}(h:s.run p w=.halt v w'):w.drawn<=w'.drawn:=by have:=I8 p s w;rw[h]at this;exact this
def b0K{α:Type}{p:Program}{s:Sem α}{w:World}{es es':Array Event}{r:Result α}(h:s.runT p w es=(r,es')):w.drawn<=rwd r:=by have:=I8 p s w;rw[<- Sem.runT_fst p s w es,h]at this;exact this
def c0a{α:Type}(p:Program)(s:Sem α)(w:World)(es:Array Event):w.drawn<=rwd (s.runT p w es).1:=by rw[Sem.runT_fst];exact I8 p s w
def runT_ok{α:Type}{p:Program}{s:Sem α}{w w':World}{es:Array Event}{v:α}(h:(s.runT p w es).1=.ok v w'):w.drawn<=w'.drawn:=by have:=c0a p s w es;rw[h]at this;exact this
def a9e{α:Type}{p:Program}{s:Sem α}{w w':World}{es:Array Event}{v:Halt}(h:(s.runT p w es).1=.halt v w'):w.drawn<=w'.drawn:=by have:=c0a p s w es;rw[h]at this;exact this
def gwd:GStep->Nat
 |.go _ w _=>w.drawn
 |.comm _ _ _ _ w _=>w.drawn
 |.spawn _ _ w _=>w.drawn
 |.count _ w _=>w.drawn
 |.timer _ _ w _=>w.drawn
 |.alone _ _ w _=>w.drawn
 |.newcoro _ _ _ w _=>w.drawn
 |.coroswitch _ _ _ w _=>w.drawn
 |.collect _ w _=>w.drawn
 |.watch _ w _=>w.drawn
 |.ended _ w _=>w.drawn
def T6(es:Array Event)(s:GStep):gwd (s.after es)=gwd s:=by cases s <;> rfl
variable{p:Program}{fr:Frame}{callers:List Frame}{dying:Option Dying}{w:World}{d:Nat}
def a2P{c:Prop}[Decidable c]{a b:GStep}(ha:d<=gwd a)(hb:d<=gwd b):d<=gwd (if c then a else b):=by split <;> assumption
def a2s{main:Bool}{v:Value}(h:d<=w.drawn):d<=gwd (doReturn p main fr callers dying v w):=by
 unfold doReturn
 repeat' split
 all_goals exact h
def a7C{fd:Nat}{t:ByteArray}{o:Outcome}(h:d<=w.drawn):d<=gwd (endWith w fd t o):=by
 unfold endWith;have hs:=d4v h (b8T w (.write fd t));generalize w.sys (.write fd t)=x at hs ⊢;obtain⟨r,w2⟩:=x;cases r
 case int n=>dsimp only;split <;> exact hs
 all_goals exact hs
def endWith_ended(w:World)(fd:Nat)(t:ByteArray)(o:Outcome):∃o' w' es,endWith w fd t o=.ended o' w' es:=by
 unfold endWith;generalize w.sys (.write fd t)=x;obtain⟨r,w2⟩:=x;cases r
 case int n=>dsimp only;split <;> exact⟨_,_,_,rfl⟩
 all_goals exact⟨_,_,_,rfl⟩
def a0l{m:String}(h:d<=w.drawn):d<=gwd (endThrow fr m w):=h
def a1W{v:Value}(h:d<=w.drawn):d<=gwd (endPrinting p fr v w):=by unfold endPrinting;simp only;split <;> exact h
def a5l{m:String}(h:d<=w.drawn):d<=gwd (endFatal p fr callers dying m w):=by
 unfold endFatal;simp only;split
 . rename_i e;exact d4v h (run_ok e)
 . rename_i e;exact d4v h (run_halt e)
 . rename_i e;exact d4v h (run_halt e)
def b3r{dy:Dying}{f:Fatal}(h:d<=w.drawn):d<=gwd (writeOn p fr dy f w):=by
 unfold writeOn;simp only;split
 . exact h
 . split
   all_goals (rename_i e;exact d4v h (b0K e))
def c68{dy:Dying}(h:d<=w.drawn):d<=gwd (die p fr dy w):=by
 unfold die;split
 . exact b3r h
 . split
   . split
     . exact h
     . exact a7C h
   . simp only;split
     . exact h
     . split
       . rename_i e;exact d4v h (run_ok e)
       . rename_i e;exact d4v h (run_halt e)
     . rename_i t recv name _;have e:=d4v h (c0a p (invoke (.fn (.method name) #[]) #[.iface t recv]) w #[]);rw[T6];generalize (Sem.runT p (invoke (.fn (.method name) #[]) #[.iface t recv]) w #[]).1=r at e ⊢;split
       all_goals first
        |exact e
        |exact a1W e
        |exact h
     . exact h
def b8k{g:Nat}(h:d<=w.drawn):d<=gwd (early p fr callers dying g w):=by
 have ny:∀w:World,d<=w.drawn->d<=gwd (match w.heap[g]? with
  |some (.pending c elem) =>
   .go { frame:=fr,callers,status:=.running,dying } { w with heap:=w.heap.setIfInBounds g (.cells c elem) }
  |_=>.ended (.stuck "early: the variable does not wait" (fr.pos p)) w):=fun w h=>by split <;> exact h
 unfold early;simp only
 repeat' split
 all_goals first
  |exact h
  |(have e:=run_ok ‹Sem.run p (choose (Question.early g)) w=Result.ok _ _›;exact d4v h e)
  |(have e:=run_halt ‹Sem.run p (choose (Question.early g)) w=Result.halt _ _›;exact d4v h e)
def a5E{df:Deferred}(h:d<=w.drawn):d<=gwd (callDeferred p fr callers dying df w):=by
 unfold callDeferred;refine a2P h ?_;generalize hx:(invoke df.target df.args).runT p w #[]=x;obtain⟨r,es⟩:=x;have e:=d4v h (b0K hx);dsimp only;rw[T6];split
 all_goals first
  |exact e
  |exact a5l e
  |exact a0l e
  |(split <;> exact e)
def b6D{main:Bool}(h:d<=w.drawn):d<=gwd (unwind p main fr callers dying w):=by
 unfold unwind;split
 . split;rename_i r es e;have e:=d4v h (b0K e);rw[T6];split <;> exact e
 . exact a5E h
 . split
   . exact h
   . split
     . exact h
     . split
       . exact h
       . split
         . split
           . exact h
           . split
             . rename_i e;exact d4v h (run_ok e)
             . rename_i e;exact d4v h (run_halt e)
             . rename_i e;exact d4v h (run_halt e)
         . split
           . exact a1W h
           . exact h
   . split
     . exact a2s h
     . split;rename_i r es e;have e:=d4v h (b0K e);rw[T6];split
       . exact a2s e
       . exact e
       . exact e
def a1Y{s:Sem Next}{listen main:Bool}(h:d<=w.drawn):d<=gwd (stepG.apply p listen fr callers dying s w):=by
 unfold stepG.apply;simp only;have hr:d<=rwd (if listen=true then s.runT p w #[]else(s.run p w,#[])).1:=by
  split
  . rw[Sem.runT_fst];exact d4v h (I8 p s w)
  . exact d4v h (I8 p s w)
 generalize (if listen=true then s.runT p w #[]else(s.run p w,#[]))=x at hr;obtain⟨r,es⟩:=x;dsimp only at hr ⊢;rw[T6];split
 all_goals first
  |exact hr
  |exact a5l hr
  |exact a0l hr
  |exact b8k hr
  |exact a2P (a0l hr) hr
  |(split <;> first|exact hr|exact a0l hr)
def c3r{listen:Bool}(h:d<=w.drawn):d<=gwd (stepG.oper p listen fr callers dying w):=by
 unfold stepG.oper;split
 . exact h
 . split
   . exact a1Y (main:=true) h
   . exact a1Y (main:=true) h
set_option maxHeartbeats 4000000 in
def c2O{main listen:Bool}(h:d<=w.drawn):d<=gwd (stepG.exec p main listen fr callers dying w):=by
 have hl : ∀ (l : Nat) (jump : Option Code), d <= gwd (GStep.after (seen p fr.fn (Sem.runT p (Instr.endRound l jump) w #[]).2) (match (Sem.runT p (Instr.endRound l jump) w #[]).1 with
       |.ok v w=>doReturn p main fr callers dying v w
       |.halt _ w=>.ended (.stuck "range over a function: no such loop" (fr.pos p)) w)):=fun l jump=>by
  rw[T6];split <;> rename_i q
  . exact a2s (d4v h (runT_ok q))
  . exact d4v h (a9e q)
 unfold stepG.exec;simp only;split
 all_goals first
  |exact h
  |exact a1Y (main:=true) h
  |exact a2P (c3r h) h
  |(split <;> exact h)
  |(split <;> first|exact a2P h h|exact h|exact hl _ _)
  |(unfold Option.elim;split <;> first|exact h|exact a1Y (main:=true) h|(split <;> first|exact a2P h h|exact h|exact hl _ _))
  |(rw[T6];split <;> rename_i q <;> first|exact a1Y (main:=true) (d4v h (runT_ok q))|exact d4v h (runT_ok q)|exact d4v h (a9e q))
  |(refine a2P h ?_;split <;> rename_i q <;> first|exact d4v h (run_ok q)|exact d4v h (run_halt q))
  |skip
def c1q{main listen:Bool}{g:Goroutine}(h:d<=w.drawn):d<=gwd (stepG p main g w listen):=by
 unfold stepG;split;split
 . exact c68 h
 . exact c2O h
 . exact b6D h
def swd:Stepped->Nat
 |.next m=>m.world.drawn
 |.ended _ w=>w.drawn
def b5k{c:Prop}[Decidable c]{a b:Stepped}(ha:d<=swd a)(hb:d<=swd b):d<=swd (if c then a else b):=by split <;> assumption
def b4Y{gs:Array Goroutine}{rest:Rest}(h:d<=w.drawn):d<=swd (look p gs rest w):=by
 unfold look;split
 . simp only;refine b5k h ?_;split
   . exact h
   . split <;> rename_i q
     . have e:=d4v h (run_ok q);exact e
     . have e:=d4v h (run_halt q);exact e
     . have e:=d4v h (run_halt q);exact e
 . exact h
def b9b{m:Machine}{k:Nat}(h:d<=m.world.drawn):d<=swd (serve p m k):=by
 unfold serve;split
 . exact h
 . exact h
 . simp only;split <;> exact h
def drain_eq(w:World)(c:Nat):(drain w c).2.drawn=w.drawn:=by unfold drain;split <;> rfl
def a8G(m:Machine)(k:Nat)(t:Timer)(a b:Nat):(retime m k t a b).2.world.drawn=m.world.drawn:=by
 unfold retime;split;rename_i had world e;split at e
 . have:=drain_eq m.world ‹Nat›;rw[e]at this;exact this
 . cases e;rfl
def b4q{m m':Machine}{op:TimerOp}{v:Value}(h:timerOp m op=.ok (v,m')):m'.world.drawn=m.world.drawn:=by
 have nm:∀(m:Machine)(var:Addr)(f:Nat->Timer->Value×Machine)(v:Value)(m':Machine)(D:Nat),(∀k t,(f k t).2.world.drawn=D)->timerOp.named m var f=.ok (v,m')->m'.world.drawn=D:=fun m var f v m' D hf h=>by
  unfold timerOp.named at h;split at h
  . rename_i k _;have:=hf k (m.rest.timers.getD k default);have h:=Except.ok.inj h;rw[h]at this;exact this
  . cases h
 unfold timerOp at h;split at h
 . split at h
   . cases h;rfl
   . split at h
     . split at h
       . cases h
       . cases h;rfl
     . cases h
 . exact nm m _ _ _ _ _ (fun k t=>a8G m k t _ _) h
 . split at h
   . rename_i m2 e;have e2:m2.world.drawn=m.world.drawn:=by
      unfold timerOp.opened at e;split at e
      . split at e <;> cases e;rfl
      . cases e;rfl
     rw[<- e2];exact nm m _ _ _ _ _ (fun k t=>a8G m2 k t _ _) h
   . cases h
 . cases h;rfl
def a7I{rest:Rest}{gs:Array Goroutine}{i:Nat}{g:Goroutine}{cases:Array CommCase}{blocking:Bool}{shape:CommShape}(h:d<=w.drawn):d<=swd (communicate p rest gs i g cases blocking shape w).1:=by
 unfold communicate;simp only;split
 . exact h
 . split
   . split
     . split
       . rename_i w2 e;have:w2.drawn=w.drawn:=by
          unfold waitingAt at e;split at e
          . split at e <;> cases e;rfl
          . cases e;rfl
         show d<=w2.drawn
         omega
       . exact h
     . exact h
   . split
     . rename_i q;exact d4v h (run_halt q)
     . rename_i q;have h2:=d4v h (run_ok q);split
       all_goals first
        |exact h2
        |(split <;> first|exact h2|(rename_i q2;have e:=d4v h2 (run_halt q2);exact e)|(split <;> first|exact h2|(rename_i q2;first|(have e:=d4v h2 (run_ok q2);exact e)|(have e:=d4v h2 (run_halt q2);exact e))))
def mwd:Move->Nat
 |.goroutine m _=>m.world.drawn
 |.machine s _=>swd s
def a3Z{c:Prop}[Decidable c]{a b:Move}(ha:d<=mwd a)(hb:d<=mwd b):d<=mwd (if c then a else b):=by split <;> assumption
def a7w{m:Machine}(h:d<=m.world.drawn):d<=mwd (askOn p m):=by
 have pick:∀(rs:List Nat)(m:Machine),d<=m.world.drawn->d<=mwd (match(choose (.sched rs.length)).run p m.world with
   |.halt _ w=>.machine (.ended (.stuck "sched" "") w)
   |.ok k world =>
    if rs.length<=1 then .goroutine { m with world } (rs.getD k 0)else
    match(choose (.extern "sched.slice" 65536)).run p world with
    |.halt _ w=>.machine (.ended (.stuck "sched.slice" "") w)
    |.ok n world=>.goroutine { m with world,rest:={ m.rest with slice:=if n=0 then none else some (rs.getD k 0,n) } } (rs.getD k 0)):=fun rs m h=>by
  split <;> rename_i q
  . have e:=d4v h (run_halt q);exact e
  . have e:=d4v h (run_ok q);refine a3Z e ?_;split <;> rename_i q2
    . have e2:=d4v e (run_halt q2);exact e2
    . have e2:=d4v e (run_ok q2);exact e2
 unfold askOn;dsimp only;split <;> rename_i q
 . have e:=d4v h (run_halt q);exact e
 . have e:=d4v h (run_ok q);refine a3Z (b9b e) ?_;split
   . split
     . exact e
     . refine a3Z e ?_;split
       . rename_i o w es hw;have hE:=a7C (d:=d) (fd:=2) (t:=bytes ("fatal error: " ++ (if m.gs.any (fun g=>g.status == .blocked || g.status == .parked)then "all goroutines are asleep - deadlock!" else "no goroutines (main called runtime.Goexit) - deadlock!")++"\n")) (o := .fatal (if m.gs.any (fun g => g.status == .blocked || g.status == .parked) then "all goroutines are asleep - deadlock!" else "no goroutines (main called runtime.Goexit) - deadlock!")) e;rw [hw] at hE; exact hE
       . rename_i hn;exfalso;obtain ⟨o, w', es, he⟩ := endWith_ended ‹World› 2 (bytes ("fatal error: " ++ (if m.gs.any (fun g => g.status == .blocked || g.status == .parked) then "all goroutines are asleep - deadlock!" else "no goroutines (main called runtime.Goexit) - deadlock!") ++ "\n")) (.fatal (if m.gs.any (fun g => g.status == .blocked || g.status == .parked) then "all goroutines are asleep - deadlock!" else "no goroutines (main called runtime.Goexit) - deadlock!"));exact hn _ _ _ he
   . split
     . exact pick _ { m with world:=_ } e
     . split <;> rename_i q2
       . have e2:=d4v e (run_halt q2);exact e2
       . have e2:=d4v e (run_ok q2);exact pick _ { m with world:=_ } e2
       . have e2:=d4v e (run_ok q2);exact e2
       . have e2:=d4v e (run_ok q2);exact pick _ (Machine.advanceTo { m with world:=_ } _) e2
def b5J{m:Machine}(h:d<=m.world.drawn):d<=mwd (Go.ask p m):=by
 unfold Go.ask;split
 . split <;> rename_i q
   . have e:=d4v h (run_halt q);exact e
   . have e:=b4Y (p:=p) (gs:=m.gs) (rest:=m.rest) (d4v h (run_ok q));split
     . rename_i m2 e2;rw[e2]at e;exact a7w e
     . exact e
   . have e:=d4v h (run_ok q);exact a7w (m:={ m with world:=_ }) e
 . exact a7w h
def c2a{m:Machine}(h:d<=m.world.drawn):d<=mwd (move p m):=by
 unfold move;split
 . exact a3Z h h
 . split
   . exact a3Z h (b5J (m:={ m with rest:=_ }) h)
   . exact b5J h
def b6P{m:Machine}{i:Nat}{listen:Bool}(h:d<=m.world.drawn):d<=swd (Go.runT p m i listen).1:=by
 unfold Go.runT;dsimp only;generalize hx:m.gs.swapAt! i { (default:Goroutine)with status:=.finished }=x;obtain⟨g,gs⟩:=x;dsimp only;have e:=c1q (p:=p) (main:=i == 0) (listen:=listen) (g:=g) h;generalize stepG p (i == 0) g m.world listen=s at e ⊢;cases s
 case ended=>exact e
 case comm=>dsimp only;exact a7I e
 case count=>exact b5k e e
 case collect=>exact b4Y e
 case coroswitch =>
  dsimp only;split
  . exact e
  . exact e
  . exact e
 case timer =>
  dsimp only;split
  . rename_i q;have:=b4q q;exact d4v e (d8d this.symm)
  . exact e
  . exact e
  . exact e
 all_goals exact e
def c20{m m':Machine}(h:step p m=.next m'):m.world.drawn<=m'.world.drawn:=by
 have e:m.world.drawn<=swd (step p m):=by
  unfold step stepT;have e:=c2a (p:=p) (d4C m.world.drawn);split
  . rename_i q;rw[q]at e;exact b6P e
  . rename_i q;rw[q]at e;exact e
 rw[h]at e;exact e
def Calls.drawn{K:FuncId}{args:Array Value}{R:Ending->World->Prop}(h:Calls p K args w R)(hr:∀w',¬R .outgrown w'):Calls p K args w fun e w'=>R e w'/\w.drawn<=w'.drawn:=by
 intro cs;obtain⟨e,w',fr,hR,hC,hf,hl⟩:=h cs;refine⟨e,w',fr,⟨hR,?_⟩,hC,hf,hl⟩;have st:∀m m':Machine,Steps p m m'->m.world.drawn<=m'.world.drawn:=fun m m' ⟨n,hn⟩=>by
  induction n generalizing m with
  |zero=>cases hn;exact d4C _
  |succ n ih =>
   unfold runN at hn;split at hn
   . rename_i m1 e;exact d4v (c20 e) (ih _ ⟨n,hn⟩ hn)
   . simp_all
 cases e with
 |outgrown=>exact absurd hR (hr _)
 |returned v=>exact st _ _ hC
 |panicked c=>exact st _ _ hC
end Go.Wk
end
namespace Go.Rx
open Go Go.Wk Go.Wl Go.Sort Go.Proofs
structure c1Z(N:B6)(t:Nat) where
 enc:N.U t->List Value
 rd:∀{Z:Nat->Prop}{w:World}{cs:List Value}{x:N.U t},(N.tb t).r.rd Z w cs x->cs=enc x/\∀(Z':Nat->Prop)(w':World),(N.tb t).r.rd Z' w' (enc x) x
 one:∀x,∀v∈enc x,v.oneCell'=true
 len:∀x,(enc x).length=(N.tb t).r.sz
def c06{W w' w2:World}(x:Ext [] W w')(hs:F3 w' w2)(hd:W.drawn<=w2.drawn):∃q os',w2=Sort.grow (W.drewN q) os':=by
 obtain⟨k,rfl⟩:=hs;refine⟨k-W.drawn,w'.heap.extract W.heap.size w'.heap.size,?_⟩;obtain⟨h,tp,dr,o,ou⟩:=W;obtain⟨h',tp',dr',o',ou'⟩:=w';obtain⟨x1,x2,x3,x4,x5⟩:=x;simp only at x1 x2 x3 x4 x5 hd ⊢;subst x1 x2 x3;unfold Sort.grow World.drewN;simp only[World.mk.injEq,and_true,true_and];refine⟨?_,by omega⟩;apply Array.ext_getElem?;intro i;rw[d7t];by_cases hi:i<h.size
 . rw[if_pos hi];exact x5 i hi (by simp)
 . rw[if_neg hi,Array.getElem?_extract];simp only[Nat.min_self];by_cases h2:i<h'.size
   . rw[if_pos (by omega)];congr 1;omega
   . rw[if_neg (by omega)];simp;omega
def c5I(P:Program)(K:Nat):Prop:=∀(p:Option Addr)(cap:Nat)(fv:Value)(w:World),Calls P K #[.slice p 0 cap,fv] w fun e w'=>e=.returned (.tuple #[])/\w'=w
def b65(P:Program)(K k g:Nat):Prop:=∀{α:Type} [Inhabited α] (enc:α->List Value),(∀x,(enc x).length=k)->(∀x,∀v∈enc x,v.oneCell'=true)->∀(cf:α->α->Int),SWO (ltOf cf)->∀(blk off cap:Nat)(d:Array α)(w:World),CmpLays P g #[] enc k cf blk off d.size w->HoldsK enc k w blk off d->blk<w.heap.size->d.size<4611686018427387904->(∀x y,ltOf cf x y=false->ltOf cf y x=false->x=y) ->
 Calls P K #[.slice (some ⟨blk,off,none⟩) d.size cap,.func (.func g) #[] #[]] w fun e w'=>e=.returned (.tuple #[])/\∃n os,w'=sortWorldK enc k w blk off n (d.toList.mergeSort fun x y=>!(ltOf cf) y x).toArray os
def a3J{α:Type}(cf:α->α->Int)(l:List α):List α:=l.mergeSort fun x y=>!(ltOf cf) y x
def a4B{α:Type}(cf:α->α->Int)(l:List α):(a3J cf l).length=l.length:=(d6n l _).length_eq
def c0c{α:Type}{cf:α->α->Int}{l:List α}{x:α}:x∈a3J cf l↔x∈l:=(d6n l _).mem_iff
section
variable{P:Program}{N:B6}{T:M8}{G:a1l}{K g t:Nat}{Z:Nat->Prop}{w:World}{l:List (N.U t)}{cf:N.U t->N.U t->Int}
def b0Z{w:World}{b n:Nat}{F:Array Value}{os:Array Obj}(hb:b<w.heap.size):Ext [b] w (Sort.grow (Sort.putRow id (Sort.ahead w n) b 0 F) os):=by
 refine⟨rfl,rfl,rfl,by simp[Sort.ahead],fun x hx hn=>?_⟩;have hne:x≠b:=by simpa using hn
 rw[d7e _ _ (by simpa using hx)];simp only[Sort.putRow,Sort.mapBlock,Sort.ahead,d5A];rw[if_neg (d5y hne)]
def b9j(Y:c1Z N t)(hpos:0<(N.tb t).r.sz)(hN:c5I P K)(hS:b65 P K (N.tb t).r.sz g)(hO:SWO (ltOf cf))(hT:∀x∈l,∀y∈l,ltOf cf x y=false->ltOf cf y x=false->x=y)(hl:l.length<4611686018427387904){v:Value}{bs:List Nat}(hac:Ac (N.tb t).r Z w v l bs)
  (hc:∀(W:World)(x y:N.U t),Ext bs w W->(∀Z w,(N.tb t).r.rd Z w (Y.enc x) x)->(∀Z w,(N.tb t).r.rd Z w (Y.enc y) y)->F7 P g [.agg (Y.enc x).toArray,.agg (Y.enc y).toArray] W (fun v w'=>v=.int .i64 (cf x y)/\Ext [] W w')) :
  F7 P K [v,.func (.func g) #[] #[]] w fun v' w'=>v'=.tuple #[]/\Ac (N.tb t).r Z w' v (a3J cf l) bs/\Ext bs w w':=by
 intro w1 hs;have none:∀(p:Option Addr)(cap:Nat),v=.slice p 0 cap->l=[]->Calls P K #[v,.func (.func g) #[] #[]] w1 fun e w2=>∃v' w',e=.returned v'/\F3 w' w2/\v'=.tuple #[]/\Ac (N.tb t).r Z w' v (a3J cf l) bs/\Ext bs w w':=fun p cap hv h0=>by
  rw[hv];refine d5p (hN p cap _ w1) ?_;rintro e w2 ⟨rfl,rfl⟩;refine⟨_,w,rfl,hs,rfl,?_,Ext.refl _ _⟩;subst h0;rw[<- hv];have:a3J cf ([]:List (N.U t))=[]:=by unfold a3J;exact List.mergeSort_nil
  rw[this];exact hac
 have hac0:=hac;rcases hac with⟨rfl,rfl,rfl⟩|⟨b,cap,C,Ty,rfl,rfl,ho,hC,hle,hcell⟩
 . exact none _ _ rfl rfl
 by_cases h0:l=[]
 . exact none _ _ (by rw[h0];rfl) h0
 obtain⟨k,rfl⟩:=hs;have hlt:=ho.lt;obtain⟨z,hz,ho⟩:=ho;have hlp:0<l.length:=d6X.2 h0;have hget:∀i (h:i<l.length),(∀j,j<(N.tb t).r.sz->C[i*(N.tb t).r.sz+j]?=(Y.enc l[i])[j]?)/\∀Z w,(N.tb t).r.rd Z w (Y.enc l[i]) l[i]:=fun i hi=>by obtain⟨c,h1,h2,h3⟩:=hcell i hi;obtain⟨e,hr⟩:=Y.rd h3;subst e;exact⟨h2,hr⟩
 have hmem:∀x∈l,∀Z w,(N.tb t).r.rd Z w (Y.enc x) x:=fun x hx=>by obtain⟨i,hi,rfl⟩:=d4R hx;exact(hget i hi).2
 let α:={x:N.U t // x∈l}
 let enc:α->List Value:=fun x=>Y.enc x.1
 let cf':α->α->Int:=fun x y=>cf x.1 y.1
 have inh:Inhabited α:=⟨⟨l[0],d5G hlp⟩⟩;have hO':SWO (ltOf cf'):=⟨fun x=>hO.irrefl x.1,fun x y z=>hO.trans x.1 y.1 z.1,fun x y z=>hO.ntrans x.1 y.1 z.1⟩;have hsz:(l.attach.toArray).size=l.length:=by simp
 have hfl:∀(d:Array α)(i j:Nat)(hi:i<d.size),j<(N.tb t).r.sz->(flatK enc (N.tb t).r.sz d)[i*(N.tb t).r.sz+j]?=(Y.enc d[i].1)[j]? := fun d i j hi hj=>by
  have h1:i*(N.tb t).r.sz+j<d.size*(N.tb t).r.sz:=by have:=d4H (N.tb t).r.sz (show i+1<=d.size from hi);rw[d5x,d7o]at this;omega
  have h2:i*(N.tb t).r.sz+j<(flatK enc (N.tb t).r.sz d).size:=by rw[size_flatK];exact h1
  have h3:=get_flatK enc (N.tb t).r.sz d _ h1;rw[d6E i,Nat.mul_add_div hpos,Nat.div_eq_of_lt hj,d5D,Nat.mul_add_mod,Nat.mod_eq_of_lt hj,d6E _ i,d7C (flatK enc (N.tb t).r.sz d) _ h2,d7C d i hi]at h3;have h4:j<(enc d[i]).length:=by rw[show(enc d[i]).length=_ from Y.len _];exact hj
  rw[d6A h2,h3,d7C (enc d[i]) _ h4];exact(d4x h4).symm
 have hH:HoldsK enc (N.tb t).r.sz { w with drawn:=k } b 0 l.attach.toArray:=fun q hq=>by
  rw[size_flatK,hsz]at hq;have hi:q / (N.tb t).r.sz<l.length:=d6B (by rw[d6E];exact hq);have hj:q%(N.tb t).r.sz<(N.tb t).r.sz:=d7y _ hpos;have e:q / (N.tb t).r.sz*(N.tb t).r.sz+q%(N.tb t).r.sz=q:=by rw[d6E];exact d7a _ _
  have h1:=(hget _ hi).1 _ hj;have h2:=hfl l.attach.toArray (q / (N.tb t).r.sz) (q%(N.tb t).r.sz) (by rw[hsz];exact hi) hj;rw[e]at h1 h2;have hq2:q<(flatK enc (N.tb t).r.sz l.attach.toArray).size:=by rw[size_flatK,hsz];exact hq
  rw[d6A hq2]at h2;constructor
  . simp only[World.cell?,show({ w with drawn:=k }:World).heap[b]?=_ from ho];rw[d7C (flatK enc (N.tb t).r.sz l.attach.toArray) _ hq2];simp only[Option.isSome_none,d5m,if_false,id,d6c];rw[h2];rw[d5z];show C[q]?=(Y.enc (l.attach[q / (N.tb t).r.sz]'(by simpa using hi)).1)[q%(N.tb t).r.sz]?
    rw[List.getElem_attach];exact h1
  . have hq3:q<C.length:=by
      have:=d4H (N.tb t).r.sz hle;omega
    rcases hz with rfl|hz
    . simp[World.frozen?,show({ w with drawn:=k }:World).heap[b]?=_ from ho]
    . simp[World.frozen?,show({ w with drawn:=k }:World).heap[b]?=_ from ho];omega
 have hcmp:CmpLays P g #[] enc (N.tb t).r.sz cf' b 0 (l.attach.toArray).size { w with drawn:=k }:=fun m os dk hdk x y=>by
  have hx:Ext [b] w (sortWorldK enc (N.tb t).r.sz { w with drawn:=k } b 0 m dk os):=by have h:=b0Z (w:={ w with drawn:=k }) (n:=m) (F:=flatK enc (N.tb t).r.sz dk) (os:=os) hlt;exact⟨h.os,h.tape,h.output,h.size,h.block⟩
  have h:=hc _ x.1 y.1 hx (hmem x.1 x.2) (hmem y.1 y.2) _ (F3.refl _);have h2:=Calls.drawn h (fun w' ⟨v',w3,e,_⟩=>by cases e);rw[Array.append_empty];exact d5p h2 fun e w2 ⟨⟨v',w3,e1,hs3,e2,x3⟩,hd⟩=>⟨by rw[e1,e2],c06 x3 hs3 hd⟩
 have hrun:=hS enc (fun x=>Y.len x.1) (fun x=>Y.one x.1) cf' hO' b 0 cap l.attach.toArray { w with drawn:=k } hcmp hH hlt (by rw[hsz];exact hl) (fun x y h1 h2=>Subtype.ext (hT x.1 x.2 y.1 y.2 h1 h2));rw[hsz]at hrun;refine d5p hrun ?_;rintro e w2 ⟨rfl,n,os,rfl⟩;have hmap:(l.attach.mergeSort fun x y=>!(ltOf cf') y x).map Subtype.val=a3J cf l:=by unfold a3J;have h:=List.map_mergeSort (r:=fun(x y:α)=>!(ltOf cf') y x) (s:=fun x y=>!(ltOf cf) y x) (f:=Subtype.val) (l:=l.attach) (fun a _ b _=>rfl);rw[List.attach_map_subtype_val]at h;exact h
 generalize hd:(l.attach.mergeSort fun x y=>!(ltOf cf') y x)=d' at hmap;have hdl:d'.length=l.length:=by rw[<- hd,(d6n _ _).length_eq];simp
 have hx:Ext [b] w (sortWorldK enc (N.tb t).r.sz { w with drawn:=k } b 0 n d'.toArray os):=by have h:=b0Z (w:={ w with drawn:=k }) (n:=n) (F:=flatK enc (N.tb t).r.sz d'.toArray) (os:=os) hlt;exact⟨h.os,h.tape,h.output,h.size,h.block⟩
 refine⟨_,_,rfl,F3.refl _,rfl,.inr ⟨b,cap,(Sort.putCells id 0 (flatK enc (N.tb t).r.sz d'.toArray) C.toArray).toList,Ty,by rw[a4B],rfl,⟨z,?_,?_⟩,?_,by rw[a4B];exact hle,fun i hi=>?_⟩,hx⟩
 . simpa[Sort.putCells]using hz
 . unfold sortWorldK putRowK;rw[d7e _ _ (by simpa using hlt)];simp only[Sort.putRow,Sort.mapBlock,Sort.ahead,d5A,if_true];rw[show w.heap[b]?=_ from ho];rfl
 . simp[Sort.putCells,hC]
 . have hi':i<l.length:=by rw[<- a4B cf l];exact hi
   have hid:i<d'.toArray.size:=by simp[hdl,hi']
   have he:(a3J cf l)[i]=(d'.toArray[i]).1:=by simp[<- hmap]
   have hme:(a3J cf l)[i]∈l:=c0c.1 (d5G hi);refine⟨Y.enc (a3J cf l)[i],Y.len _,fun j hj=>?_,hmem _ hme _ _⟩;have h1:i*(N.tb t).r.sz+j<l.length*(N.tb t).r.sz:=by have:=d4H (N.tb t).r.sz (show i+1<=l.length from hi');rw[d5x,d7o]at this;omega
   have h2:i*(N.tb t).r.sz+j<C.length:=by have:=d4H (N.tb t).r.sz hle;omega
   have h3:=hfl d'.toArray i j hid hj;have h4:i*(N.tb t).r.sz+j<(flatK enc (N.tb t).r.sz d'.toArray).size:=by rw[size_flatK];simp[hdl];exact h1
   rw[d6A h4]at h3;rw[he,<- h3];simp only[Sort.putCells,d7v,d7u,d5z];rw[d4x h2];simp only[d6K,d5M,true_and,d6c,if_pos h4,Nat.sub_zero,id];rw[d7C (flatK enc (N.tb t).r.sz d'.toArray) _ h4]
def b1M(Y:c1Z N t)(hpos:0<(N.tb t).r.sz)(hN:c5I P K)(hS:b65 P K (N.tb t).r.sz g)(hO:SWO (ltOf cf))(hT:∀x∈l,∀y∈l,ltOf cf x y=false->ltOf cf y x=false->x=y)
  (hc:∀(D:Nat->Prop)(W:World)(x y:N.U t),(∀b,D b->b<W.heap.size)->G.is D W->(∀Z w,(N.tb t).r.rd Z w (Y.enc x) x)->(∀Z w,(N.tb t).r.rd Z w (Y.enc y) y)->F7 P g [.agg (Y.enc x).toArray,.agg (Y.enc y).toArray] W (fun v w'=>v=.int .i64 (cf x y)/\Ext [] W w')) (hl:l.length<4611686018427387904) :
  L8 P N T G K [.acc 0,.fn g] [(0,.ac t l)] 2 (fun k=>True->k (.E8 []) [(0,.ac t (a3J cf l))] 2):=by
 intro kk hk ρ Z w vs B hfr hsep hG ha;have ok:=hsep.ok 0 (C7 N T ρ B 0 (.ac t l)) rfl;obtain⟨L,hL,hn,hlen,hac⟩:=ok.holds;have hF:(C7 N T ρ B 0 (.ac t l)).F=L.bs:=by show s6 N ρ 0 (.ac t l)=_;exact w7 hL
 obtain⟨v0,vr,rfl,h0,hr⟩:=e7.u7 ha;obtain⟨v1,vr2,rfl,h1,hr2⟩:=e7.u7 hr;have hnil:vr2=[]:=by generalize e:Value.tuple vr2.toArray=u at hr2;cases hr2 with|L0=>simpa using e
 subst hnil;cases h1;cases h0 with|acc hL' =>
 rw[hL]at hL';cases hL';have hnz:∀b∈L.bs,¬Z b:=fun b hb=>ok.N5 b (by rw[hF];exact hb);refine(b9j Y hpos hN hS hO hT hl hac fun W x y xW hx hy=>hc Z W x y (fun b hb=>by have:=hsep.zlt b hb;have:=xW.size;omega) (G.H8 hG xW (fun b hb hz=>absurd hz (hnz b hb)) fun b hz _=>hz) hx hy).mono ?_;rintro v w' ⟨rfl,hac',x⟩;have hll:=a4B cf l;have hs1:=Wl.Sep.D2 hsep 0 (t:=C7 N T ρ B 0 (.ac t l)) (t':=C7 N T ρ B 0 (.ac t (a3J cf l))) rfl (by rw[hF];exact x) ⟨L,hL,by omega,by omega,hac'⟩ s7 (fun b hb=>by have hb:b∈s6 N ρ 0 (.ac t (a3J cf l)):=hb;rw[w7 hL]at hb;exact⟨.inl (by rw[hF];exact hb),hac'.lt b hb⟩) rfl
 exact⟨ρ,Z,.E8 [],[(0,.ac t (a3J cf l))],2,hs1,hfr,fun _ _ h=>h,fun _ h=>h,fun _ h=>.inl h,.L0,hk trivial⟩
end
end Go.Rx
namespace Go.Proofs.YtapnoejokajcoaaGreatDoor
open Go Go.Wk Go.Wl Go.Rx Go.Re Go.Li Go.Qu Go.Fo Go.Proofs Go.RowKit
def c1b{a b:Ins}:a6U a b<0↔b8 a.Start<b8 b.Start∨(b8 a.Start=b8 b.Start/\b8 a.u5<b8 b.u5):=by have h0:a0W a.Start b.Start=0↔b8 a.Start=b8 b.Start:=b6F;have h1:a0W a.Start b.Start<0↔b8 a.Start<b8 b.Start:=a3W;have h2:a0W a.u5 b.u5<0↔b8 a.u5<b8 b.u5:=a3W;unfold a6U;split <;> omega
def ltT(a b:Tm):ltOf a0W a b=decide (b8 a<b8 b):=d5c.2 a3W
def ltN(a b:Ins):ltOf a6U a b=decide (b8 a.Start<b8 b.Start∨(b8 a.Start=b8 b.Start/\b8 a.u5<b8 b.u5)):=d5c.2 c1b
def d3V:Go.Sort.SWO (ltOf a0W) where
 irrefl x:=by rw[ltT];simp
 trans x y z h1 h2:=by rw[ltT]at *;simp at *;omega
 ntrans x y z h1 h2:=by rw[ltT]at *;simp at *;omega
def d3P:Go.Sort.SWO (ltOf a6U) where
 irrefl x:=by rw[ltN];simp
 trans x y z h1 h2:=by rw[ltN]at *;simp only[d5t]at *;omega
 ntrans x y z h1 h2:=by rw[ltN]at *;simp only[decide_eq_false_iff_not]at *;omega
def a8s(x:Ins):List Value:=a1I x.Start++(a1I x.End++(a1I x.u5++[.bool x.Over]))
def a65{Z:Nat->Prop}{w:World}{cs:List Value}{x:Tm}(h:dTm.rd Z w cs x):cs=a1I x/\∀(Z':Nat->Prop)(w':World),dTm.rd Z' w' (a1I x) x:=by obtain⟨c0,_,rfl,⟨d0,_,rfl,g0,d1,d2,rfl,g1,g2⟩,c1,_,rfl,h1,c2,_,rfl,h2,c3,_,rfl,h3,c4,c5,rfl,h4,h5⟩:=h;have k0:=g0.1;have k1:=g1.1;have k2:=g2.1;have e1:=h1.1;have e2:=h2.1;have e3:=h3.1;have e4:c4=_:=h4;have e5:c5=_:=h5;subst k0 k1 k2 e1 e2 e3 e4 e5;exact⟨rfl,fun Z' w'=>⟨_,_,rfl,⟨_,_,rfl,g0,_,_,rfl,g1,g2⟩,_,_,rfl,h1,_,_,rfl,h2,_,_,rfl,h3,_,_,rfl,h4,h5⟩⟩
def c3x{Z:Nat->Prop}{w:World}{cs:List Value}{x:Ins}(h:b85.rd Z w cs x):cs=a8s x/\∀(Z':Nat->Prop)(w':World),b85.rd Z' w' (a8s x) x:=by obtain⟨c0,_,rfl,h0,c1,_,rfl,h1,c2,c3,rfl,h2,h3⟩:=h;obtain⟨rfl,g0⟩:=a65 h0;obtain⟨rfl,g1⟩:=a65 h1;obtain⟨rfl,g2⟩:=a65 h2;have e3:c3=_:=h3;subst e3;exact⟨rfl,fun Z' w'=>⟨_,_,rfl,g0 Z' w',_,_,rfl,g1 Z' w',_,_,rfl,g2 Z' w',h3⟩⟩
def a4r(x:Tm):∀v∈a1I x,v.oneCell'=true:=fun v hv=>by simp only[a1I,d4B,List.not_mem_nil,or_false]at hv;rcases hv with rfl|rfl|rfl|rfl|rfl|rfl|rfl|rfl <;> rfl
def EcT:c1Z U 26:=⟨a1I,a65,a4r,fun _=>rfl⟩
def EcN:c1Z U 48:=⟨a8s,c3x,fun(x:Ins) v hv=>by
 simp only[a8s,d4J,d4q]at hv;rcases hv with hv|hv|hv|rfl
 . exact a4r _ v hv
 . exact a4r _ v hv
 . exact a4r _ v hv
 . rfl,fun _=>rfl⟩
def c3p(D:Nat->Prop)(W:World)(x y:Tm)(hD:∀b,D b->b<W.heap.size)(hG:Gl.is D W)(hx:∀Z w,dTm.rd Z w (a1I x) x)(hy:∀Z w,dTm.rd Z w (a1I y) y):F7 Tryz.prog 61 [.agg (a1I x).toArray,.agg (a1I y).toArray] W (fun v w'=>v=.int .i64 (a0W x y)/\Ext [] W w'):=by have h:=Ntc_ok.T4 61 _ [.agg (leaves (y26.sv x)),.agg (leaves (y26.sv y))] 0 ⟨[],[],.int .i64 (a0W (j6 x) (j6 y)),[]⟩ rfl rfl rfl rfl trivial;rw[x9,x9]at h;refine(h D W [.agg (a1I x).toArray,.agg (a1I y).toArray] hD hG (.I6 (y26.sv_ok (hx D W)) (.I6 (y26.sv_ok (hy D W)) .L0))).mono ?_;rintro v w' ⟨e,hr,_⟩;cases hr;exact⟨rfl,e⟩
def c3s(D:Nat->Prop)(W:World)(x y:Ins)(hD:∀b,D b->b<W.heap.size)(hG:Gl.is D W)(hx:∀Z w,b85.rd Z w (a8s x) x)(hy:∀Z w,b85.rd Z w (a8s y) y):F7 Tryz.prog 30 [.agg (a8s x).toArray,.agg (a8s y).toArray] W (fun v w'=>v=.int .i64 (a6U x y)/\Ext [] W w'):=by have h:=Nic_ok.T4 30 _ [.agg (leaves (y48.sv x)),.agg (leaves (y48.sv y))] 0 ⟨[],[],.int .i64 (a6U (etN x) (etN y)),[]⟩ rfl rfl rfl rfl trivial;rw[B7,B7]at h;refine(h D W [.agg (a8s x).toArray,.agg (a8s y).toArray] hD hG (.I6 (y48.sv_ok (hx D W)) (.I6 (y48.sv_ok (hy D W)) .L0))).mono ?_;rintro v w' ⟨e,hr,_⟩;cases hr;exact⟨rfl,e⟩
def b6i:b65 Tryz.prog 60 8 61:=fun enc hk h1 cf hO blk off cap d w hcmp hH hblk hsz hT=>Tryz.b4g 8 (a4o (P:=Tryz.prog) (T:=26) (by kernel_rfl)) (M0 (P:=Tryz.prog) (T:=26) (by kernel_rfl)) enc hk h1 cf hO 61 #[] blk off cap d w Tryz.call61 hcmp hH hblk hsz hT
def c9z:b65 Tryz.prog 29 25 30:=fun enc hk h1 cf hO blk off cap d w hcmp hH hblk hsz hT=>Tryz.b40 25 (a4o (P:=Tryz.prog) (T:=48) (by kernel_rfl)) (M0 (P:=Tryz.prog) (T:=48) (by kernel_rfl)) enc hk h1 cf hO 30 #[] blk off cap d w Tryz.call30 hcmp hH hblk hsz hT
def fST:FC U:=⟨[],[],fun a its=>match a,its with
 |[.acc 0,.fn 61],[(0,.ac 26 l)]=>some ⟨[List.length (α:=Tm) l<=1000000,∀x∈(l:List Tm),∀y∈(l:List Tm),b8 x=b8 y->x=y],[],.E8 [],[(0,.ac (N:=U) 26 (a5C l))],2⟩
 |_,_=>none⟩
def fSN:FC U:=⟨[],[],fun a its=>match a,its with
 |[.acc 0,.fn 30],[(0,.ac 48 l)]=>some ⟨[List.length (α:=Ins) l<=1000000,∀x∈(l:List Ins),∀y∈(l:List Ins),b8 x.Start=b8 y.Start->b8 x.u5=b8 y.u5->x=y],[],.E8 [],[(0,.ac (N:=U) 48 (b1x l))],2⟩
 |_,_=>none⟩
def fST_ok(args:List (SV U))(its:c7 U)(r:FR U)(h:fST.C args its=some r)(ho:p8 r.ob):L8 Tryz.prog U eT Gl 60 args its (2*its.length) (fun k=>p8 r.hy->k r.v r.its r.n):=by
 unfold fST at h;simp only at h;split at h
 . rename_i l;cases h;refine b1M (N:=U) (t:=26) EcT (by show 0<8;decide) Tryz.b0R b6i d3V (fun(x:Tm) hx y hy h1 h2=>ho.2.1 x hx y hy ?_) c3p (by have:=ho.1;show List.length (α:=Tm) l<_;omega);have h1:=d6x ((ltT x y).symm.trans h1);have h2:=d6x ((ltT y x).symm.trans h2);omega
 . cases h
def fSN_ok(args:List (SV U))(its:c7 U)(r:FR U)(h:fSN.C args its=some r)(ho:p8 r.ob):L8 Tryz.prog U eT Gl 29 args its (2*its.length) (fun k=>p8 r.hy->k r.v r.its r.n):=by
 unfold fSN at h;simp only at h;split at h
 . rename_i l;cases h;refine b1M (N:=U) (t:=48) EcN (by show 0<25;decide) Tryz.b2G c9z d3P (fun(x:Ins) hx y hy h1 h2=>?_) c3s (by have:=ho.1;show List.length (α:=Ins) l<_;omega);have h1:=d6x ((ltN x y).symm.trans h1);have h2:=d6x ((ltN y x).symm.trans h2);exact ho.2.1 x hx y hy (by omega) (by omega)
 . cases h
def N60:Env:=((c9C.a1K 60 fST).a1K 29 fSN)
def N60_ok:c8 N60:=((NcmT_ok.a1K Tryz.call60 fST_ok).a1K Tryz.call29 fSN_ok)
def d2h:Env:=N60.z6 56 Tryz.f56
def NI56_ok:c8 d2h:=N60_ok.z6 Tryz.call56 Tryz.func56
def c4d:Env:=d2h.z6 100 Tryz.f100
def NI100_ok:c8 c4d:=NI56_ok.z6 Tryz.call100 Tryz.func100
def c9t:Env:=c4d.z6 58 Tryz.f58
def NI58_ok:c8 c9t:=NI100_ok.z6 Tryz.call58 Tryz.func58
end Go.Proofs.YtapnoejokajcoaaGreatDoor
namespace Go.Qu
open Go Go.Wk Go.Wl Go.Rx Go.Re Go.Li Go.Fo
noncomputable section
def exN:y8:=[101,120,112,97,110,100]
def tmR(o:E3)(f t:Int)(r:Rl):List Tm×l8:=L6 o.Main.Start.Time r (X5 (f-172800-A2 o.Main) o.Main.Start.Time) (X5 (t+172800) o.Main.Start.Time)
def tmE(qa:Nat)(o:E3)(f t:Int):List Tm->List Rl->List Tm×l8
 |l,[]=>(l,.nil)
 |_,r::rs=>if(tmR o f t r).2=.nil then tmE qa o f t (tmR o f t r).1 rs else([],.p qa exN (tmR o f t r).2.n0)
def tmA(qa:Nat)(o:E3)(f t:Int):List Tm:=((tmE qa o f t [o.Main.Start.Time] o.Main.b9).1++o.Main.p4.map G9.Time).filter fun t=>!W7 o t
def R5(qa:Nat)(o:E3)(f t:Int):List Tm×l8:=if(tmE qa o f t [o.Main.Start.Time] o.Main.b9).2=.nil then(ded (a5C (tmA qa o f t)),.nil)else([],(tmE qa o f t [o.Main.Start.Time] o.Main.b9).2)
def b0U(l:List Tm):Prop:=∀x∈l,∀y∈l,b8 x=b8 y->x=y
def b9N(s:Tm)(r:Rl)(a b:Tm):(L6 s r a b).2=.nil∨(L6 s r a b).2=.no (L6 s r a b).2.n0:=by
 unfold L6;split
 . exact .inr rfl
 . split
   . exact .inr rfl
   . unfold b20;split
     . exact .inr rfl
     . split
       . exact .inr rfl
       . exact .inl rfl
def b3f(l:List Tm):(a5C l).length=l.length:=(d6n l _).length_eq
def a6s{l:List Tm}{x:Tm}:x∈a5C l↔x∈l:=(d6n l _).mem_iff
def a9k{α:Type}[Inhabited α]{p:α->Bool}{l:List α}{j:Int}(j0:0<=j)(j1:j<l.length):(l.take (j+1).toNat).filter p=if p (ix l j)=true then(l.take j.toNat).filter p++[ix l j]else(l.take j.toNat).filter p:=by rw[T8 j0 j1,d6N];cases h:p (ix l j) <;> simp[h]
def a7d{α:Type}[Inhabited α]{p:α->Bool}{l:List α}{n:Int}(n0:0<=n)(n1:n<=l.length)(h:q9 n fun j=>p (ix l j)=true):(l.take n.toNat).filter p=l.take n.toNat:=by rw[d6Y];intro x hx;obtain⟨i,hi,rfl⟩:=d4R hx;rw[d4I]at hi;have:=h i (by omega) (by omega);dsimp only at this;rw[w8 (by omega)]at this;rw[d6z];simpa using this
def a48{α:Type}[Inhabited α]{l:List α}{i:Int}(i0:0<=i)(hi:i<l.length):l.drop i.toNat=ix l i::l.drop (i+1).toNat:=by rw[show(i+1).toNat=i.toNat+1 by omega,w8 (by omega)];exact d5Q (by omega)
end
end Go.Qu
namespace Go.Proofs.YtapnoejokajcoaaGreatDoor
open Go Go.Wk Go.Wl Go.Rx Go.Re Go.Li Go.Qu Go.Fo 
attribute [local irreducible] i7
def anti:Nat->D1:=fun|26=>⟨78,fun|12=>some ⟨[3,58,59],[.slot 9 (.acc 26),.slot 60 (.int .i64)]⟩|4=>some ⟨[1,2,3,8,24,25],[.slot 9 (.acc 26),.slot 26 (.int .i64)]⟩|_=>none,fun|17=>some ⟨[],[.slot 9 (.acc 26)]⟩|_=>none⟩|56=>⟨42,fun|5=>some ⟨[0,1],[.slot 5 (.int .i64),.slot 6 (.int .i64),.cont 0 26]⟩|_=>none,fun|2=>some ⟨[0,1],[.slot 5 (.int .i64)]⟩|_=>none⟩|100=>⟨19,fun|2=>some ⟨[0,1,7],[.slot 8 (.int .i64)]⟩|_=>none,nn⟩|58=>⟨7,nn,nn⟩|_=>⟨0,nn,nn⟩
def b4z(f:Int)(o:E3):=j6 (X5 (f-172800-A2 (etI o.Main)) (j6 o.Main.Start.Time))
def b4M(t:Int)(o:E3):=j6 (X5 (t+172800) (j6 o.Main.Start.Time))
def Vti(o:E3)(f:Int)(t:Int)(Q:List Tm->l8->Prop):Prop:=
∃(I:List Tm->Int->Prop),∃(m:List Tm->Int->Nat),I [j6 o.Main.Start.Time] 0/\∀(x:List Tm)(x_1:Int),I x x_1->(bR (x_1<(↑o.Main.b9.length:Int)) (0<=x_1/\x_1<(↑o.Main.b9.length:Int)/\(c6 (ix o.Main.b9 x_1).j8->c6 (ix o.Main.b9 x_1).Interval->c6 (ix o.Main.b9 x_1).Count->c6 (ix o.Main.b9 x_1).u6->c6 (f-172800)/\c6 (f-172800-A2 (etI o.Main))/\c6 (t+172800)/\F4 (L3 (ix o.Main.b9 x_1))=true/\(bR ((L6 (j6 o.Main.Start.Time) (L3 (ix o.Main.b9 x_1)) (b4z f o) (b4M t o)).snd≠l8.nil) ((L6 (j6 o.Main.Start.Time) (L3 (ix o.Main.b9 x_1)) (b4z f o) (b4M t o)).snd=l8.no (L6 (j6 o.Main.Start.Time) (L3 (ix o.Main.b9 x_1)) (b4z f o) (b4M t o)).snd.n0/\Q [] (l8.p (105:Nat) ([101,120,112,97,110,100]:List UInt8) (L6 (j6 o.Main.Start.Time) (L3 (ix o.Main.b9 x_1)) (b4z f o) (b4M t o)).snd.n0)) (c6 (x_1+1)/\I (L6 (j6 o.Main.Start.Time) (L3 (ix o.Main.b9 x_1)) (b4z f o) (b4M t o)).fst (x_1+1)/\m (L6 (j6 o.Main.Start.Time) (L3 (ix o.Main.b9 x_1)) (b4z f o) (b4M t o)).fst (x_1+1)<m x x_1)))) (∃(I:List Tm->Int->Prop),∃(m:List Tm->Int->Nat),I x 0/\∀(x:List Tm)(x_2:Int),I x x_2->(bR (x_2<(↑o.Main.p4.length:Int)) (0<=x_2/\x_2<(↑o.Main.p4.length:Int)/\(x.length+[j6 (ix o.Main.p4 x_2).Time].length)*(some (56:Nat)).getD (0:Nat)<=140737488355328/\c6 (x_2+1)/\I (x++[j6 (ix o.Main.p4 x_2).Time]) (x_2+1)/\m (x++[j6 (ix o.Main.p4 x_2).Time]) (x_2+1)<m x x_2) (∃(J:List Tm->Prop),((↑x.length:Int)<=1000000/\∃(J_1:Int->Prop),(∃(I:Int->Prop),∃(m:Int->Nat),I 0/\∀(x_3:Int),I x_3->(bR (x_3<(↑x.length:Int)) (0<=x_3/\x_3<(↑x.length:Int)/\(c6 (ix x x_3).Day.Year->c6 (ix x x_3).Day.Month->c6 (ix x x_3).Day.Date->c6 (ix x x_3).Hour->c6 (ix x x_3).Min->c6 (ix x x_3).D5->(↑o.Main.q8.length:Int)<=1000000/\(bR (W7 (etE o) (j6 (ix x x_3))=true) (J_1 x_3) (c6 (x_3+1)/\I (x_3+1)/\m (x_3+1)<m x_3)))) (J_1 (-1:Int))))/\∀(x_3:Int),J_1 x_3->(bR (x_3=(-1:Int)) (J x) (c6 (x_3+1)/\∃(I:Int->Int->List Tm->Prop),∃(m:Int->Int->List Tm->Nat),I x_3 (x_3+1) x/\∀(x x_4:Int)(x_5:List Tm),I x x_4 x_5->(bR (x_4<(↑x_5.length:Int)) (0<=x_4/\x_4<(↑x_5.length:Int)/\(c6 (ix x_5 x_4).Day.Year->c6 (ix x_5 x_4).Day.Month->c6 (ix x_5 x_4).Day.Date->c6 (ix x_5 x_4).Hour->c6 (ix x_5 x_4).Min->c6 (ix x_5 x_4).D5->(↑o.Main.q8.length:Int)<=1000000/\(bR (¬W7 (etE o) (j6 (ix x_5 x_4))=true) (0<=x/\x<(↑x_5.length:Int)/\c6 (x+1)/\c6 (x_4+1)/\I (x+1) (x_4+1) (x_5.set x.toNat (j6 (ix x_5 x_4)))/\m (x+1) (x_4+1) (x_5.set x.toNat (j6 (ix x_5 x_4)))<m x x_4 x_5) (c6 (x_4+1)/\I x (x_4+1) x_5/\m x (x_4+1) x_5<m x x_4 x_5)))) (0<=x/\x<=(↑x_5.length:Int)/\0<=x/\x<=(↑(List.take ((some x).getD 0).toNat x_5++List.replicate (none.getD (↑x_5.length:Int)-(some x).getD 0).toNat (Tm.mk (Dy.mk 0 0 0) 0 0 0 false false)++List.drop (((some x).getD 0).toNat+(none.getD (↑x_5.length:Int)-(some x).getD 0).toNat) x_5).length:Int)/\J (List.take ((some x).getD (↑(List.take ((some x).getD 0).toNat x_5++List.replicate (none.getD (↑x_5.length:Int)-(some x).getD 0).toNat (Tm.mk (Dy.mk 0 0 0) 0 0 0 false false)++List.drop (((some x).getD 0).toNat+(none.getD (↑x_5.length:Int)-(some x).getD 0).toNat) x_5).length:Int)-none.getD 0).toNat (List.take ((some x).getD 0).toNat x_5++List.replicate (none.getD (↑x_5.length:Int)-(some x).getD 0).toNat (Tm.mk (Dy.mk 0 0 0) 0 0 0 false false)++List.drop (((some x).getD 0).toNat+(none.getD (↑x_5.length:Int)-(some x).getD 0).toNat) x_5)))))))/\∀(x:List Tm),J x->x.length<=1000000/\(∀(x_3:Tm),x_3∈x->∀(y:Tm),y∈x->b8 x_3=b8 y->x_3=y)/\(↑(a5C x).length:Int)<=1000000/\Q (ded (a5C x)) l8.nil))))
def pti(o:E3)(f:Int)(t:Int)(hf:a2i o.Main)(hn:0<=A2 o.Main/\A2 o.Main<=400000000000)(hff:0<=f/\f<315537897600)(htt:0<=t/\t<315537897600)(hT:b0U (tmA 105 o f t)):Vti o f t (fun y0 y1=>y0=(R5 105 o f t).1/\y1=(R5 105 o f t).2):=by
 unfold Vti b4M b4z;simp only[x9,A6,B3,C5,C4,C6,C8,C3,B9,D0,B7,d4p,d7q,d8f,d8e];obtain⟨f1,f2,f3,f4,f5,f6,f7,f8,f9,f10,f11⟩:=hf;refine⟨fun(x:List Tm) i=>0<=i/\i<=o.Main.b9.length/\x.length<=1000/\tmE 105 o f t [o.Main.Start.Time] o.Main.b9=tmE 105 o f t x (o.Main.b9.drop i.toNat),fun _ i=>((o.Main.b9.length:Int)-i).toNat,⟨by omega,by omega,by show 1<=1000;decide,rfl⟩,?_⟩;rintro x i ⟨i0,i1,xl,hx⟩;refine⟨fun hi=>?_,fun hi=>?_⟩
 . have hE:=b9N o.Main.Start.Time (ix o.Main.b9 i) (X5 (f-172800-A2 o.Main) o.Main.Start.Time) (X5 (t+172800) o.Main.Start.Time);have hl:=@b5N o.Main.Start.Time (X5 (f-172800-A2 o.Main) o.Main.Start.Time) (X5 (t+172800) o.Main.Start.Time) (ix o.Main.b9 i);rw[a48 i0 hi,tmE,tmR]at hx;refine⟨i0,hi,fun _ _ _ _=>⟨⟨by omega,by omega⟩,⟨by omega,by omega⟩,⟨by omega,by omega⟩,f8 _ (w5 i0 hi),fun he=>?_,fun he=>⟨⟨by omega,by omega⟩,⟨by omega,by omega,by omega,?_⟩,by dsimp only;omega⟩⟩⟩
   . rw[if_neg he]at hx;unfold R5;rw[hx,if_neg (fun e=>by cases e)];exact⟨hE.resolve_left he,rfl,rfl⟩
   . rw[if_pos (d4i.1 he)]at hx;exact hx
 rw[d5P (by omega),tmE]at hx;clear i0 i1 hi i;refine⟨fun(y:List Tm) i=>0<=i/\i<=o.Main.p4.length/\y=x++(o.Main.p4.take i.toNat).map G9.Time/\(y.length:Int)=x.length+i,fun _ i=>((o.Main.p4.length:Int)-i).toNat,⟨by omega,by omega,by simp,by omega⟩,?_⟩;rintro y i ⟨i0,i1,hy,yl⟩;refine⟨fun hi=>⟨i0,hi,by show(y.length+1)*56<=_;omega,⟨by omega,by omega⟩,⟨by omega,by omega,?_,?_⟩,by dsimp only;omega⟩,fun hi=>?_⟩
 . rw[T8 i0 hi,d6L,hy,d4K];rfl
 . rw[d4o];simp only[d6q];omega
 have hy2:y=x++o.Main.p4.map G9.Time:=by rw[hy,d4M (by omega)]
 have ha:tmA 105 o f t=y.filter fun t=>!W7 o t:=by unfold tmA;rw[hx,hy2]
 rw[ha]at hT;have hS:R5 105 o f t=(ded (a5C (y.filter fun t=>!W7 o t)),.nil):=by unfold R5;rw[hx,if_pos rfl,ha]
 rw[hS];have yl2:(y.length:Int)<=10000:=by omega
 clear hx hy hy2 ha hS i0 i1 hi yl i;have ht:y.take (y.length:Int).toNat=y:=d4M (by omega);refine⟨fun z=>z=y.filter fun t=>!W7 o t,⟨by omega,fun x=>(x=-1/\q9 y.length fun j=>(!W7 o (ix y j))=true)∨(0<=x/\x<y.length/\W7 o (ix y x)=true/\q9 x fun j=>(!W7 o (ix y j))=true),⟨fun i=>0<=i/\i<=y.length/\q9 i fun j=>(!W7 o (ix y j))=true,fun i=>((y.length:Int)-i).toNat,⟨by omega,by omega,q9.zero⟩,?_⟩,?_⟩,?_⟩
 . rintro i ⟨i0,i1,ai⟩;refine⟨fun hi=>⟨i0,hi,fun _ _ _ _ _ _=>⟨by omega,fun h=>.inr ⟨i0,hi,h,ai⟩,fun h=>⟨⟨by omega,by omega⟩,⟨by omega,by omega,ai.succ ?_⟩,by dsimp only;omega⟩⟩⟩,fun hi=>.inl ⟨rfl,ai.le (by omega)⟩⟩;rw[d4W]at h;rw[h];rfl
 . rintro x hx;refine⟨fun e=>?_,fun e=>?_⟩
   . rcases hx with⟨_,ai⟩|⟨x0,_⟩
     . have:=a7d (p:=fun t=>!W7 o t) (by omega) (by omega) ai;rw[ht]at this;exact this.symm
     . omega
   obtain⟨x0,x1,hb,ai⟩:=hx.resolve_left (fun h=>e h.1);refine⟨⟨by omega,by omega⟩,fun(i j:Int)(L:List Tm)=>0<=i/\i<j/\j<=y.length/\L.length=y.length/\L.take i.toNat=(y.take j.toNat).filter (fun t=>!W7 o t)/\∀q:Int,j<=q->q<y.length->ix L q=ix y q,fun _ j _=>((y.length:Int)-j).toNat,⟨x0,by omega,by omega,rfl,?_,fun _ _ _=>rfl⟩,?_⟩
   . rw[a9k x0 x1,if_neg (by rw[hb];decide),a7d (p:=fun t=>!W7 o t) x0 (by omega) ai]
   rintro i j L ⟨i0,ij,j1,hL,hl,hq⟩;refine⟨fun hj=>?_,fun hj=>?_⟩
   . have e1:=hq j (by omega) (by omega);rw[e1];have fi:=a9k (p:=fun t=>!W7 o t) (l:=y) (j:=j) (by omega) (by omega);refine⟨by omega,hj,fun _ _ _ _ _ _=>⟨by omega,fun h=>⟨i0,by omega,⟨by omega,by omega⟩,⟨by omega,by omega⟩,⟨by omega,by omega,by omega,by rw[d7c];exact hL,?_,fun q q0 q1=>?_⟩,by dsimp only;omega⟩,fun h=>⟨⟨by omega,by omega⟩,⟨i0,by omega,by omega,hL,?_,fun q q0 q1=>hq q (by omega) q1⟩,by dsimp only;omega⟩⟩⟩
     . rw[show(i+1).toNat=i.toNat+1 by omega,take_set (by omega),fi,if_pos (by rw[d4W]at h;rw[h];rfl),hl]
     . rw[a8K _ (by omega) (by omega) (by omega)];exact hq q (by omega) q1
     . rw[fi,if_neg (by rw[d4i.1 h];decide),hl]
   . have e2:y.take j.toNat=y:=d4M (by omega);rw[e2]at hl;refine⟨by omega,by omega,by omega,?_,?_⟩
     . simp only[d4o,d4I,d5o,d6p];omega
     . rw[a6P (by omega),hl]
 . rintro z hz;have zl:z.length<=y.length:=by rw[hz];exact d7w _ _
   rw[hz]at zl ⊢;exact⟨by omega,hT,by rw[b3f];omega,rfl,rfl⟩
def Nti:Env:=c9t.kD 26 (r38.c (rI.c (rI.c .n))) (.acc 26) (.err) (fun y=>[a2i y.1.Main,(0<=A2 y.1.Main/\A2 y.1.Main<=400000000000),(0<=y.2.1/\y.2.1<315537897600),(0<=y.2.2.1/\y.2.2.1<315537897600),b0U (tmA 105 y.1 y.2.1 y.2.2.1)]) (fun y=>((R5 105 y.1 y.2.1 y.2.2.1).1:List Tm)) (fun y=>((R5 105 y.1 y.2.1 y.2.2.1).2:l8))
def Nti_ok:c8 Nti:=NI58_ok.kD Tryz.call26 Tryz.func26 (inlHN_ok NI58_ok H0_ok anti 5) (an:=anti 26) (fun _=>rfl) fun y ho=>kc (pti y.1 y.2.1 y.2.2.1 ho.1 ho.2.1 ho.2.2.1 ho.2.2.2.1 ho.2.2.2.2.1) (by kernel_rfl)
open Go.Proofs Go.RowKit
def rd_ok{Z:Nat->Prop}{w:World}{cs:List Value}{x:Tm}(h:dTm.rd Z w cs x):cs=a1I x/\okT x:=by obtain⟨c0,_,rfl,⟨d0,_,rfl,g0,d1,d2,rfl,g1,g2⟩,c1,_,rfl,h1,c2,_,rfl,h2,c3,_,rfl,h3,c4,c5,rfl,h4,h5⟩:=h;have k0:=g0.1;have k1:=g1.1;have k2:=g2.1;have e1:=h1.1;have e2:=h2.1;have e3:=h3.1;have e4:c4=_:=h4;have e5:c5=_:=h5;subst k0 k1 k2 e1 e2 e3 e4 e5;exact⟨rfl,g0.2,g1.2,g2.2,h1.2,h2.2,h3.2⟩
def c5p{x:Tm}(h:okT x)(Z:Nat->Prop)(w:World):dTm.rd Z w (a1I x) x:=by obtain⟨a,b,c,d,e,f⟩:=h;exact⟨_,_,rfl,⟨_,_,rfl,⟨rfl,a⟩,_,_,rfl,⟨rfl,b⟩,⟨rfl,c⟩⟩,_,_,rfl,⟨rfl,d⟩,_,_,rfl,⟨rfl,e⟩,_,_,rfl,⟨rfl,f⟩,_,_,rfl,rfl,rfl⟩
def c6y(emp:Bool)(t:Tm)(w:World):(Instr.checkKey emp 10000 26 (P4 t)).run Tryz.prog w=.ok () w:=by kernel_rfl
def c1r(w:World):(underlying 114).run Tryz.prog w=.ok (.map 26 4) w:=by kernel_rfl
def c8a(t:Tm):Instr.sameBits 10000 (P4 t) (P4 t)=true:=by
 have h:∀n,Instr.sameBits (n+1) (P4 t) (P4 t)=true:=fun n=>by simp[P4,a1I,Instr.sameBits]
 exact h 9999
def d3R{a b:Tm}(ha:okT a)(hb:okT b)(w:World):(Op.equal 26 (P4 a) (P4 b)).run Tryz.prog w=.ok (decide (a=b)) w:=by
 have hv:b2k E0 4 26 (y26.sv a) (y26.sv b)=some ⟨(a.Day.Year=b.Day.Year/\a.Day.Month=b.Day.Month/\a.Day.Date=b.Day.Date/\True)/\a.Hour=b.Hour/\a.Min=b.Min/\a.D5=b.D5/\(a.n9=true↔b.n9=true)/\(a.UTC=true↔b.UTC=true)/\True,inferInstance⟩:=by kernel_rfl
 have h:=eqVal_ok (E:=E0) (ρ:=fun _=>none) (Z:=fun _=>False) (w:=w) 4 26 (y26.sv a) (y26.sv b) _ _ (P4 a) (P4 b) hv (y26.sv_ok (c5p ha _ w)) (y26.sv_ok (c5p hb _ w)) 9996 w;refine Eq.trans h ?_;congr 1;exact d5c.2 teq
def a1D:List (Tm×Bool)->Tm->Nat->Option (Nat×Value)
 |[],_,_=>none
 |p::r,t,i=>if t=p.1 then some (i,.bool p.2)else a1D r t (i+1)
def c56{t:Tm}(ht:okT t)(w:World):∀(es:List MapEntry) (x:List (Tm×Bool)) (i:Nat),es.map prM=(x.map fun p=>(P4 p.1,Value.bool p.2))->(∀p∈x,okT p.1)->(Instr.findAsking 26 (P4 t) es i).run Tryz.prog w=.ok (a1D x t i) w
 |[],x,i,h,_=>by
  cases x with
  |nil=>rfl
  |cons p r=>simp at h
 |e::es,x,i,h,hx=>by
  cases x with
  |nil=>simp at h
  |cons p r =>
   simp only[d5C,d6l,prM,d4O]at h;obtain⟨⟨h1,h2⟩,h3⟩:=h;simp only[Instr.findAsking,d4n,h1,d3R ht (hx p (by simp)),d4l,a1D];by_cases e:t=p.1
   . rw[d4u e,if_pos rfl,if_pos e,h2];rfl
   . rw[d4F e,if_neg d5i,if_neg e];exact c56 ht w es r (i+1) h3 fun q hq=>hx q (by simp[hq])
def c6H(w:World):∃fs,(underlying 26).run Tryz.prog w=.ok (.struct fs) w:=by
 have h:(match Tryz.prog.underlying 26 with|some (.struct _)=>true|_=>false)=true:=by kernel_rfl
 cases hu:Tryz.prog.underlying 26 with
 |none=>rw[hu]at h;cases h
 |some d =>
  rw[hu]at h;cases d <;> first|cases h;done|exact⟨_,J7 hu w⟩
def c0O{t:Tm}(ht:okT t)(w:World){es:List MapEntry}{x:List (Tm×Bool)}(h:es.map prM=(x.map fun p=>(P4 p.1,Value.bool p.2)))(hx:∀p∈x,okT p.1):(Instr.findKey 26 (P4 t) es).run Tryz.prog w=.ok (a1D x t 0) w:=by
 obtain⟨fs,hf⟩:=c6H w;simp only[Instr.findKey,d4n,hf,d4l];cases es with
 |nil =>
  cases x with
  |nil=>rfl
  |cons p r=>simp at h
 |cons e es=>exact c56 ht w (e::es) x 0 h hx
def b1f(t:Tm):∀(x:List (Tm×Bool)) (i:Nat),(match a1D x t i with|some (_,v)=>v|none=>.bool false)=Value.bool (getM x t)
 |[],_=>rfl
 |p::r,i=>by
  rw[a1D,getM];by_cases e:t=p.1
  . rw[if_pos e,if_pos e]
  . rw[if_neg e,if_neg e];exact b1f t r (i+1)
def d1X(w:World):(zeroValue 4).run Tryz.prog w=.ok (.bool false) w:=by kernel_rfl
def c6e{w w1:World}{b:Nat}{x:List (Tm×Bool)}{t:Tm}(h:b63 w b x)(ht:okT t)(hs:F3 w w1):(Instr.lookup 114 (.map (some b)) (P4 t) false).run Tryz.prog w1=.ok (.bool (getM x t)) w1:=by
 obtain⟨es,clk,hh,hp,hx⟩:=h;have hh1:w1.heap[b]?=some (.map es clk):=by rw[F3.heap hs];exact hh
 simp only[Instr.lookup,d4n,c1r,d4l,a3L hh1 (by simp),d5d,c6y,c0O ht w1 hp hx];have e:=b1f t x 0;cases hf:a1D x t 0 with
 |none =>
  rw[hf]at e;simp only[d4n,d1X,d4l,d5d,d5m,if_false,<- e]
 |some q =>
  rw[hf]at e;simp only[d4n,d5d,d4l,d5m,if_false,<- e]
def b2H{t:Tm}{v:Bool}:∀{es:List MapEntry}{x:List (Tm×Bool)}{i:Nat}{q:Nat×Value},es.map prM=(x.map fun p=>(P4 p.1,Value.bool p.2))->a1D x t i=some q->∃j,q.1=i+j/\((es[j]?).map (·.key)).getD (P4 t)=P4 t/\((es.modify j fun e=>{ e with key:=P4 t,val:=.bool v }).map prM)=((a36 x t v).map fun p=>(P4 p.1,Value.bool p.2))
 |es,[],i,q,h,hf=>by cases hf
 |[],p::r,i,q,h,hf=>by simp at h
 |e::es,p::r,i,q,h,hf=>by
  simp only[d5C,d6l,prM,d4O]at h;obtain⟨⟨h1,h2⟩,h3⟩:=h;rw[a1D]at hf;rw[a36];by_cases e0:t=p.1
  . rw[if_pos e0]at hf;cases hf;refine⟨0,rfl,by simp[h1,e0],?_⟩;rw[if_pos e0];simp only[List.modify_zero_cons,d5C,prM];exact congrArg _ h3
  . rw[if_neg e0]at hf;obtain⟨j,g1,g2,g3⟩:=b2H h3 hf;refine⟨j+1,by omega,by simpa using g2,?_⟩;rw[if_neg e0];simp only[List.modify_succ_cons,d5C,prM,h1,h2];exact congrArg _ g3
def b2i{t:Tm}{v:Bool}:∀{x:List (Tm×Bool)}{i:Nat},a1D x t i=none->a36 x t v=x++[(t,v)]
 |[],_,_=>rfl
 |p::r,i,h=>by
  rw[a1D]at h;by_cases e:t=p.1
  . rw[if_pos e]at h;cases h
  . rw[if_neg e]at h;rw[a36,if_neg e,b2i h];rfl
def put_ok{t:Tm}{v:Bool}(ht:okT t):∀{x:List (Tm×Bool)},(∀p∈x,okT p.1)->∀p∈a36 x t v,okT p.1
 |[],_,p,hp=>by rw[a36,d4q]at hp;rw[hp];exact ht
 |q::r,hx,p,hp=>by
  rw[a36]at hp;split at hp
  . rcases d4B.1 hp with e|e
    . rw[e];exact ht
    . exact hx p (by simp[e])
  . rcases d4B.1 hp with e|e
    . rw[e];exact hx q (by simp)
    . exact put_ok ht (fun p hp=>hx p (by simp[hp])) p e
def c9k{w:World}{b:Nat}{x:List (Tm×Bool)}{t:Tm}{v:Bool}(h:b63 w b x)(ht:okT t):∃w',Ext [b] w w'/\b63 w' b (a36 x t v)/\∀k,(Instr.mapUpdate 114 (.map (some b)) (P4 t) (.bool v)).run Tryz.prog { w with drawn:=k }=.ok () { w' with drawn:=k }:=by
 obtain⟨es,clk,hh,hp,hx⟩:=h;have hstay:∀w,(Instr.keyThatStays (P4 t) (P4 t)).run Tryz.prog w=.ok (P4 t) w:=fun w=>by simp only[Instr.keyThatStays,c8a,if_true];rfl
 cases hf:a1D x t 0 with
 |some q =>
  obtain⟨j,g1,g2,g3⟩:=b2H (v:=v) hp hf;have hq:q=(j,q.2):=by rw[<- show q.1=j by omega]
  refine⟨{ w with heap:=w.heap.setIfInBounds b (.map (es.modify j fun e=>{ e with key:=P4 t,val:=.bool v }) clk) },Ext.setObj w b _,⟨_,clk,a7V hh,by simpa using g3,put_ok ht hx⟩,fun k=>?_⟩;have g2':((es[j]?).map (·.key)).getD (P4 t)=P4 t:=by simpa using g2
  simp only[Instr.mapUpdate,d4n,c1r,d4l,a3L (w:={ w with drawn:=k }) hh (by simp),c6y,c0O ht { w with drawn:=k } hp hx,hf];rw[hq];simp only[d4n,g2',hstay,d4l,a7y (w:={ w with drawn:=k }) hh (by simp)]
 |none =>
  refine⟨{ w with heap:=w.heap.setIfInBounds b (.map (es.push { key:=P4 t,val:=.bool v,born:=clk }) (clk+1)) },Ext.setObj w b _,⟨_,clk+1,a7V hh,?_,put_ok ht hx⟩,fun k=>?_⟩
  . rw[b2i hf];simp[hp,prM]
  . simp only[Instr.mapUpdate,d4n,c1r,d4l,a3L (w:={ w with drawn:=k }) hh (by simp),c6y,c0O ht { w with drawn:=k } hp hx,hf,a7y (w:={ w with drawn:=k }) hh (by simp)]
def keyOf(sk:SV U):Option Tm:=match sk with
 |.agg ls=>y26.bk (.agg ls)
 |_=>none
def b5o{ρ:o5}{Z:Nat->Prop}{w:World}{vk:Value}{sk:SV U}{t:Tm}(h:e7 U eT ρ Z w vk sk)(hb:keyOf sk=some t):vk=P4 t/\okT t:=by
 cases sk with
 |agg ls =>
  obtain⟨cs,rfl,hl⟩:=e7.E1 h;obtain⟨e,ho⟩:=rd_ok (y26.bk_ok (s:=.agg ls) hl hb);exact⟨by rw[e];rfl,ho⟩
 |_=>cases hb
def c0q{ρ:o5}{Z:Nat->Prop}{w:World}{v:Value}{s:SV U}{p:Prop}{d:Decidable p}(h:e7 U eT ρ Z w v s)(hp:prop s=some ⟨p,d⟩):v=.bool (@decide p d):=by cases h <;> first|(cases hp;done)|(cases hp;rfl)
def moT:MO Tryz.prog U eT 114 where
 k:=2
 emp:=([]:List (Tm×Bool))
 get:=fun(x:List (Tm×Bool)) sk=>(keyOf sk).map fun t=>I0 (getM x t)
 put:=fun(x:List (Tm×Bool)) sk s=>(keyOf sk).bind fun t=>(match prop s with|some ⟨p,d⟩=>some (a36 x t (@decide p d))|none=>none)
 new:=fun Z w b h=>⟨rfl,#[],0,h,rfl,fun _ h=>by cases h⟩
 look:=fun{ρ Z w b x F vk sk v'} h hk hg=>by obtain⟨t,hb,rfl⟩:=d4w.1 hg;obtain⟨rfl,ht⟩:=b5o hk hb;exact⟨.bool (getM x t),ClX.bl,fun w1 hs=>c6e h.2 ht hs⟩
 D2:=fun{ρ Z w b x x' F vk v sk s} h hk hv hg=>by
  obtain⟨t,hb,hg⟩:=d4y.1 hg;obtain⟨rfl,ht⟩:=b5o hk hb;split at hg
  . rename_i p d hp;cases hg;rw[c0q hv hp];obtain⟨hF,hm⟩:=h;subst hF;obtain⟨w',hx,hm',hr⟩:=c9k (v:=@decide p d) hm ht;exact⟨w',[b],⟨hx,fun b hb=>.inl hb⟩,⟨rfl,hm'⟩,fun w1 hs=>by obtain⟨k,rfl⟩:=hs;exact⟨_,hr k,⟨k,rfl⟩⟩⟩
  . cases hg
def N61:Env:=(Nti).c2F 114 moT
def N61_ok:c8 N61:=Nti_ok.c2F moT
end Go.Proofs.YtapnoejokajcoaaGreatDoor
