/- 18 texts, one behind the other. -/
import Derived.Test.YtapnoejokajcoaaGreatDoorV6
import Derived.Test.YtapnoejokajcoaaGreatDoorV3
import Derived.Test.YtapnoejokajcoaaGreatDoorV8
import Derived.Test.YtapnoejokajcoaaGreatDoorRows
import Derived.Test.YtapnoejokajcoaaGreatDoorV1
import Derived.ChangeSame
import Derived.ChangeVars
import Derived.JoinedOf
import Derived.RowKit
import Derived.RowKit2
import Derived.Carry
import Derived.ProofKit
import Derived.RowKitTokens
import Derived.LaidLaws
import Derived.LaidHandle
import Derived.Lay
import Derived.LaidMore
import Derived.Lib.LaidU8
import Derived.Stop.Joined
import Derived.Shelf.Vars
import Derived.Deep.DeepHandedRow
import Derived.Deep.DeepWitnessRowRef
import Derived.JoinedCond
set_option linter.defProp false
set_option linter.unusedVariables false
set_option linter.unusedSimpArgs false
set_option maxRecDepth 100000
noncomputable section
def d7e:=@exists_eq_or_imp
def d8e:=@List.sum_cons
namespace Go.Proofs.YtapnoejokajcoaaGreatDoor
open Go Go.Wk Go.Wl Go.Rx Go.Re Go.Li Go.Qu Go.Fo Go.Proofs Go.RowKit
def rd_ok{Z:Nat->Prop}{w:World}{cs:List Value}{x:Tm}(h:dTm.rd Z w cs x):cs=a1D x/\okT x:=by obtain⟨c0,_,rfl,⟨d0,_,rfl,g0,d1,d2,rfl,g1,g2⟩,c1,_,rfl,h1,c2,_,rfl,h2,c3,_,rfl,h3,c4,c5,rfl,h4,h5⟩:=h;have k0:=g0.1;have k1:=g1.1;have k2:=g2.1;have e1:=h1.1;have e2:=h2.1;have e3:=h3.1;have e4:c4=_:=h4;have e5:c5=_:=h5;subst k0 k1 k2 e1 e2 e3 e4 e5;exact⟨rfl,g0.2,g1.2,g2.2,h1.2,h2.2,h3.2⟩
def c5z{x:Tm}(h:okT x)(Z:Nat->Prop)(w:World):dTm.rd Z w (a1D x) x:=by obtain⟨a,b,c,d,e,f⟩:=h;exact⟨_,_,rfl,⟨_,_,rfl,⟨rfl,a⟩,_,_,rfl,⟨rfl,b⟩,⟨rfl,c⟩⟩,_,_,rfl,⟨rfl,d⟩,_,_,rfl,⟨rfl,e⟩,_,_,rfl,⟨rfl,f⟩,_,_,rfl,rfl,rfl⟩
def c6H(emp:Bool)(t:Tm)(w:World):(Instr.checkKey emp 10000 26 (P5 t)).run Tryz.prog w=.ok () w:=by kernel_rfl
def c1E(w:World):(underlying 114).run Tryz.prog w=.ok (.map 26 4) w:=by kernel_rfl
def c8j(t:Tm):Instr.sameBits 10000 (P5 t) (P5 t)=true:=by
 have h:∀n,Instr.sameBits (n+1) (P5 t) (P5 t)=true:=fun n=>by simp[P5,a1D,Instr.sameBits]
 exact h 9999
def d4e{a b:Tm}(ha:okT a)(hb:okT b)(w:World):(Op.equal 26 (P5 a) (P5 b)).run Tryz.prog w=.ok (decide (a=b)) w:=by
 have hv:b2o E0 4 26 (y26.sv a) (y26.sv b)=some ⟨(a.Day.Year=b.Day.Year/\a.Day.Month=b.Day.Month/\a.Day.Date=b.Day.Date/\True)/\a.Hour=b.Hour/\a.Min=b.Min/\a.D6=b.D6/\(a.l9=true↔b.l9=true)/\(a.UTC=true↔b.UTC=true)/\True,inferInstance⟩:=by kernel_rfl
 have h:=eqVal_ok (E:=E0) (ρ:=fun _=>none) (Z:=fun _=>False) (w:=w) 4 26 (y26.sv a) (y26.sv b) _ _ (P5 a) (P5 b) hv (y26.sv_ok (c5z ha _ w)) (y26.sv_ok (c5z hb _ w)) 9996 w;refine Eq.trans h ?_;congr 1;exact d5o.2 teq
def a1A:List (Tm×Bool)->Tm->Nat->Option (Nat×Value)
 |[],_,_=>none
 |p::r,t,i=>if t=p.1 then some (i,.bool p.2)else a1A r t (i+1)
def c5h{t:Tm}(ht:okT t)(w:World):∀(es:List MapEntry) (x:List (Tm×Bool)) (i:Nat),es.map prM=(x.map fun p=>(P5 p.1,Value.bool p.2))->(∀p∈x,okT p.1)->(Instr.findAsking 26 (P5 t) es i).run Tryz.prog w=.ok (a1A x t i) w
 |[],x,i,h,_=>by
  cases x with
  |nil=>rfl
  |cons p r=>simp at h
 |e::es,x,i,h,hx=>by
  cases x with
  |nil=>simp at h
  |cons p r =>
   simp only[d5H,d6y,prM,d5c]at h;obtain⟨⟨h1,h2⟩,h3⟩:=h;simp only[Instr.findAsking,d4A,h1,d4e ht (hx p (by simp)),d4y,a1A];by_cases e:t=p.1
   . rw[d4K e,if_pos rfl,if_pos e,h2];rfl
   . rw[d4T e,if_neg d5q,if_neg e];exact c5h ht w es r (i+1) h3 fun q hq=>hx q (by simp[hq])
def c6P(w:World):∃fs,(underlying 26).run Tryz.prog w=.ok (.struct fs) w:=by
 have h:(match Tryz.prog.underlying 26 with|some (.struct _)=>true|_=>false)=true:=by kernel_rfl
 cases hu:Tryz.prog.underlying 26 with
 |none=>rw[hu]at h;cases h
 |some d =>
  rw[hu]at h;cases d <;> first|cases h;done|exact⟨_,K2 hu w⟩
def c12{t:Tm}(ht:okT t)(w:World){es:List MapEntry}{x:List (Tm×Bool)}(h:es.map prM=(x.map fun p=>(P5 p.1,Value.bool p.2)))(hx:∀p∈x,okT p.1):(Instr.findKey 26 (P5 t) es).run Tryz.prog w=.ok (a1A x t 0) w:=by
 obtain⟨fs,hf⟩:=c6P w;simp only[Instr.findKey,d4A,hf,d4y];cases es with
 |nil =>
  cases x with
  |nil=>rfl
  |cons p r=>simp at h
 |cons e es=>exact c5h ht w (e::es) x 0 h hx
def b1k(t:Tm):∀(x:List (Tm×Bool)) (i:Nat),(match a1A x t i with|some (_,v)=>v|none=>.bool false)=Value.bool (getM x t)
 |[],_=>rfl
 |p::r,i=>by
  rw[a1A,getM];by_cases e:t=p.1
  . rw[if_pos e,if_pos e]
  . rw[if_neg e,if_neg e];exact b1k t r (i+1)
def d2j(w:World):(zeroValue 4).run Tryz.prog w=.ok (.bool false) w:=by kernel_rfl
def c6o{w w1:World}{b:Nat}{x:List (Tm×Bool)}{t:Tm}(h:b6c w b x)(ht:okT t)(hs:F4 w w1):(Instr.lookup 114 (.map (some b)) (P5 t) false).run Tryz.prog w1=.ok (.bool (getM x t)) w1:=by
 obtain⟨es,clk,hh,hp,hx⟩:=h;have hh1:w1.heap[b]?=some (.map es clk):=by rw[F4.heap hs];exact hh
 simp only[Instr.lookup,d4A,c1E,d4y,a3M hh1 (by simp),d5p,c6H,c12 ht w1 hp hx];have e:=b1k t x 0;cases hf:a1A x t 0 with
 |none =>
  rw[hf]at e;simp only[d4A,d2j,d4y,d5p,d5A,if_false,<- e]
 |some q =>
  rw[hf]at e;simp only[d4A,d5p,d4y,d5A,if_false,<- e]
def b2L{t:Tm}{v:Bool}:∀{es:List MapEntry}{x:List (Tm×Bool)}{i:Nat}{q:Nat×Value},es.map prM=(x.map fun p=>(P5 p.1,Value.bool p.2))->a1A x t i=some q->∃j,q.1=i+j/\((es[j]?).map (·.key)).getD (P5 t)=P5 t/\((es.modify j fun e=>{ e with key:=P5 t,val:=.bool v }).map prM)=((a2Z x t v).map fun p=>(P5 p.1,Value.bool p.2))
 |es,[],i,q,h,hf=>by cases hf
 |[],p::r,i,q,h,hf=>by simp at h
 |e::es,p::r,i,q,h,hf=>by
  simp only[d5H,d6y,prM,d5c]at h;obtain⟨⟨h1,h2⟩,h3⟩:=h;rw[a1A]at hf;rw[a2Z];by_cases e0:t=p.1
  . rw[if_pos e0]at hf;cases hf;refine⟨0,rfl,by simp[h1,e0],?_⟩;rw[if_pos e0];simp only[List.modify_zero_cons,d5H,prM];exact congrArg _ h3
  . rw[if_neg e0]at hf;obtain⟨j,g1,g2,g3⟩:=b2L h3 hf;refine⟨j+1,by omega,by simpa using g2,?_⟩;rw[if_neg e0];simp only[List.modify_succ_cons,d5H,prM,h1,h2];exact congrArg _ g3
def b2m{t:Tm}{v:Bool}:∀{x:List (Tm×Bool)}{i:Nat},a1A x t i=none->a2Z x t v=x++[(t,v)]
 |[],_,_=>rfl
 |p::r,i,h=>by
  rw[a1A]at h;by_cases e:t=p.1
  . rw[if_pos e]at h;cases h
  . rw[if_neg e]at h;rw[a2Z,if_neg e,b2m h];rfl
def put_ok{t:Tm}{v:Bool}(ht:okT t):∀{x:List (Tm×Bool)},(∀p∈x,okT p.1)->∀p∈a2Z x t v,okT p.1
 |[],_,p,hp=>by rw[a2Z,d4D]at hp;rw[hp];exact ht
 |q::r,hx,p,hp=>by
  rw[a2Z]at hp;split at hp
  . rcases d4P.1 hp with e|e
    . rw[e];exact ht
    . exact hx p (by simp[e])
  . rcases d4P.1 hp with e|e
    . rw[e];exact hx q (by simp)
    . exact put_ok ht (fun p hp=>hx p (by simp[hp])) p e
def c9v{w:World}{b:Nat}{x:List (Tm×Bool)}{t:Tm}{v:Bool}(h:b6c w b x)(ht:okT t):∃w',Ext [b] w w'/\b6c w' b (a2Z x t v)/\∀k,(Instr.mapUpdate 114 (.map (some b)) (P5 t) (.bool v)).run Tryz.prog { w with drawn:=k }=.ok () { w' with drawn:=k }:=by
 obtain⟨es,clk,hh,hp,hx⟩:=h;have hstay:∀w,(Instr.keyThatStays (P5 t) (P5 t)).run Tryz.prog w=.ok (P5 t) w:=fun w=>by simp only[Instr.keyThatStays,c8j,if_true];rfl
 cases hf:a1A x t 0 with
 |some q =>
  obtain⟨j,g1,g2,g3⟩:=b2L (v:=v) hp hf;have hq:q=(j,q.2):=by rw[<- show q.1=j by omega]
  refine⟨{ w with heap:=w.heap.setIfInBounds b (.map (es.modify j fun e=>{ e with key:=P5 t,val:=.bool v }) clk) },Ext.setObj w b _,⟨_,clk,a7X hh,by simpa using g3,put_ok ht hx⟩,fun k=>?_⟩;have g2':((es[j]?).map (·.key)).getD (P5 t)=P5 t:=by simpa using g2
  simp only[Instr.mapUpdate,d4A,c1E,d4y,a3M (w:={ w with drawn:=k }) hh (by simp),c6H,c12 ht { w with drawn:=k } hp hx,hf];rw[hq];simp only[d4A,g2',hstay,d4y,a7z (w:={ w with drawn:=k }) hh (by simp)]
 |none =>
  refine⟨{ w with heap:=w.heap.setIfInBounds b (.map (es.push { key:=P5 t,val:=.bool v,born:=clk }) (clk+1)) },Ext.setObj w b _,⟨_,clk+1,a7X hh,?_,put_ok ht hx⟩,fun k=>?_⟩
  . rw[b2m hf];simp[hp,prM]
  . simp only[Instr.mapUpdate,d4A,c1E,d4y,a3M (w:={ w with drawn:=k }) hh (by simp),c6H,c12 ht { w with drawn:=k } hp hx,hf,a7z (w:={ w with drawn:=k }) hh (by simp)]
def keyOf(sk:SV U):Option Tm:=match sk with
 |.agg ls=>y26.bk (.agg ls)
 |_=>none
def b5w{ρ:o7}{Z:Nat->Prop}{w:World}{vk:Value}{sk:SV U}{t:Tm}(h:e7 U eT ρ Z w vk sk)(hb:keyOf sk=some t):vk=P5 t/\okT t:=by
 cases sk with
 |agg ls =>
  obtain⟨cs,rfl,hl⟩:=e7.E2 h;obtain⟨e,ho⟩:=rd_ok (y26.bk_ok (s:=.agg ls) hl hb);exact⟨by rw[e];rfl,ho⟩
 |_=>cases hb
def c0D{ρ:o7}{Z:Nat->Prop}{w:World}{v:Value}{s:SV U}{p:Prop}{d:Decidable p}(h:e7 U eT ρ Z w v s)(hp:prop s=some ⟨p,d⟩):v=.bool (@decide p d):=by cases h <;> first|(cases hp;done)|(cases hp;rfl)
def moT:MO Tryz.prog U eT 114 where
 k:=2
 emp:=([]:List (Tm×Bool))
 get:=fun(x:List (Tm×Bool)) sk=>(keyOf sk).map fun t=>H9 (getM x t)
 put:=fun(x:List (Tm×Bool)) sk s=>(keyOf sk).bind fun t=>(match prop s with|some ⟨p,d⟩=>some (a2Z x t (@decide p d))|none=>none)
 new:=fun Z w b h=>⟨rfl,#[],0,h,rfl,fun _ h=>by cases h⟩
 look:=fun{ρ Z w b x F vk sk v'} h hk hg=>by obtain⟨t,hb,rfl⟩:=d4I.1 hg;obtain⟨rfl,ht⟩:=b5w hk hb;exact⟨.bool (getM x t),ClX.bl,fun w1 hs=>c6o h.2 ht hs⟩
 D3:=fun{ρ Z w b x x' F vk v sk s} h hk hv hg=>by
  obtain⟨t,hb,hg⟩:=d4L.1 hg;obtain⟨rfl,ht⟩:=b5w hk hb;split at hg
  . rename_i p d hp;cases hg;rw[c0D hv hp];obtain⟨hF,hm⟩:=h;subst hF;obtain⟨w',hx,hm',hr⟩:=c9v (v:=@decide p d) hm ht;exact⟨w',[b],⟨hx,fun b hb=>.inl hb⟩,⟨rfl,hm'⟩,fun w1 hs=>by obtain⟨k,rfl⟩:=hs;exact⟨_,hr k,⟨k,rfl⟩⟩⟩
  . cases hg
def N61:Env:=(Nti).c2O 114 moT
def N61_ok:c8 N61:=Nti_ok.c2O moT
end Go.Proofs.YtapnoejokajcoaaGreatDoor
namespace Go.Qu
open Go Go.Wk Go.Wl Go.Rx Go.Re Go.Li Go.Fo
noncomputable section
def K5(x:Q8):Tm:=(ix x.n9 0).Time
def ovM(qa:Nat)(o:F3):List (Tm×Bool)->List Q8->List (Tm×Bool)×n5
 |m,[]=>(m,.nil)
 |m,x::r=>if(a02 qa o (K5 x)).2=.nil then ovM qa o (a2Z m (K5 x) (a02 qa o (K5 x)).1) r else(m,(a02 qa o (K5 x)).2)
abbrev Wn:=List Ins×Bool
def mkI(s:Tm)(n:Int)(k:Tm)(v:Bool):Ins:=⟨s,K8 (b8 s+n) s,k,v⟩
def J0(a b:Int)(w:Wn)(s:Tm)(n:Int)(k:Tm)(v:Bool):Wn:=
 if b<=b8 s∨(b8 s+n<=a/\(0<n∨b8 s<a))then w else
 if(K8 (b8 s+n) s).Day.Year=0 then(w.1,true)else(w.1++[mkI s n k v],w.2)
def moI(o:F3)(t:Tm):I9:=⟨t,o.Main.Start.I3⟩
def ga1(qa:Nat)(o:F3)(a b:Int)(mp:List (Tm×Bool)):Wn->List Tm->Wn×n5
 |w,[]=>(w,.nil)
 |w,t::r=>if getM mp t=true then ga1 qa o a b mp w r else
  if(A0 qa o (moI o t)).2=.nil then ga1 qa o a b mp (J0 a b w (A0 qa o (moI o t)).1 (D2 o.Main) t false) r else(w,(A0 qa o (moI o t)).2)
def ga2(qa:Nat)(o:F3)(a b:Int)(mp:List (Tm×Bool)):Wn->List Q8->Wn×n5
 |w,[]=>(w,.nil)
 |w,x::r=>if ¬getM mp (K5 x)=true then ga2 qa o a b mp w r else
  if(A0 qa o x.Start).2=.nil then ga2 qa o a b mp (J0 a b w (A0 qa o x.Start).1 (D2 x) (K5 x) true) r else(w,(A0 qa o x.Start).2)
def gaS(qa:Nat)(o:F3)(a b:Int):Wn×n5:=
 if(ovM qa o [] o.Over).2=.nil then
  if(R4 qa o a b).2=.nil then
   if(ga1 qa o a b (ovM qa o [] o.Over).1 ([],false) (R4 qa o a b).1).2=.nil then ga2 qa o a b (ovM qa o [] o.Over).1 (ga1 qa o a b (ovM qa o [] o.Over).1 ([],false) (R4 qa o a b).1).1 o.Over
   else ga1 qa o a b (ovM qa o [] o.Over).1 ([],false) (R4 qa o a b).1
  else(([],false),(R4 qa o a b).2)
 else(([],false),(ovM qa o [] o.Over).2)
def c2x(o:F3)(f t:Tm):Prop:=a0t o/\p6 f=true/\p6 t=true/\f.UTC=true/\t.UTC=true/\b8 f<=b8 t
open Classical in
def N1(qa:Nat)(o:F3)(f t:Tm):List Ins×n5:=
 if c2x o f t then
  if(R4 qa o (b8 f) (b8 t)).2=.nil then
   if(gaS qa o (b8 f) (b8 t)).2=.nil then
    if(gaS qa o (b8 f) (b8 t)).1.2=true then([],.no 3)else
    if 1000<(gaS qa o (b8 f) (b8 t)).1.1.length then([],.no 16)else
    (a6R (gaS qa o (b8 f) (b8 t)).1.1,.nil)
   else([],V2 (gaS qa o (b8 f) (b8 t)).2)
  else([],V2 (R4 qa o (b8 f) (b8 t)).2)
 else([],.no 2)
def d3h(l:List Ins):Prop:=∀x∈l,∀y∈l,b8 x.Start=b8 y.Start->b8 x.j8=b8 y.j8->x=y
def b1e(a b:Int)(w:Wn)(s:Tm)(n:Int)(k:Tm)(v:Bool):(J0 a b w s n k v).1.length<=w.1.length+1:=by
 unfold J0;split
 . omega
 . split
   . dsimp only;omega
   . rw[d4B];exact d4O _
def c0Z(l:List Ins):(a6R l).length=l.length:=(d5W l _).length_eq
def a6E{l:List Ins}{x:Ins}:x∈a6R l↔x∈l:=(d5W l _).mem_iff
end
end Go.Qu
namespace Go.Proofs.YtapnoejokajcoaaGreatDoor
open Go Go.Wk Go.Wl Go.Rx Go.Re Go.Li Go.Qu Go.Fo 
attribute [local irreducible] i7
def c5u:Nat->D1:=fun|65=>⟨68,nn,nn⟩|_=>⟨0,nn,nn⟩
def c8C(sy:Int)(sm:Int)(sd:Int)(sh:Int)(si:Int)(ss:Int)(sb:Prop)(sB:Decidable sb)(su:Prop)(sV:Decidable su)(n:Int)(ky:Int)(km:Int)(kd:Int)(kh:Int)(ki:Int)(ks:Int)(kb:Prop)(kB:Decidable kb)(ku:Prop)(kV:Decidable ku)(a:Int)(b:Int)(pc:Prop)(dc:Decidable pc)(l:List Ins)(Q:Int->Int->List Ins->Bool->Prop):Prop:=
(¬b<=b8 (Tm.mk (Dy.mk sy sm sd) sh si ss (decide sb) (decide su))->c6 (b8 (Tm.mk (Dy.mk sy sm sd) sh si ss (decide sb) (decide su))+n))/\(bR (b<=b8 (Tm.mk (Dy.mk sy sm sd) sh si ss (decide sb) (decide su))∨b8 (Tm.mk (Dy.mk sy sm sd) sh si ss (decide sb) (decide su))+n<=a/\(0<n∨b8 (Tm.mk (Dy.mk sy sm sd) sh si ss (decide sb) (decide su))<a)) (Q a b l (decide pc)) (c6 (b8 (Tm.mk (Dy.mk sy sm sd) sh si ss (decide sb) (decide su))+n)/\b8 (Tm.mk (Dy.mk sy sm sd) sh si ss (decide sb) (decide su))+n<=9000000000000000000/\(bR ((K8 (b8 (Tm.mk (Dy.mk sy sm sd) sh si ss (decide sb) (decide su))+n) (Tm.mk (Dy.mk sy sm sd) sh si ss (decide sb) (decide su))).Day.Year=0) (Q a b l true) ((l.length+[Ins.mk (Tm.mk (Dy.mk sy sm sd) sh si ss (decide sb) (decide su)) (j4 (K8 (b8 (Tm.mk (Dy.mk sy sm sd) sh si ss (decide sb) (decide su))+n) (Tm.mk (Dy.mk sy sm sd) sh si ss (decide sb) (decide su)))) (Tm.mk (Dy.mk ky km kd) kh ki ks (decide kb) (decide ku)) false].length)*(some (176:Nat)).getD (0:Nat)<=140737488355328/\Q a b (l++[Ins.mk (Tm.mk (Dy.mk sy sm sd) sh si ss (decide sb) (decide su)) (j4 (K8 (b8 (Tm.mk (Dy.mk sy sm sd) sh si ss (decide sb) (decide su))+n) (Tm.mk (Dy.mk sy sm sd) sh si ss (decide sb) (decide su)))) (Tm.mk (Dy.mk ky km kd) kh ki ks (decide kb) (decide ku)) false]) (decide pc)))))
def d3I(sy:Int)(sm:Int)(sd:Int)(sh:Int)(si:Int)(ss:Int)(sb:Prop)(sB:Decidable sb)(su:Prop)(sV:Decidable su)(n:Int)(ky:Int)(km:Int)(kd:Int)(kh:Int)(ki:Int)(ks:Int)(kb:Prop)(kB:Decidable kb)(ku:Prop)(kV:Decidable ku)(a:Int)(b:Int)(pc:Prop)(dc:Decidable pc)(l:List Ins)(h1:-1000000000000000<=b8 (Tm.mk (Dy.mk sy sm sd) sh si ss (decide sb) (decide su))+n)(h2:b8 (Tm.mk (Dy.mk sy sm sd) sh si ss (decide sb) (decide su))+n<=1000000000000000)(h3:List.length (α:=Ins) l<=100000):c8C sy sm sd sh si ss sb sB su sV n ky km kd kh ki ks kb kB ku kV a b pc dc l (fun y0 y1 y2 y3=>y0=a/\y1=b/\y2=(J0 a b (l,decide pc) (Tm.mk (Dy.mk sy sm sd) sh si ss (decide sb) (decide su)) n (Tm.mk (Dy.mk ky km kd) kh ki ks (decide kb) (decide ku)) false).1/\y3=(J0 a b (l,decide pc) (Tm.mk (Dy.mk sy sm sd) sh si ss (decide sb) (decide su)) n (Tm.mk (Dy.mk ky km kd) kh ki ks (decide kb) (decide ku)) false).2):=by
 unfold c8C;simp only[y6,A7,B3,C5,C4,C6,C8,C3,B9,D0,B7,d4C];generalize Tm.mk (Dy.mk sy sm sd) sh si ss (decide sb) (decide su)=s at *;generalize Tm.mk (Dy.mk ky km kd) kh ki ks (decide kb) (decide ku)=k at *;have hi:c6 (b8 s+n):=by unfold c6;omega
 refine⟨fun _=>hi,fun h=>?_,fun h=>⟨hi,by omega,fun z=>?_,fun z=>⟨?_,?_⟩⟩⟩
 . have e:J0 a b (l,decide pc) s n k false=(l,decide pc):=by unfold J0;rw[if_pos h]
   rw[e];exact⟨trivial,trivial,rfl,rfl⟩
 . have e:J0 a b (l,decide pc) s n k false=(l,true):=by unfold J0;rw[if_neg h,if_pos z]
   rw[e];exact⟨trivial,trivial,rfl,rfl⟩
 . show(l.length+1)*176<=_;omega
 . have e:J0 a b (l,decide pc) s n k false=(l++[mkI s n k false],decide pc):=by unfold J0;rw[if_neg h,if_neg z]
   rw[e];exact⟨trivial,trivial,rfl,rfl⟩
def d0K(sy:Int)(sm:Int)(sd:Int)(sh:Int)(si:Int)(ss:Int)(sb:Prop)(sB:Decidable sb)(su:Prop)(sV:Decidable su)(n:Int)(ky:Int)(km:Int)(kd:Int)(kh:Int)(ki:Int)(ks:Int)(kb:Prop)(kB:Decidable kb)(ku:Prop)(kV:Decidable ku)(a:Int)(b:Int)(pc:Prop)(dc:Decidable pc)(l:List Ins):FR U:=b4w N61 [-1000000000000000<=b8 (Tm.mk (Dy.mk sy sm sd) sh si ss (decide sb) (decide su))+n,b8 (Tm.mk (Dy.mk sy sm sd) sh si ss (decide sb) (decide su))+n<=1000000000000000,List.length (α:=Ins) l<=100000] [(0,.own 70 [.int .i64 a,.int .i64 b,.acc 1,.bl pc dc]),(1,.ac (N:=U) 48 l)] 4 0 [.tree [] [.own (some 200) 70 [.v (.int .i64),.v (.int .i64),.v (.acc 48),.v (.bool)]]] (((a,b,(J0 a b (l,decide pc) (Tm.mk (Dy.mk sy sm sd) sh si ss (decide sb) (decide su)) n (Tm.mk (Dy.mk ky km kd) kh ki ks (decide kb) (decide ku)) false).1,(J0 a b (l,decide pc) (Tm.mk (Dy.mk sy sm sd) sh si ss (decide sb) (decide su)) n (Tm.mk (Dy.mk ky km kd) kh ki ks (decide kb) (decide ku)) false).2,()),()),())
def b8R:FC U:=⟨[],[],fun a its=>match a,its with|[.ref 0 0,.agg [.int .i64 sy,.int .i64 sm,.int .i64 sd,.int .i64 sh,.int .i64 si,.int .i64 ss,.bl sb sB,.bl su sV],.int .i64 n,.agg [.int .i64 ky,.int .i64 km,.int .i64 kd,.int .i64 kh,.int .i64 ki,.int .i64 ks,.bl kb kB,.bl ku kV],.ff],[(0,.own 70 [.int .i64 a,.int .i64 b,.acc 1,.bl pc dc]),(1,.ac 48 l)]=>some (d0K sy sm sd sh si ss sb sB su sV n ky km kd kh ki ks kb kB ku kV a b pc dc l)|_,_=>none⟩
def fptf_ok(args:List (SV U))(its:c7 U)(r:FR U)(h:b8R.C args its=some r)(ho:p9 r.ob):M1 Tryz.prog U eT Gl 65 args its (2*its.length) (fun k=>p9 r.hy->k r.v r.its r.n):=by
 unfold b8R at h;simp only at h;split at h
 . rename_i sy sm sd sh si ss sb sB su sV n ky km kd kh ki ks kb kB ku kV a b pc dc l;cases h;exact fc_ok (an:=c5u 65) N61_ok (inlHN_ok N61_ok H0_ok c5u 3) Tryz.func65 (n:=0) rfl (vs:=[.tree [] [.own (some 200) 70 [.v (.int .i64),.v (.int .i64),.v (.acc 48),.v (.bool)]]]) (X:=(((a,b,(J0 a b (l,decide pc) (Tm.mk (Dy.mk sy sm sd) sh si ss (decide sb) (decide su)) n (Tm.mk (Dy.mk ky km kd) kh ki ks (decide kb) (decide ku)) false).1,(J0 a b (l,decide pc) (Tm.mk (Dy.mk sy sm sd) sh si ss (decide sb) (decide su)) n (Tm.mk (Dy.mk ky km kd) kh ki ks (decide kb) (decide ku)) false).2,()),()),())) rfl (kc (d3I sy sm sd sh si ss sb sB su sV n ky km kd kh ki ks kb kB ku kV a b pc dc l ho.1 ho.2.1 ho.2.2.1) (by kernel_rfl))
 . cases h
def c6R:Env:=(N61.y8 65 Tryz.f65).a1F 65 b8R
def Nptf_ok:c8 c6R:=(N61_ok.y8 Tryz.call65 Tryz.func65).a1F Tryz.call65 fptf_ok
def c57:Nat->D1:=fun|65=>⟨68,nn,nn⟩|_=>⟨0,nn,nn⟩
def d04(sy:Int)(sm:Int)(sd:Int)(sh:Int)(si:Int)(ss:Int)(sb:Prop)(sB:Decidable sb)(su:Prop)(sV:Decidable su)(n:Int)(ky:Int)(km:Int)(kd:Int)(kh:Int)(ki:Int)(ks:Int)(kb:Prop)(kB:Decidable kb)(ku:Prop)(kV:Decidable ku)(a:Int)(b:Int)(pc:Prop)(dc:Decidable pc)(l:List Ins)(Q:Int->Int->List Ins->Bool->Prop):Prop:=
(¬b<=b8 (Tm.mk (Dy.mk sy sm sd) sh si ss (decide sb) (decide su))->c6 (b8 (Tm.mk (Dy.mk sy sm sd) sh si ss (decide sb) (decide su))+n))/\(bR (b<=b8 (Tm.mk (Dy.mk sy sm sd) sh si ss (decide sb) (decide su))∨b8 (Tm.mk (Dy.mk sy sm sd) sh si ss (decide sb) (decide su))+n<=a/\(0<n∨b8 (Tm.mk (Dy.mk sy sm sd) sh si ss (decide sb) (decide su))<a)) (Q a b l (decide pc)) (c6 (b8 (Tm.mk (Dy.mk sy sm sd) sh si ss (decide sb) (decide su))+n)/\b8 (Tm.mk (Dy.mk sy sm sd) sh si ss (decide sb) (decide su))+n<=9000000000000000000/\(bR ((K8 (b8 (Tm.mk (Dy.mk sy sm sd) sh si ss (decide sb) (decide su))+n) (Tm.mk (Dy.mk sy sm sd) sh si ss (decide sb) (decide su))).Day.Year=0) (Q a b l true) ((l.length+[Ins.mk (Tm.mk (Dy.mk sy sm sd) sh si ss (decide sb) (decide su)) (j4 (K8 (b8 (Tm.mk (Dy.mk sy sm sd) sh si ss (decide sb) (decide su))+n) (Tm.mk (Dy.mk sy sm sd) sh si ss (decide sb) (decide su)))) (Tm.mk (Dy.mk ky km kd) kh ki ks (decide kb) (decide ku)) true].length)*(some (176:Nat)).getD (0:Nat)<=140737488355328/\Q a b (l++[Ins.mk (Tm.mk (Dy.mk sy sm sd) sh si ss (decide sb) (decide su)) (j4 (K8 (b8 (Tm.mk (Dy.mk sy sm sd) sh si ss (decide sb) (decide su))+n) (Tm.mk (Dy.mk sy sm sd) sh si ss (decide sb) (decide su)))) (Tm.mk (Dy.mk ky km kd) kh ki ks (decide kb) (decide ku)) true]) (decide pc)))))
def d4m(sy:Int)(sm:Int)(sd:Int)(sh:Int)(si:Int)(ss:Int)(sb:Prop)(sB:Decidable sb)(su:Prop)(sV:Decidable su)(n:Int)(ky:Int)(km:Int)(kd:Int)(kh:Int)(ki:Int)(ks:Int)(kb:Prop)(kB:Decidable kb)(ku:Prop)(kV:Decidable ku)(a:Int)(b:Int)(pc:Prop)(dc:Decidable pc)(l:List Ins)(h1:-1000000000000000<=b8 (Tm.mk (Dy.mk sy sm sd) sh si ss (decide sb) (decide su))+n)(h2:b8 (Tm.mk (Dy.mk sy sm sd) sh si ss (decide sb) (decide su))+n<=1000000000000000)(h3:List.length (α:=Ins) l<=100000):d04 sy sm sd sh si ss sb sB su sV n ky km kd kh ki ks kb kB ku kV a b pc dc l (fun y0 y1 y2 y3=>y0=a/\y1=b/\y2=(J0 a b (l,decide pc) (Tm.mk (Dy.mk sy sm sd) sh si ss (decide sb) (decide su)) n (Tm.mk (Dy.mk ky km kd) kh ki ks (decide kb) (decide ku)) true).1/\y3=(J0 a b (l,decide pc) (Tm.mk (Dy.mk sy sm sd) sh si ss (decide sb) (decide su)) n (Tm.mk (Dy.mk ky km kd) kh ki ks (decide kb) (decide ku)) true).2):=by
 unfold d04;simp only[y6,A7,B3,C5,C4,C6,C8,C3,B9,D0,B7,d4C];generalize Tm.mk (Dy.mk sy sm sd) sh si ss (decide sb) (decide su)=s at *;generalize Tm.mk (Dy.mk ky km kd) kh ki ks (decide kb) (decide ku)=k at *;have hi:c6 (b8 s+n):=by unfold c6;omega
 refine⟨fun _=>hi,fun h=>?_,fun h=>⟨hi,by omega,fun z=>?_,fun z=>⟨?_,?_⟩⟩⟩
 . have e:J0 a b (l,decide pc) s n k true=(l,decide pc):=by unfold J0;rw[if_pos h]
   rw[e];exact⟨trivial,trivial,rfl,rfl⟩
 . have e:J0 a b (l,decide pc) s n k true=(l,true):=by unfold J0;rw[if_neg h,if_pos z]
   rw[e];exact⟨trivial,trivial,rfl,rfl⟩
 . show(l.length+1)*176<=_;omega
 . have e:J0 a b (l,decide pc) s n k true=(l++[mkI s n k true],decide pc):=by unfold J0;rw[if_neg h,if_neg z]
   rw[e];exact⟨trivial,trivial,rfl,rfl⟩
def d09(sy:Int)(sm:Int)(sd:Int)(sh:Int)(si:Int)(ss:Int)(sb:Prop)(sB:Decidable sb)(su:Prop)(sV:Decidable su)(n:Int)(ky:Int)(km:Int)(kd:Int)(kh:Int)(ki:Int)(ks:Int)(kb:Prop)(kB:Decidable kb)(ku:Prop)(kV:Decidable ku)(a:Int)(b:Int)(pc:Prop)(dc:Decidable pc)(l:List Ins):FR U:=b4w c6R [-1000000000000000<=b8 (Tm.mk (Dy.mk sy sm sd) sh si ss (decide sb) (decide su))+n,b8 (Tm.mk (Dy.mk sy sm sd) sh si ss (decide sb) (decide su))+n<=1000000000000000,List.length (α:=Ins) l<=100000] [(0,.own 70 [.int .i64 a,.int .i64 b,.acc 1,.bl pc dc]),(1,.ac (N:=U) 48 l)] 4 0 [.tree [] [.own (some 200) 70 [.v (.int .i64),.v (.int .i64),.v (.acc 48),.v (.bool)]]] (((a,b,(J0 a b (l,decide pc) (Tm.mk (Dy.mk sy sm sd) sh si ss (decide sb) (decide su)) n (Tm.mk (Dy.mk ky km kd) kh ki ks (decide kb) (decide ku)) true).1,(J0 a b (l,decide pc) (Tm.mk (Dy.mk sy sm sd) sh si ss (decide sb) (decide su)) n (Tm.mk (Dy.mk ky km kd) kh ki ks (decide kb) (decide ku)) true).2,()),()),())
def c0I:FC U:=⟨[],[],fun a its=>match a,its with|[.ref 0 0,.agg [.int .i64 sy,.int .i64 sm,.int .i64 sd,.int .i64 sh,.int .i64 si,.int .i64 ss,.bl sb sB,.bl su sV],.int .i64 n,.agg [.int .i64 ky,.int .i64 km,.int .i64 kd,.int .i64 kh,.int .i64 ki,.int .i64 ks,.bl kb kB,.bl ku kV],.tt],[(0,.own 70 [.int .i64 a,.int .i64 b,.acc 1,.bl pc dc]),(1,.ac 48 l)]=>some (d09 sy sm sd sh si ss sb sB su sV n ky km kd kh ki ks kb kB ku kV a b pc dc l)|_,_=>none⟩
def fptt_ok(args:List (SV U))(its:c7 U)(r:FR U)(h:c0I.C args its=some r)(ho:p9 r.ob):M1 Tryz.prog U eT Gl 65 args its (2*its.length) (fun k=>p9 r.hy->k r.v r.its r.n):=by
 unfold c0I at h;simp only at h;split at h
 . rename_i sy sm sd sh si ss sb sB su sV n ky km kd kh ki ks kb kB ku kV a b pc dc l;cases h;exact fc_ok (an:=c57 65) Nptf_ok (inlHN_ok Nptf_ok H0_ok c57 3) Tryz.func65 (n:=0) rfl (vs:=[.tree [] [.own (some 200) 70 [.v (.int .i64),.v (.int .i64),.v (.acc 48),.v (.bool)]]]) (X:=(((a,b,(J0 a b (l,decide pc) (Tm.mk (Dy.mk sy sm sd) sh si ss (decide sb) (decide su)) n (Tm.mk (Dy.mk ky km kd) kh ki ks (decide kb) (decide ku)) true).1,(J0 a b (l,decide pc) (Tm.mk (Dy.mk sy sm sd) sh si ss (decide sb) (decide su)) n (Tm.mk (Dy.mk ky km kd) kh ki ks (decide kb) (decide ku)) true).2,()),()),())) rfl (kc (d4m sy sm sd sh si ss sb sB su sV n ky km kd kh ki ks kb kB ku kV a b pc dc l ho.1 ho.2.1 ho.2.2.1) (by kernel_rfl))
 . cases h
def d1E:Env:=(c6R.y8 65 Tryz.f65).a1F 65 c0I
def Nptt_ok:c8 d1E:=(Nptf_ok.y8 Tryz.call65 Tryz.func65).a1F Tryz.call65 fptt_ok
def orF(f g:FC U):FC U:=⟨[],[],fun a its=>match f.C a its with|some r=>some r|none=>g.C a its⟩
def fpt:FC U:=orF b8R c0I
def fpt_ok(args:List (SV U))(its:c7 U)(r:FR U)(h:fpt.C args its=some r)(ho:p9 r.ob):M1 Tryz.prog U eT Gl 65 args its (2*its.length) (fun k=>p9 r.hy->k r.v r.its r.n):=by
 have h:(match b8R.C args its with|some r=>some r|none=>c0I.C args its)=some r:=h;split at h
 . rename_i x hx;cases h;exact fptf_ok args its _ hx ho
 . exact fptt_ok args its r h ho
def Npt:Env:=d1E.a1F 65 fpt
def Npt_ok:c8 Npt:=Nptt_ok.a1F Tryz.call65 fpt_ok
def d1j:Env:=Npt.y8 28 Tryz.f28
def NI28_ok:c8 d1j:=Npt_ok.y8 Tryz.call28 Tryz.func28
end Go.Proofs.YtapnoejokajcoaaGreatDoor
namespace Go.Qu
open Go Go.Wk Go.Wl Go.Rx Go.Re Go.Li Go.Fo
noncomputable section
def BIG:Int:=315537897600
def c22(s:Tm)(r:Rl)(u:Int):Prop:=u∈(I0 s r (u9 s.Day) 0 BIG).1
def c3d{s:Tm}{r:Rl}{a b x:Tm}(h:(J5 s r a b).2=.nil):x∈(J5 s r a b).1↔∃u,c22 s r u/\b8 a<=u/\u<b8 b/\x=K8 u s:=by
 have hx:b6n s r a b:=exp_ok (by rw[h];rfl);obtain⟨hF,ha,hb⟩:=a9l hx.bad;have a0:=(w6 ha).1;have b1:=(w6 hb).2;have e1:=(b98 (day:=u9 s.Day) (fr:=0) (m:=b8 a) (tw:=b8 b) hF (d4Q 0) a0).1;have e2:=(b92 (day:=u9 s.Day) (fr:=0) (m:=b8 b) (tw:=BIG) hF (d4Q 0) (by unfold BIG;omega)).1;rw[b3P hx];dsimp only;rw[a6g,d6a];have e3:(a38 s r a b).1=(I0 s r (u9 s.Day) (b8 a) (b8 b)).1:=rfl;rw[e3,e1,e2];unfold c22;constructor
 . rintro⟨u,hu,rfl⟩;obtain⟨h1,h2⟩:=d4X.1 hu;obtain⟨h3,h4⟩:=d4X.1 h1;exact⟨u,h3,a2e.1 h2,lt_iff.1 h4,rfl⟩
 . rintro⟨u,hu,h1,h2,rfl⟩;exact⟨u,d4X.2 ⟨d4X.2 ⟨hu,lt_iff.2 h2⟩,a2e.2 h1⟩,rfl⟩
def c82{s:Tm}{r:Rl}{u:Int}(hF:A1 s r)(h:c22 s r u):AtP s u:=(b9r hF (d4Q 0) h).a
def c61{s:Tm}{r:Rl}{a b x:Tm}(h:(J5 s r a b).2=.nil)(hx:x∈(J5 s r a b).1):isP s r x=(true,.nil):=by obtain⟨i,hi,rfl⟩:=d4Y hx;have:=(b9Q (x:=i) (by rw[h];rfl) (by omega) (by omega)).is;rw[s8 (by omega)]at this;exact this
structure FmP(s t:Tm):Prop where
 rt:p6 t=true
 ba:t.l9=s.l9
 ut:t.UTC=s.UTC
def c2N{a b:Tm}{u:Int}(h1:a.l9=b.l9)(h2:a.UTC=b.UTC):K8 u a=K8 u b:=by unfold K8;rw[h1,h2]
def b4i{s t t':Tm}(h:FmP s t)(h':FmP s t')(e:b8 t=b8 t'):t=t':=by have e1:=a6h (A6.1 h.rt);have e2:=a6h (A6.1 h'.rt);rw[<- e1,<- e2,e];exact c2N (h.ba.trans h'.ba.symm) (h.ut.trans h'.ut.symm)
def d1z{s:Tm}{u:Int}(h:AtP s u):FmP s (K8 u s)/\b8 (K8 u s)=u:=⟨⟨(atS_ok h).rt,(atS_ok h).ba,(atS_ok h).ut⟩,(atS_ok h).se⟩
def b2u{a b:I9}:R5 a b=true↔a.Time.l9=b.Time.l9/\a.Time.UTC=b.Time.UTC/\a.I3=b.I3:=d5k
def c6I{zs:List V8}{l:List I9}{like:I9}(h:b0l zs l like):∀m∈l,FmP like.Time m.Time/\m.I3=like.I3:=by have h1:=(q9.list (p:=fun m=>V4 zs m/\R5 m like=true)).1 fun j j0 j1=>⟨(h.1 j j0 j1).1,(h.1 j j0 j1).2.1⟩;intro m hm;obtain⟨a,b⟩:=h1 m hm;obtain⟨b1,b2,b3⟩:=b2u.1 b;exact⟨⟨a.1,b1,b2⟩,b3⟩
def leT{x y:Tm}:(!decide (a04 y x<0))=true↔b8 x<=b8 y:=by have h:a04 y x<0↔b8 y<b8 x:=a0E;simp[h]
def c49(l:List Tm):(a6X l).Pairwise fun x y=>b8 x<=b8 y:=by
 have h:=d7x (le:=fun x y:Tm=>!decide (a04 y x<0)) (fun a b c h1 h2=>leT.2 (by have:=leT.1 h1;have:=leT.1 h2;omega)) (fun a b=>by rw[d5x,leT,leT];omega) l
 exact h.imp fun h=>leT.1 h
def a7v{α:Type}[DecidableEq α]{z:α}:∀{r:List α}{x:α},z∈x::a2s x r↔z∈x::r
 |[],x=>d7i
 |y::r,x=>by
  rw[a2s];split
  . rename_i e;have h:=a7v (z:=z) (r:=r) (x:=x);simp only[d4P]at h ⊢;rw[e,h];exact⟨fun h=>h.elim .inl fun h=>.inr (.inr h),fun h=>h.elim .inl id⟩
  . have h:=a7v (z:=z) (r:=r) (x:=y);simp only[d4P]at h ⊢;rw[h]
def b55{α:Type}[DecidableEq α]{z:α}{l:List α}:z∈ded l↔z∈l:=by
 cases l with
 |nil=>exact d7i
 |cons x r=>exact a7v
def a9S:∀{r:List Tm}{x:Tm},(x::r).Pairwise (fun x y=>b8 x<=b8 y)->b10 (x::r)->(x::a2s x r).Pairwise fun x y=>b8 x<b8 y
 |[],x,_,_=>by rw[a2s];exact d6F _ _
 |y::r,x,h,ht=>by
  obtain⟨h1,h2⟩:=d5r.1 h;rw[a2s];split
  . rename_i e;exact a9S (r:=r) (x:=x) (d5r.2 ⟨fun z hz=>h1 z (by simp[hz]),(d5r.1 h2).2⟩) fun a ha b hb=>ht a (by simp at ha ⊢;rcases ha with e|e <;> simp[e]) b (by simp at hb ⊢;rcases hb with e|e <;> simp[e])
  . rename_i e;have ih:=a9S (r:=r) (x:=y) h2 fun a ha b hb=>ht a (d5n _ ha) b (d5n _ hb);have hxy:b8 x<b8 y:=by
     have l1:=h1 y (by simp);have l2:b8 x≠b8 y:=fun e2=>e (ht x (by simp) y (by simp) e2).symm;omega
    refine d5r.2 ⟨fun z hz=>?_,ih⟩;rcases d4P.1 hz with e|e
    . rw[e];exact hxy
    . have:=(d5r.1 ih).1 z e;omega
def c7v{l:List Tm}(h:l.Pairwise fun x y=>b8 x<=b8 y)(ht:b10 l):(ded l).Pairwise fun x y=>b8 x<b8 y:=by
 cases l with
 |nil=>exact List.Pairwise.nil
 |cons x r=>exact a9S h ht
def a8f{zs:List V8}{x:Q8}(h:V5 zs x):x.b9=[]∨∃r,x.b9=[r]/\F9 x.Start.Time r=true:=by
 have hl:=h.2.2.1
 match hr:x.b9 with
 |[]=>exact .inl rfl
 |[r]=>exact .inr ⟨r,rfl,(q9.list (p:=fun r=>F9 x.Start.Time r=true)).1 h.2.2.2.2.2.2.1 r (by rw[hr];simp)⟩
 |_::_::_=>rw[hr]at hl;simp at hl;omega
def c2T(o:F3)(a b:Int)(t:Tm):Prop:=(o.Main.b9=[]/\t=o.Main.Start.Time)∨∃r,o.Main.b9=[r]/\∃u,c22 o.Main.Start.Time r u/\b8 (X8 (a-172800-D2 o.Main) o.Main.Start.Time)<=u/\u<b8 (X8 (b+172800) o.Main.Start.Time)/\t=K8 u o.Main.Start.Time
variable{qa:Nat}{o:F3}{a b:Int}{t:Tm}
def a9K(hI:V5 o.c9 o.Main)(h:(tmE qa o a b [o.Main.Start.Time] o.Main.b9).2=.nil):t∈(tmE qa o a b [o.Main.Start.Time] o.Main.b9).1↔c2T o a b t:=by
 unfold c2T;rcases a8f hI with e|⟨r,e,hf⟩
 . rw[e,tmE];simp
 . rw[e]at h ⊢;rw[tmE]at h ⊢;by_cases h2:(tmR o a b r).2=.nil
   . rw[if_pos h2,tmE];unfold tmR at h2 ⊢;rw[c3d h2];constructor
     . rintro⟨u,hu⟩;exact .inr ⟨r,rfl,u,hu⟩
     . rintro(⟨h,_⟩|⟨r',h,hu⟩)
       . cases h
       . cases h;exact hu
   . rw[if_neg h2]at h;cases h
def a5R(h:(R4 qa o a b).2=.nil):(tmE qa o a b [o.Main.Start.Time] o.Main.b9).2=.nil/\(R4 qa o a b).1=ded (a6X (tmA qa o a b)):=by
 unfold R4 at h ⊢;split at h
 . rename_i e;rw[if_pos e];exact⟨e,rfl⟩
 . rename_i e;exact absurd h e
def c8f(hI:V5 o.c9 o.Main)(h:(R4 qa o a b).2=.nil):t∈(R4 qa o a b).1↔(c2T o a b t∨∃m∈o.Main.o8,m.Time=t)/\X0 o t=false:=by obtain⟨h1,h2⟩:=a5R h;rw[h2,b55,a3S];unfold tmA;rw[d4X,d4W,a9K hI h1,d6a];simp
def c6S(hI:V5 o.c9 o.Main)(h:c2T o a b t):FmP o.Main.Start.Time t:=by
 rcases h with⟨_,rfl⟩|⟨r,e,u,hu,_,_,rfl⟩
 . exact⟨hI.1.1,rfl,rfl⟩
 . rcases a8f hI with e'|⟨r',e',hf⟩
   . rw[e]at e';cases e'
   . rw[e]at e';cases e';exact(d1z (c82 (J3.1 hf) hu)).1
def c9j(hI:V5 o.c9 o.Main)(h:∃m∈o.Main.o8,m.Time=t):FmP o.Main.Start.Time t:=by obtain⟨m,hm,rfl⟩:=h;exact(c6I hI.2.2.2.2.2.2.2.2.2.1 m hm).1
def c88(hI:V5 o.c9 o.Main)(ht:t∈(tmE qa o a b [o.Main.Start.Time] o.Main.b9).1):FmP o.Main.Start.Time t:=by
 by_cases h:(tmE qa o a b [o.Main.Start.Time] o.Main.b9).2=.nil
 . exact c6S hI ((a9K hI h).1 ht)
 . rcases a8f hI with e|⟨r,e,hf⟩
   . rw[e,tmE]at h;exact absurd rfl h
   . rw[e,tmE]at h ht;split at h
     . exact absurd rfl h
     . rename_i h2;rw[if_neg h2]at ht;cases ht
def b4a(hI:V5 o.c9 o.Main)(h:t∈tmA qa o a b):FmP o.Main.Start.Time t:=by
 unfold tmA at h;rcases d4W.1 (d4X.1 h).1 with h|h
 . exact c88 hI h
 . obtain⟨m,hm,e⟩:=d6a.1 h;exact c9j hI ⟨m,hm,e⟩
def b6z(hI:V5 o.c9 o.Main):b10 (tmA qa o a b):=fun x hx y hy e=>b4i (b4a hI hx) (b4a hI hy) e
def c1N(hI:V5 o.c9 o.Main)(h:(R4 qa o a b).2=.nil)(ht:t∈(R4 qa o a b).1):FmP o.Main.Start.Time t:=by rw[(a5R h).2,b55,a3S]at ht;exact b4a hI ht
def d0R(hI:V5 o.c9 o.Main)(h:(R4 qa o a b).2=.nil):(R4 qa o a b).1.Pairwise fun x y=>b8 x<b8 y:=by rw[(a5R h).2];exact c7v (c49 _) fun x hx y hy=>b6z hI x (a3S.1 hx) y (a3S.1 hy)
def c6j(hI:V5 o.c9 o.Main)(h:(R4 qa o a b).2=.nil)(ht:t∈(R4 qa o a b).1)(hh:(a02 qa o t).2=.nil):(a02 qa o t).1=true:=by
 have hm:=(c8f hI h).1 ht;have h1:=(a5R h).1;unfold a02 at hh ⊢;dsimp only at hh ⊢;split at hh
 . rename_i e;rw[if_pos e];rw[hm.2,d7W,Bool.and_true];rcases hm.1 with hb|⟨m,hm',e'⟩
   . have:(a4B qa o.Main.Start.Time t (decide ((o.Main.b9.length:Int)=0/\t=o.Main.Start.Time)) o.Main.b9).1=true:=by
       rcases hb with⟨e1,e2⟩|⟨r,e1,u,hu⟩
       . rw[e1,a4B];simp[e2]
       . have hx:t∈(tmR o a b r).1:=by
           have:=(a9K (qa:=qa) (t:=t) hI h1).2 (.inr ⟨r,e1,u,hu⟩);rw[e1,tmE]at this h1;split at h1
           . rename_i e3;rw[if_pos e3,tmE]at this;exact this
           . cases h1
         have h3:(tmR o a b r).2=.nil:=by
          rw[e1,tmE]at h1;split at h1
          . assumption
          . cases h1
         have h4:=c61 h3 hx;rw[e1,a4B,h4,if_pos rfl,a4B]
     rw[this];rfl
   . have:(o.Main.o8.any fun m=>decide (m.Time=t))=true:=d6H.2 ⟨m,hm',d4K e'⟩;rw[this,Bool.or_true]
 . rename_i e;exact absurd hh e
end
noncomputable section
structure GrP(t:Tm):Prop where
 rt:p6 t=true
 ut:t.UTC=true
 ba:t.l9=false
def c0f{t:Tm}(h:p6 t=true)(hu:t.UTC=true):GrP t:=⟨h,hu,by
 cases hb:t.l9 with
 |false=>rfl
 |true=>exact absurd ⟨hb,.inr hu⟩ (A6.1 h).2.2.2.2⟩
def c3x{n:Int}{y:Tm}(h:(K8 n y).Day.Year≠0):0<=n/\n<315537897600/\(y.l9=true->y.UTC=false/\n%86400=0):=by
 unfold K8 at h;split at h
 . exact absurd rfl h
 . rename_i hc;have h1:¬n<0:=fun e=>hc (.inl e);have h2:¬3652059<n / 86400+1:=fun e=>hc (.inr (.inr e));refine⟨by omega,by omega,fun hb=>⟨?_,?_⟩⟩
   . cases hu:y.UTC with
     |false=>rfl
     |true=>exact absurd (.inr (.inl ⟨hb,.inl hu⟩)) hc
   . exact d5L fun e=>hc (.inr (.inl ⟨hb,.inr e⟩))
def b9l{n:Int}{y:Tm}(hu:y.UTC=true)(h:(K8 n y).Day.Year≠0):GrP (K8 n y)/\b8 (K8 n y)=n:=by obtain⟨a,b,c⟩:=c3x h;have hA:AtP y n:=⟨a,b,c⟩;exact⟨c0f (atS_ok hA).rt ((atS_ok hA).ut.trans hu),(atS_ok hA).se⟩
def b6p{n:Int}:c05 n=true↔-86400<n/\n<86400:=d5k
def fz_ok{l:List Obv}{t:Int}(hl:q9 l.length fun j=>c1n (ix l j)):∀n:Nat,n<=l.length->((fz l t n).some=true->-86400<(fz l t n).out/\(fz l t n).out<86400)/\0<=(fz l t n).early/\((fz l t n).early<n∨(fz l t n).early=0)
 |0,_=>⟨(fun h=>by cases h),d4Q _,.inr rfl⟩
 |n+1,h=>by
  obtain⟨h1,h2,h3⟩:=fz_ok hl n (by omega);have ho:=b6p.1 (hl n (by omega) (by omega)).2.2.2.1;rw[fz,fzN];split
  . refine⟨fun _=>ho,?_,?_⟩
    . dsimp only;split <;> omega
    . dsimp only;split <;> omega
  . refine⟨h1,?_,?_⟩
    . dsimp only;split <;> omega
    . dsimp only;split <;> omega
def b8n{z:V8}{t:Int}(hz:a4E z)(h:(V0 z t).2=.nil):-86400<(V0 z t).1/\(V0 z t).1<86400:=by
 have hl:=hz.2.2.2.2.2;have hn:(z.D8.length:Int)≠0:=hz.2.2.2.1;obtain⟨h1,h2,h3⟩:=fz_ok (t:=t) hl z.D8.length (d4O _);unfold V0 at h ⊢;split at h
 . exact⟨by show(-86400:Int)<0;decide,by show(0:Int)<86400;decide⟩
 . split
   . rename_i hs;exact h1 hs
   . exact b6p.1 (hl _ h2 (by omega)).2.2.1
def b3X{z:V8}{t:Tm}(h:(U8 z t).2=.nil):-86400<(U8 z t).1/\(U8 z t).1<86400:=by
 unfold U8 at h ⊢;split at h
 . rename_i hc;rw[if_pos hc];exact b8n hc.1 h
 . cases h
def c81{z:V8}{t:Tm}(ht:p6 t=true)(h:(W4 z t).2=.nil):GrP (W4 z t).1/\-86400<b8 (W4 z t).1-b8 t/\b8 (W4 z t).1-b8 t<86400:=by
 unfold W4 at h ⊢;split
 . rename_i hc;exact⟨c0f hc.2.1 hc.2.2,by show -86400<b8 t-b8 t;omega,by show b8 t-b8 t<86400;omega⟩
 . rename_i hc;rw[if_neg hc]at h;split
   . rename_i ho;rw[if_pos ho]at h;have hr:=b3X ho;unfold a4Y at h ⊢;split
     . rename_i hy;rw[if_pos hy]at h;cases h
     . rename_i hy;obtain⟨h1,h2⟩:=b9l rfl hy;exact⟨h1,by rw[h2];omega,by rw[h2];omega⟩
   . rename_i ho;rw[if_neg ho]at h;exact absurd h ho
def b0G{qa:Nat}{o:F3}{m:I9}(ht:p6 m.Time=true)(h:(A0 qa o m).2=.nil):GrP (A0 qa o m).1/\-86400<b8 (A0 qa o m).1-b8 m.Time/\b8 (A0 qa o m).1-b8 m.Time<86400:=by
 have main:∀l:List V8,(a14 qa m l).2=.nil->GrP (a14 qa m l).1/\-86400<b8 (a14 qa m l).1-b8 m.Time/\b8 (a14 qa m l).1-b8 m.Time<86400:=by
  intro l
  induction l with
  |nil =>
   intro _;have hb:=w6 ht;have hA:AtP tmU (b8 m.Time):=⟨hb.1,hb.2,(fun e=>by cases e)⟩;have ha:=atS_ok hA;rw[a14];dsimp only;rw[ha.se];exact⟨c0f ha.rt ha.ut,by omega,by omega⟩
  |cons z r ih =>
   intro h;rw[a14]at h ⊢;split
   . rename_i hc;rw[if_pos hc]at h;split
     . rename_i hn;exact c81 ht hn
     . rename_i hn;rw[if_neg hn]at h;cases h
   . rename_i hc;rw[if_neg hc]at h;exact ih h
 exact main o.c9 h
end
noncomputable section
variable{qa:Nat}{o:F3}{a b:Int}
def b6y{k t:Tm}{v:Bool}:∀{m:List (Tm×Bool)},getM (a2Z m k v) t=if t=k then v else getM m t
 |[]=>by rw[a2Z,getM,getM,getM]
 |p::r=>by
  rw[a2Z];by_cases e:k=p.1
  . rw[if_pos e,getM,getM];by_cases e2:t=k
    . rw[if_pos e2,if_pos e2]
    . rw[if_neg e2,if_neg e2,if_neg (fun h=>e2 (h.trans e.symm))]
  . rw[if_neg e,getM,getM,b6y];by_cases e2:t=p.1
    . rw[if_pos e2,if_pos e2,if_neg (fun h=>e (h.symm.trans e2))]
    . rw[if_neg e2,if_neg e2]
def b4k{t:Tm}:∀{l:List Q8}{m:List (Tm×Bool)},(ovM qa o m l).2=.nil->(getM (ovM qa o m l).1 t=true↔((∃x∈l,K5 x=t)/\(a02 qa o t).1=true)∨((¬∃x∈l,K5 x=t)/\getM m t=true))/\∀x∈l,(a02 qa o (K5 x)).2=.nil
 |[],m,_=>⟨by simp[ovM],fun _ h=>by cases h⟩
 |x::r,m,h=>by
  rw[ovM]at h ⊢;split at h
  . rename_i e;rw[if_pos e];obtain⟨h1,h2⟩:=b4k (t:=t) h;refine⟨?_,fun y hy=>?_⟩
    . rw[h1,b6y];simp only[d4P,d7e];by_cases e2:t=K5 x
      . have e3:K5 x=t:=e2.symm;rw[if_pos e2,<- e2];by_cases e4:∃y∈r,K5 y=t
        . simp[e3,e4]
        . simp[e3,e4]
      . have e3:¬K5 x=t:=fun h=>e2 h.symm;rw[if_neg e2];simp[e3]
    . rcases d4P.1 hy with e2|e2
      . rw[e2];exact e
      . exact h2 y e2
  . rename_i e;exact absurd h e
def c87(h:(ovM qa o [] o.Over).2=.nil){t:Tm}:getM (ovM qa o [] o.Over).1 t=true↔(∃x∈o.Over,K5 x=t)/\(a02 qa o t).1=true:=by rw[(b4k (t:=t) h).1];simp[getM]
def inW(a b:Int)(s n:Int):Prop:=s<b/\¬(s+n<=a/\(0<n∨s<a))
def a6c{w:Wn}{s:Tm}{n:Int}{k:Tm}{v:Bool}{y:Ins}:y∈(J0 a b w s n k v).1↔y∈w.1∨(inW a b (b8 s) n/\(K8 (b8 s+n) s).Day.Year≠0/\y=mkI s n k v):=by
 unfold J0 inW;split
 . rename_i h;constructor
   . exact .inl
   . rintro(h1|⟨⟨h1,h2⟩,_⟩)
     . exact h1
     . rcases h with h|h
       . omega
       . exact absurd h h2
 . rename_i h;have h1:b8 s<b/\¬(b8 s+n<=a/\(0<n∨b8 s<a)):=⟨d8l.1 fun e=>h (.inl e),fun e=>h (.inr e)⟩;split
   . rename_i hy;simp[hy]
   . rename_i hy;simp[hy,h1]
def a9k{w:Wn}{s:Tm}{n:Int}{k:Tm}{v:Bool}:(J0 a b w s n k v).2=true↔w.2=true∨(inW a b (b8 s) n/\(K8 (b8 s+n) s).Day.Year=0):=by
 unfold J0 inW;split
 . rename_i h;constructor
   . exact .inl
   . rintro(h1|⟨⟨h1,h2⟩,_⟩)
     . exact h1
     . rcases h with h|h
       . omega
       . exact absurd h h2
 . rename_i h;have h1:b8 s<b/\¬(b8 s+n<=a/\(0<n∨b8 s<a)):=⟨d8l.1 fun e=>h (.inl e),fun e=>h (.inr e)⟩;split
   . rename_i hy;simp[hy,h1]
   . rename_i hy;simp[hy]
def a6u(l:List Ins):Prop:=l.Pairwise fun x y=>x.j8≠y.j8
def b33{w:Wn}{s:Tm}{n:Int}{k:Tm}{v:Bool}(h:a6u w.1)(hk:∀y∈w.1,y.j8≠k):a6u (J0 a b w s n k v).1:=by
 unfold J0;split
 . exact h
 . split
   . exact h
   . exact d6n.2 ⟨h,d6F _ _,fun y hy z hz=>by rw[d4D.1 hz];exact hk y hy⟩
structure GaF(qa:Nat)(o:F3)(a b:Int)(w w':Wn)(B:Ins->Prop)(C:Prop):Prop where
 mem:∀y,y∈w'.1↔y∈w.1∨B y
 past:w'.2=true↔w.2=true∨C
def b1X(qa:Nat)(o:F3)(a b:Int)(mp:List (Tm×Bool))(l:List Tm)(y:Ins):Prop:=∃t∈l,¬getM mp t=true/\inW a b (b8 (A0 qa o (moI o t)).1) (D2 o.Main)/\(K8 (b8 (A0 qa o (moI o t)).1+D2 o.Main) (A0 qa o (moI o t)).1).Day.Year≠0/\y=mkI (A0 qa o (moI o t)).1 (D2 o.Main) t false
def b2r(qa:Nat)(o:F3)(a b:Int)(mp:List (Tm×Bool))(l:List Q8)(y:Ins):Prop:=∃x∈l,getM mp (K5 x)=true/\inW a b (b8 (A0 qa o x.Start).1) (D2 x)/\(K8 (b8 (A0 qa o x.Start).1+D2 x) (A0 qa o x.Start).1).Day.Year≠0/\y=mkI (A0 qa o x.Start).1 (D2 x) (K5 x) true
def b67(qa:Nat)(o:F3)(a b:Int)(mp:List (Tm×Bool))(l:List Tm):Prop:=∃t∈l,¬getM mp t=true/\inW a b (b8 (A0 qa o (moI o t)).1) (D2 o.Main)/\(K8 (b8 (A0 qa o (moI o t)).1+D2 o.Main) (A0 qa o (moI o t)).1).Day.Year=0
def b6t(qa:Nat)(o:F3)(a b:Int)(mp:List (Tm×Bool))(l:List Q8):Prop:=∃x∈l,getM mp (K5 x)=true/\inW a b (b8 (A0 qa o x.Start).1) (D2 x)/\(K8 (b8 (A0 qa o x.Start).1+D2 x) (A0 qa o x.Start).1).Day.Year=0
def ga1_ok{mp:List (Tm×Bool)}:∀{l:List Tm}{w:Wn},(ga1 qa o a b mp w l).2=.nil->GaF qa o a b w (ga1 qa o a b mp w l).1 (b1X qa o a b mp l) (b67 qa o a b mp l)/\∀t∈l,¬getM mp t=true->(A0 qa o (moI o t)).2=.nil
 |[],w,_=>⟨⟨fun y=>by simp[ga1,b1X],by simp[ga1,b67]⟩,fun _ h=>by cases h⟩
 |t::r,w,h=>by
  rw[ga1]at h ⊢;by_cases e:getM mp t=true
  . rw[if_pos e]at h ⊢;obtain⟨⟨h1,h2⟩,h3⟩:=ga1_ok h;refine⟨⟨fun y=>?_,?_⟩,fun u hu hn=>?_⟩
    . rw[h1];simp[b1X,e]
    . rw[h2];simp[b67,e]
    . rcases d4P.1 hu with e2|e2
      . rw[e2]at hn;exact absurd e hn
      . exact h3 u e2 hn
  . rw[if_neg e]at h ⊢;split at h
    . rename_i hm;rw[if_pos hm];obtain⟨⟨h1,h2⟩,h3⟩:=ga1_ok h;refine⟨⟨fun y=>?_,?_⟩,fun u hu hn=>?_⟩
      . rw[h1,a6c];simp only[b1X,d4P,d7e,or_assoc,e,d5A,d8g,true_and]
      . rw[h2,a9k];simp only[b67,d4P,d7e,or_assoc,e,d5A,d8g,true_and]
      . rcases d4P.1 hu with e2|e2
        . rw[e2];exact hm
        . exact h3 u e2 hn
    . rename_i hm;exact absurd h hm
def ga2_ok{mp:List (Tm×Bool)}:∀{l:List Q8}{w:Wn},(ga2 qa o a b mp w l).2=.nil->GaF qa o a b w (ga2 qa o a b mp w l).1 (b2r qa o a b mp l) (b6t qa o a b mp l)/\∀x∈l,getM mp (K5 x)=true->(A0 qa o x.Start).2=.nil
 |[],w,_=>⟨⟨fun y=>by simp[ga2,b2r],by simp[ga2,b6t]⟩,fun _ h=>by cases h⟩
 |t::r,w,h=>by
  rw[ga2]at h ⊢;by_cases e:¬getM mp (K5 t)=true
  . rw[if_pos e]at h ⊢;obtain⟨⟨h1,h2⟩,h3⟩:=ga2_ok h;refine⟨⟨fun y=>?_,?_⟩,fun u hu hn=>?_⟩
    . rw[h1];simp[b2r,e]
    . rw[h2];simp[b6t,e]
    . rcases d4P.1 hu with e2|e2
      . rw[e2]at hn;exact absurd hn e
      . exact h3 u e2 hn
  . rw[if_neg e]at h ⊢;have e:=d4v.1 e;split at h
    . rename_i hm;rw[if_pos hm];obtain⟨⟨h1,h2⟩,h3⟩:=ga2_ok h;refine⟨⟨fun y=>?_,?_⟩,fun u hu hn=>?_⟩
      . rw[h1,a6c];simp only[b2r,d4P,d7e,or_assoc,e,true_and]
      . rw[h2,a9k];simp only[b6t,d4P,d7e,or_assoc,e,true_and]
      . rcases d4P.1 hu with e2|e2
        . rw[e2];exact hm
        . exact h3 u e2 hn
    . rename_i hm;exact absurd h hm
def b0D{mp:List (Tm×Bool)}:∀{l:List Tm}{w:Wn},a6u w.1->l.Pairwise (· ≠ ·)->(∀t∈l,∀y∈w.1,y.j8≠t)->a6u (ga1 qa o a b mp w l).1.1
 |[],w,h,_,_=>h
 |t::r,w,h,hl,hk=>by
  obtain⟨l1,l2⟩:=d5r.1 hl;rw[ga1];split
  . exact b0D h l2 fun u hu=>hk u (by simp[hu])
  . split
    . refine b0D (b33 h (hk t (by simp))) l2 fun u hu y hy=>?_;rcases a6c.1 hy with hy|⟨_,_,rfl⟩
      . exact hk u (by simp[hu]) y hy
      . exact l1 u hu
    . exact h
def b0g{mp:List (Tm×Bool)}:∀{l:List Q8}{w:Wn},a6u w.1->(l.Pairwise fun x y=>K5 x≠K5 y)->(∀x∈l,getM mp (K5 x)=true->∀y∈w.1,y.j8≠K5 x)->a6u (ga2 qa o a b mp w l).1.1
 |[],w,h,_,_=>h
 |t::r,w,h,hl,hk=>by
  obtain⟨l1,l2⟩:=d5r.1 hl;rw[ga2];split
  . exact b0g h l2 fun u hu=>hk u (by simp[hu])
  . rename_i e;have e:=d4v.1 e;split
    . refine b0g (b33 h (hk t (by simp) e)) l2 fun u hu hg y hy=>?_;rcases a6c.1 hy with hy|⟨_,_,rfl⟩
      . exact hk u (by simp[hu]) hg y hy
      . exact l1 u hu
    . exact h
def a3Q(hO:a0t o){x:Q8}(hx:x∈o.Over):FmP o.Main.Start.Time (K5 x)/\V5 o.c9 x:=by
 have h:=(q9.list (p:=fun x:Q8=>(x.n9.length:Int)=1/\V5 o.c9 x/\R5 (ix x.n9 0) o.Main.Start=true)).1 (fun j j0 j1=>by obtain⟨h1,_,h2,h3,_⟩:=hO.2.2.2.2.2 j j0 j1;exact⟨h1,h2,h3⟩) x hx
 obtain⟨h1,h2,h3⟩:=h;obtain⟨f1,f2,_⟩:=b2u.1 h3;have hm:V4 o.c9 (ix x.n9 0):=h2.2.2.2.2.2.2.2.1 0 (by omega) (by omega);exact⟨⟨hm.1,f1,f2⟩,h2⟩
def b9m(hO:a0t o):o.Over.Pairwise fun x y=>b8 (K5 x)<b8 (K5 y):=by
 have up:∀n:Nat,∀i j:Int,0<=i->i<j->j=i+n->j<o.Over.length->b8 (K5 (ix o.Over i))<b8 (K5 (ix o.Over j)):=by
  intro n
  induction n with
  |zero=>intro i j _ h e;omega
  |succ n ih =>
   intro i j i0 h e hj;have h1:=(hO.2.2.2.2.2 j (by omega) hj).2.2.2.2 (by omega);by_cases hn:n=0
   . rw[show j-1=i by omega]at h1;exact h1
   . have h2:=ih i (j-1) i0 (by omega) (by omega) (by omega);unfold K5 at h2 ⊢;omega
 rw[d5t];intro i j hi hj h;have:=up (j-i) i j (by omega) (by omega) (by omega) (by omega);rw[s8 (by omega),s8 (by omega)]at this;exact this
def c3n(hO:a0t o):o.Over.Pairwise fun x y=>K5 x≠K5 y:=(b9m hO).imp fun h e=>by rw[e]at h;omega
def c8q(qa:Nat)(o:F3)(a b:Int)(y:Ins):Prop:=b1X qa o a b (ovM qa o [] o.Over).1 (R4 qa o a b).1 y∨b2r qa o a b (ovM qa o [] o.Over).1 o.Over y
def b0t(h:(gaS qa o a b).2=.nil):(ovM qa o [] o.Over).2=.nil/\(R4 qa o a b).2=.nil/\(ga1 qa o a b (ovM qa o [] o.Over).1 ([],false) (R4 qa o a b).1).2=.nil/\(ga2 qa o a b (ovM qa o [] o.Over).1 (ga1 qa o a b (ovM qa o [] o.Over).1 ([],false) (R4 qa o a b).1).1 o.Over).2=.nil/\gaS qa o a b=ga2 qa o a b (ovM qa o [] o.Over).1 (ga1 qa o a b (ovM qa o [] o.Over).1 ([],false) (R4 qa o a b).1).1 o.Over:=by
 unfold gaS at h ⊢;split at h
 . rename_i e1;split at h
   . rename_i e2;split at h
     . rename_i e3;rw[if_pos e1,if_pos e2,if_pos e3];exact⟨e1,e2,e3,h,rfl⟩
     . rename_i e3;exact absurd h e3
   . rename_i e2;exact absurd h e2
 . rename_i e1;exact absurd h e1
def b8L(h:(gaS qa o a b).2=.nil){y:Ins}:y∈(gaS qa o a b).1.1↔c8q qa o a b y:=by obtain⟨_,_,h3,h4,h5⟩:=b0t h;rw[h5,(ga2_ok h4).1.mem,(ga1_ok h3).1.mem];simp[c8q]
def b9s(hO:a0t o)(h:(gaS qa o a b).2=.nil):a6u (gaS qa o a b).1.1:=by
 obtain⟨h1,h2,h3,h4,h5⟩:=b0t h;have hI:=hO.2.2.2.1;rw[h5];refine b0g (b0D List.Pairwise.nil ((d0R hI h2).imp fun h e=>by rw[e]at h;omega) (fun _ _ _ h=>by cases h)) (c3n hO) fun x hx hg y hy=>?_;rcases((ga1_ok h3).1.mem y).1 hy with hy|⟨t,ht,hn,_,_,rfl⟩
 . cases hy
 . rintro rfl;exact hn hg
def a27(hO:a0t o)(h:(gaS qa o a b).2=.nil){y:Ins}(hy:y∈(gaS qa o a b).1.1):FmP o.Main.Start.Time y.j8:=by
 rcases(b8L h).1 hy with⟨t,ht,_,_,_,rfl⟩|⟨x,hx,_,_,_,rfl⟩
 . exact c1N hO.2.2.2.1 (b0t h).2.1 ht
 . exact(a3Q hO hx).1
def c6Z{l:List Ins}(h:a6u l){x y:Ins}(hx:x∈l)(hy:y∈l)(e:x.j8=y.j8):x=y:=by
 induction l with
 |nil=>cases hx
 |cons z r ih =>
  obtain⟨h1,h2⟩:=d5r.1 h;rcases d4P.1 hx with ex|ex <;> rcases d4P.1 hy with ey|ey
  . rw[ex,ey]
  . rw[ex]at e;exact absurd e (h1 y ey)
  . rw[ey]at e;exact absurd e.symm (h1 x ex)
  . exact ih h2 ex ey
def c7H(hO:a0t o)(h:(gaS qa o a b).2=.nil):d3h (gaS qa o a b).1.1:=fun x hx y hy _ e=>c6Z (b9s hO h) hx hy (b4i (a27 hO h hx) (a27 hO h hy) e)
end
noncomputable section
variable{qa:Nat}{o:F3}{a b:Int}
def b0P{zs:List V8}{x:Q8}(h:V5 zs x):0<=D2 x/\D2 x<=400000000000:=by
 unfold D2;split
 . rename_i hs;have:=h.2.2.2.2.2.1 0 (by omega) hs.1;omega
 . split
   . have:=a1X (ix x.End 0).Time;have:=a1X x.Start.Time;omega
   . split <;> omega
structure InF(o:F3)(a b:Int)(y:Ins):Prop where
 st:GrP y.Start
 en:GrP y.End
 lo:b8 y.Start<=b8 y.End
 wi:inW a b (b8 y.Start) (b8 y.End-b8 y.Start)
 wh:FmP o.Main.Start.Time y.j8
 ov:y.Over=true↔∃x∈o.Over,K5 x=y.j8
def b9K(hO:a0t o)(h:(gaS qa o a b).2=.nil){y:Ins}(hy:y∈(gaS qa o a b).1.1):InF o a b y:=by
 obtain⟨h1,h2,h3,h4,_⟩:=b0t h;have hI:=hO.2.2.2.1;have hw:=a27 hO h hy;rcases(b8L h).1 hy with⟨t,ht,hn,hin,hyr,rfl⟩|⟨x,hx,hg,hin,hyr,rfl⟩
 . have hm:=(ga1_ok h3).2 t ht hn;have hf:=c1N hI h2 ht;obtain⟨g1,g2,g3⟩:=b0G (m:=moI o t) hf.rt hm;obtain⟨e1,e2⟩:=b9l g1.ut hyr;have hl:=b0P hI;have e3:b8 (mkI (A0 qa o (moI o t)).1 (D2 o.Main) t false).End=b8 (A0 qa o (moI o t)).1+D2 o.Main:=e2;refine⟨g1,e1,?_,?_,hf,⟨(fun e=>by cases e),fun⟨x,hx,hk⟩=>?_⟩⟩
   . rw[e3];show b8 (A0 qa o (moI o t)).1<=_;omega
   . rw[e3];show inW a b (b8 (A0 qa o (moI o t)).1) (b8 (A0 qa o (moI o t)).1+D2 o.Main-b8 (A0 qa o (moI o t)).1);rw[show b8 (A0 qa o (moI o t)).1+D2 o.Main-b8 (A0 qa o (moI o t)).1=D2 o.Main by omega];exact hin
   . have hk:K5 x=t:=hk;have hh:=(b4k (t:=t) h1).2 x hx;rw[hk]at hh;exact absurd ((c87 h1).2 ⟨⟨x,hx,hk⟩,c6j hI h2 ht hh⟩) hn
 . obtain⟨hf,hI2⟩:=a3Q hO hx;have hm:=(ga2_ok h4).2 x hx hg;obtain⟨g1,g2,g3⟩:=b0G (m:=x.Start) hI2.1.1 hm;obtain⟨e1,e2⟩:=b9l g1.ut hyr;have hl:=b0P hI2;have e3:b8 (mkI (A0 qa o x.Start).1 (D2 x) (K5 x) true).End=b8 (A0 qa o x.Start).1+D2 x:=e2;refine⟨g1,e1,?_,?_,hf,⟨fun _=>⟨x,hx,rfl⟩,fun _=>rfl⟩⟩
   . rw[e3];show b8 (A0 qa o x.Start).1<=_;omega
   . rw[e3];show inW a b (b8 (A0 qa o x.Start).1) (b8 (A0 qa o x.Start).1+D2 x-b8 (A0 qa o x.Start).1);rw[show b8 (A0 qa o x.Start).1+D2 x-b8 (A0 qa o x.Start).1=D2 x by omega];exact hin
def c1j{f t:Tm}(h:(N1 qa o f t).2=.nil):c2x o f t/\(gaS qa o (b8 f) (b8 t)).2=.nil/\(gaS qa o (b8 f) (b8 t)).1.2=false/\(gaS qa o (b8 f) (b8 t)).1.1.length<=1000/\(N1 qa o f t).1=a6R (gaS qa o (b8 f) (b8 t)).1.1:=by
 have nn:∀e:n5,V2 e=.nil->e=.nil:=fun e h=>by
  unfold V2 at h;split at h
  . cases h
  . exact h
 unfold N1 at h ⊢;split at h
 . rename_i c1;split at h
   . rename_i c2;split at h
     . rename_i c3;split at h
       . cases h
       . rename_i c4;split at h
         . cases h
         . rename_i c5;rw[if_pos c1,if_pos c2,if_pos c3,if_neg c4,if_neg c5];exact⟨c1,c3,d5i _ ▸ c4,by omega,rfl⟩
     . rename_i c3;exact absurd (nn _ h) c3
   . rename_i c2;exact absurd (nn _ h) c2
 . cases h
def c3r{f t:Tm}(h:(N1 qa o f t).2=.nil){y:Ins}(hy:y∈(N1 qa o f t).1):InF o (b8 f) (b8 t) y:=by obtain⟨h1,h2,_,_,h5⟩:=c1j h;rw[h5,a6E]at hy;exact b9K h1.1 h2 hy
def leN{x y:Ins}:(!decide (a3x y x<0))=true↔¬(b8 y.Start<b8 x.Start∨(b8 y.Start=b8 x.Start/\b8 y.j8<b8 x.j8)):=by
 have h0:a04 y.Start x.Start=0↔b8 y.Start=b8 x.Start:=a8K;have h1:a04 y.Start x.Start<0↔b8 y.Start<b8 x.Start:=a0E;have h2:a04 y.j8 x.j8<0↔b8 y.j8<b8 x.j8:=a0E;have h:a3x y x<0↔b8 y.Start<b8 x.Start∨(b8 y.Start=b8 x.Start/\b8 y.j8<b8 x.j8):=by unfold a3x;split <;> omega
 rw[d6x,d7y,h]
def c27(l:List Ins):(a6R l).Pairwise fun x y=>¬(b8 y.Start<b8 x.Start∨(b8 y.Start=b8 x.Start/\b8 y.j8<b8 x.j8)):=by
 have h:=d7x (le:=fun x y:Ins=>!decide (a3x y x<0)) (fun a b c h1 h2=>leN.2 (by have:=leN.1 h1;have:=leN.1 h2;omega)) (fun a b=>by rw[d5x,leN,leN];omega) l
 exact h.imp fun h=>leN.1 h
def c3a{l:List Ins}(h:a6u l):a6u (a6R l):=(d5W l _).symm.pairwise h fun h e=>h e.symm
def ltI(x y:Ins):Prop:=b8 x.Start<b8 y.Start∨(b8 x.Start=b8 y.Start/\b8 x.j8<b8 y.j8)
def d3p{f t:Tm}(h:(N1 qa o f t).2=.nil):(N1 qa o f t).1.Pairwise ltI/\a6u (N1 qa o f t).1:=by obtain⟨h1,h2,_,_,h5⟩:=c1j h;have hn:=c3a (b9s h1.1 h2);rw[h5];refine⟨?_,hn⟩;refine List.Pairwise.imp_of_mem (fun{x y} hx hy hxy=>?_) ((c27 _).and hn);obtain⟨hle,hne⟩:=hxy;have fx:=a27 h1.1 h2 (a6E.1 hx);have fy:=a27 h1.1 h2 (a6E.1 hy);have:b8 x.j8≠b8 y.j8:=fun e=>hne (b4i fx fy e);unfold ltI;omega
end
noncomputable section
variable{qa:Nat}{o:F3}{a b:Int}
def b5j:∀{rs:List Rl}{l:List Tm},l.length<=1000->(tmE qa o a b l rs).1.length<=1000
 |[],l,h=>h
 |r::rs,l,h=>by
  unfold tmE;split
  . exact b5j (by have:=@b5V o.Main.Start.Time (X8 (a-172800-D2 o.Main) o.Main.Start.Time) (X8 (b+172800) o.Main.Start.Time) r;unfold tmR;omega)
  . exact d6b _
def c66(h:a2g o.Main):(R4 qa o a b).1.length<=1200:=by
 have h4:=h.2.2.2.1;unfold R4;split
 . have h1:=c40 (a6X (tmA qa o a b));rw[b3j]at h1;have h2:(tmA qa o a b).length<=_:=d7L _ _;rw[d4B,d5K]at h2;have h3:=@b5j qa o a b o.Main.b9 [o.Main.Start.Time] (by show 1<=1000;decide);dsimp only;omega
 . exact d6b _
def d02(h:(ovM qa o [] o.Over).2≠.nil):gaS qa o a b=(([],false),(ovM qa o [] o.Over).2):=by unfold gaS;rw[if_neg h]
def c9n(h1:(ovM qa o [] o.Over).2=.nil)(h2:(R4 qa o a b).2=.nil)(h:(ga1 qa o a b (ovM qa o [] o.Over).1 ([],false) (R4 qa o a b).1).2≠.nil):gaS qa o a b=ga1 qa o a b (ovM qa o [] o.Over).1 ([],false) (R4 qa o a b).1:=by unfold gaS;rw[if_pos h1,if_pos h2,if_neg h]
def c8E(h1:(ovM qa o [] o.Over).2=.nil)(h2:(R4 qa o a b).2=.nil)(h:(ga1 qa o a b (ovM qa o [] o.Over).1 ([],false) (R4 qa o a b).1).2=.nil):gaS qa o a b=ga2 qa o a b (ovM qa o [] o.Over).1 (ga1 qa o a b (ovM qa o [] o.Over).1 ([],false) (R4 qa o a b).1).1 o.Over:=by unfold gaS;rw[if_pos h1,if_pos h2,if_pos h]
end
end Go.Qu
namespace Go.Proofs.YtapnoejokajcoaaGreatDoor
open Go Go.Wk Go.Wl Go.Rx Go.Re Go.Li Go.Qu Go.Fo 
attribute [local irreducible] i7
def d0Y:Nat->D1:=fun|9=>⟨97,nn,fun|8=>some ⟨[8],[.slot 11 .err,.own 8 [(.int .i64),(.int .i64),(.acc 48),.bool]]⟩|_=>none⟩|28=>⟨133,fun|25=>some ⟨[0,3,5,98,99],[.slot 100 (.int .i64),.own 0 [(.int .i64),(.int .i64),(.acc 48),.bool]]⟩|14=>some ⟨[0,3,5,66,67],[.slot 68 (.int .i64),.own 0 [(.int .i64),(.int .i64),(.acc 48),.bool]]⟩|3=>some ⟨[0,3,5,23,24],[.slot 25 (.int .i64),.ob 5 2]⟩|_=>none,nn⟩|_=>⟨0,nn,nn⟩
def S7(o:F3)(f:Tm)(t:Tm):=R4 (105:Nat) (Y1 o) (b8 (j4 f)) (b8 (j4 t))
def Vqi(o:F3)(f:Tm)(t:Tm)(Q:List Ins->n5->Prop):Prop:=
a36 (Y1 o)/\(bR (((((¬bo (a0t (Y1 o))=true∨¬p6 (j4 f)=true)∨¬p6 (j4 t)=true)∨¬f.UTC=true)∨¬t.UTC=true)∨b8 (j4 t)<b8 (j4 f)) (Q [] (n5.no 2)) ((a2g (etI o.Main)/\(0<=D2 (etI o.Main)/\D2 (etI o.Main)<=400000000000)/\(0<=b8 (j4 f)/\b8 (j4 f)<315537897600)/\(0<=b8 (j4 t)/\b8 (j4 t)<315537897600)/\b10 (tmA (105:Nat) (Y1 o) (b8 (j4 f)) (b8 (j4 t))))/\(bR ((S7 o f t).snd≠n5.nil) (asB (S7 o f t).snd=true/\Q [] (V2 (S7 o f t).snd)) (∃(J:n5->Int->Int->List Ins->Bool->Prop),(∃(I:Int->List (Tm×Bool)->Prop),∃(m:Int->List (Tm×Bool)->Nat),I 0 []/\∀(x:Int) (x_1:List (Tm×Bool)),I x x_1->(bR (x<(↑o.Over.length:Int)) (0<=x/\x<(↑o.Over.length:Int)/\((0:Int)<=0/\0<(↑(ix o.Over x).n9.length:Int))/\a2g (etI o.Main)/\(bR ((a02 (105:Nat) (Y1 o) (j4 (ix (ix o.Over x).n9 0).Time)).snd≠n5.nil) (J (a02 (105:Nat) (Y1 o) (j4 (ix (ix o.Over x).n9 0).Time)).snd (b8 (j4 f)) (b8 (j4 t)) [] false) ((0:Int)<=0/\0<(↑(ix o.Over x).n9.length:Int)/\c6 (x+1)/\I (x+1) (a2Z x_1 (j4 (ix (ix o.Over x).n9 0).Time) (decide ((a02 (105:Nat) (Y1 o) (j4 (ix (ix o.Over x).n9 0).Time)).fst=true)))/\m (x+1) (a2Z x_1 (j4 (ix (ix o.Over x).n9 0).Time) (decide ((a02 (105:Nat) (Y1 o) (j4 (ix (ix o.Over x).n9 0).Time)).fst=true)))<m x x_1))) ((a2g (etI o.Main)/\(0<=D2 (etI o.Main)/\D2 (etI o.Main)<=400000000000)/\(0<=b8 (j4 f)/\b8 (j4 f)<315537897600)/\(0<=b8 (j4 t)/\b8 (j4 t)<315537897600)/\b10 (tmA (105:Nat) (Y1 o) (b8 (j4 f)) (b8 (j4 t))))/\(bR ((S7 o f t).snd≠n5.nil) (J (S7 o f t).snd (b8 (j4 f)) (b8 (j4 t)) [] false) (∃(I:Int->Int->Int->List Ins->Bool->Prop),∃(m:Int->Int->Int->List Ins->Bool->Nat),I 0 (b8 (j4 f)) (b8 (j4 t)) [] false/\∀(x x_2 x_3:Int)(x_4:List Ins)(x_5:Bool),I x x_2 x_3 x_4 x_5->(bR (x<(↑(S7 o f t).fst.length:Int)) (0<=x/\x<(↑(S7 o f t).fst.length:Int)/\(c6 (ix (S7 o f t).fst x).Day.Year->c6 (ix (S7 o f t).fst x).Day.Month->c6 (ix (S7 o f t).fst x).Day.Date->c6 (ix (S7 o f t).fst x).Hour->c6 (ix (S7 o f t).fst x).Min->c6 (ix (S7 o f t).fst x).D6->(bR (getM x_1 (j4 (ix (S7 o f t).fst x))=true) (c6 (x+1)/\I (x+1) x_2 x_3 x_4 (decide (x_5=true))/\m (x+1) x_2 x_3 x_4 (decide (x_5=true))<m x x_2 x_3 x_4 x_5) ((∀(z:V8),z∈o.c9->X3 z)/\(↑o.c9.length:Int)<=1000000/\(bR ((A0 (105:Nat) (Y1 o) (I9.mk (j4 (ix (S7 o f t).fst x)) o.Main.Start.I3)).snd≠n5.nil) (J (A0 (105:Nat) (Y1 o) (I9.mk (j4 (ix (S7 o f t).fst x)) o.Main.Start.I3)).snd x_2 x_3 x_4 (decide (x_5=true))) (((-1000000000000000:Int)<=b8 (j4 (A0 (105:Nat) (Y1 o) (I9.mk (j4 (ix (S7 o f t).fst x)) o.Main.Start.I3)).fst)+D2 (etI o.Main)/\b8 (j4 (A0 (105:Nat) (Y1 o) (I9.mk (j4 (ix (S7 o f t).fst x)) o.Main.Start.I3)).fst)+D2 (etI o.Main)<=1000000000000000/\x_4.length<=100000)/\c6 (x+1)/\I (x+1) x_2 x_3 (J0 x_2 x_3 (x_4,decide (x_5=true)) (j4 (A0 (105:Nat) (Y1 o) (I9.mk (j4 (ix (S7 o f t).fst x)) o.Main.Start.I3)).fst) (D2 (etI o.Main)) (j4 (ix (S7 o f t).fst x)) false).fst (decide ((J0 x_2 x_3 (x_4,decide (x_5=true)) (j4 (A0 (105:Nat) (Y1 o) (I9.mk (j4 (ix (S7 o f t).fst x)) o.Main.Start.I3)).fst) (D2 (etI o.Main)) (j4 (ix (S7 o f t).fst x)) false).snd=true))/\m (x+1) x_2 x_3 (J0 x_2 x_3 (x_4,decide (x_5=true)) (j4 (A0 (105:Nat) (Y1 o) (I9.mk (j4 (ix (S7 o f t).fst x)) o.Main.Start.I3)).fst) (D2 (etI o.Main)) (j4 (ix (S7 o f t).fst x)) false).fst (decide ((J0 x_2 x_3 (x_4,decide (x_5=true)) (j4 (A0 (105:Nat) (Y1 o) (I9.mk (j4 (ix (S7 o f t).fst x)) o.Main.Start.I3)).fst) (D2 (etI o.Main)) (j4 (ix (S7 o f t).fst x)) false).snd=true))<m x x_2 x_3 x_4 x_5)))))) (∃(I:Int->Int->Int->List Ins->Bool->Prop),∃(m:Int->Int->Int->List Ins->Bool->Nat),I 0 x_2 x_3 x_4 (decide (x_5=true))/\∀(x x_6 x_7:Int)(x_8:List Ins)(x_9:Bool),I x x_6 x_7 x_8 x_9->(bR (x<(↑o.Over.length:Int)) (0<=x/\x<(↑o.Over.length:Int)/\(0:Int)<=0/\0<(↑(ix o.Over x).n9.length:Int)/\(bR (¬getM x_1 (j4 (ix (ix o.Over x).n9 0).Time)=true) (c6 (x+1)/\I (x+1) x_6 x_7 x_8 (decide (x_9=true))/\m (x+1) x_6 x_7 x_8 (decide (x_9=true))<m x x_6 x_7 x_8 x_9) ((∀(z:V8),z∈o.c9->X3 z)/\(↑o.c9.length:Int)<=1000000/\(bR ((A0 (105:Nat) (Y1 o) (etM (ix o.Over x).Start)).snd≠n5.nil) (J (A0 (105:Nat) (Y1 o) (etM (ix o.Over x).Start)).snd x_6 x_7 x_8 (decide (x_9=true))) (((0:Int)<=0/\0<(↑(ix o.Over x).n9.length:Int))/\((-1000000000000000:Int)<=b8 (j4 (A0 (105:Nat) (Y1 o) (etM (ix o.Over x).Start)).fst)+D2 (etI (ix o.Over x))/\b8 (j4 (A0 (105:Nat) (Y1 o) (etM (ix o.Over x).Start)).fst)+D2 (etI (ix o.Over x))<=1000000000000000/\x_8.length<=100000)/\c6 (x+1)/\I (x+1) x_6 x_7 (J0 x_6 x_7 (x_8,decide (x_9=true)) (j4 (A0 (105:Nat) (Y1 o) (etM (ix o.Over x).Start)).fst) (D2 (etI (ix o.Over x))) (j4 (ix (ix o.Over x).n9 0).Time) true).fst (decide ((J0 x_6 x_7 (x_8,decide (x_9=true)) (j4 (A0 (105:Nat) (Y1 o) (etM (ix o.Over x).Start)).fst) (D2 (etI (ix o.Over x))) (j4 (ix (ix o.Over x).n9 0).Time) true).snd=true))/\m (x+1) x_6 x_7 (J0 x_6 x_7 (x_8,decide (x_9=true)) (j4 (A0 (105:Nat) (Y1 o) (etM (ix o.Over x).Start)).fst) (D2 (etI (ix o.Over x))) (j4 (ix (ix o.Over x).n9 0).Time) true).fst (decide ((J0 x_6 x_7 (x_8,decide (x_9=true)) (j4 (A0 (105:Nat) (Y1 o) (etM (ix o.Over x).Start)).fst) (D2 (etI (ix o.Over x))) (j4 (ix (ix o.Over x).n9 0).Time) true).snd=true))<m x x_6 x_7 x_8 x_9))))) (J n5.nil x_6 x_7 x_8 (decide (x_9=true)))))))))))/\∀(x:n5)(x_1 x_2:Int)(x_3:List Ins)(x_4:Bool),J x x_1 x_2 x_3 x_4->(bR (x≠n5.nil) (asB x=true/\Q [] (V2 x)) ((bR (x_4=true) (Q [] (n5.no 3)) ((bR (1000<(↑x_3.length:Int)) (Q [] (n5.no 16)) (x_3.length<=1000000/\(∀(x:Ins),x∈x_3->∀(y:Ins),y∈x_3->b8 x.Start=b8 y.Start->b8 x.j8=b8 y.j8->x=y)/\Q (a6R x_3) n5.nil))))))))))
def c6M(o:F3)(t:Tm):asB (a02 105 o t).2=true:=by
 have h:∀(l:List Rl)(b:Bool),asB (a4B 105 o.Main.Start.Time t b l).2=true:=by
  intro l
  induction l with
  |nil=>intro b;rfl
  |cons r l ih=>intro b;unfold a4B;split;exact ih _;rfl
 unfold a02;dsimp only;split
 . rfl
 . exact h _ _
def d0Z(o:F3)(a b:Int):asB (R4 105 o a b).2=true:=by
 have h:∀(l:List Rl)(x:List Tm),asB (tmE 105 o a b x l).2=true:=by
  intro l
  induction l with
  |nil=>intro x;rfl
  |cons r l ih=>intro x;unfold tmE;split;exact ih _;rfl
 unfold R4;split
 . rfl
 . exact h _ _
def b5H(o:F3)(m:I9):asB (A0 105 o m).2=true:=by
 unfold A0
 first|exact b0u _ _|(split;rfl;exact b0u _ _)
def pqi(o:F3)(f:Tm)(t:Tm)(ho:a36 o):Vqi o f t (fun y0 y1=>y0=(N1 105 o f t).1/\y1=(N1 105 o f t).2):=by
 unfold Vqi S7;simp only[y6,A7,B3,C5,C4,C6,C8,C3,B9,D0,B7,d4C,d7G,d8v,d8u];have hz:=ho.2.2.2.2.2.2.2.1;have hzl:=ho.2.2.1;have hfi:=ho.2.2.2.2.2.2.1;have hol:=ho.2.2.2.1;generalize hF:b8 f=F at *;generalize hT:b8 t=T at *;refine⟨ho,fun h=>?_,fun h=>?_⟩
 . have e:N1 105 o f t=([],.no 2):=by
     unfold N1;refine if_neg fun hA=>?_;obtain⟨a1,a2,a3,a4,a5,a6⟩:=hA;rcases h with((((h|h)|h)|h)|h)|h
     . exact h (z6.2 a1)
     . exact h a2
     . exact h a3
     . exact h a4
     . exact h a5
     . omega
   rw[e];exact⟨rfl,rfl⟩
 have hO:a0t o:=z6.1 (d4v.1 fun e=>h (.inl (.inl (.inl (.inl (.inl e))))));have hf:p6 f=true:=d4v.1 fun e=>h (.inl (.inl (.inl (.inl (.inr e)))));have ht:p6 t=true:=d4v.1 fun e=>h (.inl (.inl (.inl (.inr e))));have hfu:f.UTC=true:=d4v.1 fun e=>h (.inl (.inl (.inr e)));have htu:t.UTC=true:=d4v.1 fun e=>h (.inl (.inr e));have hle:¬T<F:=fun e=>h (.inr e);clear h;have hI:=hO.2.2.2.1;have hA:c2x o f t:=⟨hO,hf,ht,hfu,htu,by omega⟩;have hln:=b0P hI;have sf:=Go.Re.w6 hf;have st:=Go.Re.w6 ht;rw[hF]at sf;rw[hT]at st;have htm:a2g o.Main/\(0<=D2 o.Main/\D2 o.Main<=400000000000)/\(0<=F/\F<315537897600)/\(0<=T/\T<315537897600)/\b10 (tmA 105 o F T):=⟨hfi,hln,sf,st,b6z hI⟩;have eq0:N1 105 o f t=if(R4 105 o F T).2=.nil then
   if(gaS 105 o F T).2=.nil then
    if(gaS 105 o F T).1.2=true then([],.no 3)else
    if 1000<(gaS 105 o F T).1.1.length then([],.no 16)else
    (a6R (gaS 105 o F T).1.1,.nil)
   else([],V2 (gaS 105 o F T).2)
  else([],V2 (R4 105 o F T).2):=by
  unfold N1;rw[if_pos hA,hF,hT]
 have key:∀i:Int,0<=i->i<o.Over.length->0<((ix o.Over i).n9.length:Int):=fun i i0 hi=>by have:=(hO.2.2.2.2.2 i i0 hi).1;omega
 refine⟨htm,fun he=>⟨d0Z _ _ _,?_⟩,fun he=>?_⟩
 . rw[eq0,if_neg he];exact⟨rfl,rfl⟩
 have he2:(R4 105 o F T).2=.nil:=d4v.1 he;rw[if_pos he2]at eq0;have hTl:=@c66 105 o F T hfi;refine⟨fun e _ _ l p=>asB e=true/\(gaS 105 o F T).2=e/\(e=.nil->(gaS 105 o F T).1=(l,p)),⟨fun i m=>0<=i/\i<=o.Over.length/\ovM 105 o [] o.Over=ovM 105 o m (o.Over.drop i.toNat),fun i _=>((o.Over.length:Int)-i).toNat,⟨by omega,by omega,rfl⟩,?_⟩,?_⟩
 . rintro i m ⟨i0,i1,hm⟩;refine⟨fun hi=>?_,fun hi=>?_⟩
   . rw[a5T i0 hi,ovM]at hm;unfold K5 at hm;have hr:=key i i0 hi;refine⟨i0,hi,⟨by omega,hr⟩,hfi,fun he=>⟨c6M _ _,?_,fun e=>absurd e he⟩,fun he=>⟨by omega,hr,⟨by omega,by omega⟩,⟨by omega,by omega,?_⟩,by dsimp only;omega⟩⟩
     . rw[if_neg he]at hm;rw[d02 (by rw[hm];exact he),hm]
     . rw[if_pos (d4v.1 he)]at hm;exact hm
   rw[d6e (by omega),ovM]at hm;have o1:(ovM 105 o [] o.Over).2=.nil:=by rw[hm]
   have o2:(ovM 105 o [] o.Over).1=m:=by rw[hm]
   have o0:q9 (o.Over.length:Int) fun _=>True:=fun _ _ _=>trivial;clear i0 i1 hi hm i;refine⟨htm,fun he=>absurd he2 he,fun _=>?_⟩;refine⟨fun i a' b' l p=>F=a'/\T=b'/\0<=i/\i<=(R4 105 o F T).1.length/\(l.length:Int)<=i/\ga1 105 o F T m ([],false) (R4 105 o F T).1=ga1 105 o F T m (l,p) ((R4 105 o F T).1.drop i.toNat),fun i _ _ _ _=>(((R4 105 o F T).1.length:Int)-i).toNat,⟨rfl,rfl,by omega,by omega,by show(0:Int)<=0;omega,rfl⟩,?_⟩;rintro i a' b' l p ⟨rfl,rfl,i0,i1,hll,hm⟩;refine⟨fun hi=>?_,fun hi=>?_⟩
   . rw[a5T i0 hi,ga1]at hm;unfold moI at hm;refine⟨i0,hi,fun _ _ _ _ _ _=>⟨fun hg=>⟨⟨by omega,by omega⟩,⟨rfl,rfl,by omega,by omega,by omega,?_⟩,by dsimp only;omega⟩,fun hg=>⟨hz,by omega,fun he=>⟨b5H _ _,?_,fun e=>absurd e he⟩,fun he=>⟨⟨?_,?_,by omega⟩,⟨by omega,by omega⟩,⟨rfl,rfl,by omega,by omega,?_,?_⟩,by dsimp only;omega⟩⟩⟩⟩
     . rw[if_pos hg]at hm;exact hm
     . rw[if_neg hg,if_neg he]at hm;rw[<- o2]at hm;rw[c9n o1 he2 (by rw[hm];exact he),hm]
     all_goals have he:=d4v.1 he
     . have g:=b0G (c1N hI he2 (u7 i0 hi)).rt (m:=⟨ix (R4 105 o F T).1 i,o.Main.Start.I3⟩) he;have:=a1X (ix (R4 105 o F T).1 i);have g2:-86400<_-b8 (ix (R4 105 o F T).1 i):=g.2.1;omega
     . have:=a1X (A0 105 o ⟨ix (R4 105 o F T).1 i,o.Main.Start.I3⟩).1;omega
     . have:=b1e F T (l,p) (A0 105 o ⟨ix (R4 105 o F T).1 i,o.Main.Start.I3⟩).1 (D2 o.Main) (ix (R4 105 o F T).1 i) false;dsimp only at this;omega
     . rw[if_neg hg,if_pos he]at hm;exact hm
   rw[d6e (by omega),ga1]at hm;rw[<- o2]at hm;have o3:(ga1 105 o F T (ovM 105 o [] o.Over).1 ([],false) (R4 105 o F T).1).2=.nil:=by rw[hm]
   have hg4:=c8E o1 he2 o3;rw[hm,o2]at hg4;dsimp only at hg4;have hl0:(l.length:Int)<=1200:=by omega
   clear i0 i1 hll hi hm i o3;refine⟨fun i a' b' l p=>F=a'/\T=b'/\0<=i/\i<=o.Over.length/\(l.length:Int)<=1200+i/\gaS 105 o F T=ga2 105 o F T m (l,p) (o.Over.drop i.toNat),fun i _ _ _ _=>((o.Over.length:Int)-i).toNat,⟨rfl,rfl,by omega,by omega,by omega,hg4⟩,?_⟩;clear hg4 hl0 l p;rintro i a' b' l p ⟨rfl,rfl,i0,i1,hll,hm⟩;refine⟨fun hi=>?_,fun hi=>?_⟩
   . rw[a5T i0 hi,ga2]at hm;unfold K5 at hm;have hr:=key i i0 hi;refine⟨i0,hi,by omega,hr,fun hg=>⟨⟨by omega,by omega⟩,⟨rfl,rfl,by omega,by omega,by omega,?_⟩,by dsimp only;omega⟩,fun hg=>⟨hz,by omega,fun he=>⟨b5H _ _,?_,fun e=>absurd e he⟩,fun he=>⟨⟨by omega,hr⟩,⟨?_,?_,by omega⟩,⟨by omega,by omega⟩,⟨rfl,rfl,by omega,by omega,?_,?_⟩,by dsimp only;omega⟩⟩⟩
     . rw[if_pos hg]at hm;exact hm
     . rw[if_neg hg,if_neg he]at hm;rw[hm]
     all_goals have he:=d4v.1 he
     all_goals have hx:=(a3Q hO (u7 i0 hi)).2
     all_goals have hlx:=b0P hx
     . have g:=b0G hx.1.1 he;have:=a1X (ix o.Over i).Start.Time;omega
     . have:=a1X (A0 105 o (ix o.Over i).Start).1;omega
     . have:=b1e F T (l,p) (A0 105 o (ix o.Over i).Start).1 (D2 (ix o.Over i)) (ix (ix o.Over i).n9 0).Time true;dsimp only at this;omega
     . rw[if_neg hg,if_pos he]at hm;exact hm
   . rw[d6e (by omega),ga2]at hm;rw[hm];exact⟨rfl,rfl,fun _=>rfl⟩
 . rintro e a' b' l p ⟨ha,hg,hn⟩;refine⟨fun he=>⟨ha,?_⟩,fun he=>?_⟩
   . rw[eq0,if_neg (by rw[hg];exact he),hg];exact⟨rfl,rfl⟩
   have he:=d4v.1 he;have hn:=hn he;rw[he]at hg;rw[if_pos hg,hn]at eq0;dsimp only at eq0;refine⟨fun hp=>?_,fun hp=>⟨fun hk=>?_,fun hk=>⟨by omega,fun x hx y hy e1 e2=>?_,?_⟩⟩⟩
   . rw[eq0,if_pos hp];exact⟨rfl,rfl⟩
   . rw[eq0,if_neg hp,if_pos (by omega)];exact⟨rfl,rfl⟩
   . have ht:=c7H hO hg;rw[hn]at ht;exact ht x hx y hy e1 e2
   . rw[eq0,if_neg hp,if_neg (by omega)];exact⟨rfl,rfl⟩
def Nqi:Env:=d1j.kD 9 (r38.c (r26.c (r26.c .n))) (.acc 48) (.err) (fun y=>[a36 y.1]) (fun y=>((N1 105 y.1 y.2.1 y.2.2.1).1:List Ins)) (fun y=>((N1 105 y.1 y.2.1 y.2.2.1).2:n5))
def Nqi_ok:c8 Nqi:=NI28_ok.kD Tryz.call9 Tryz.func9 (inlHN_ok NI28_ok H0_ok d0Y 5) (an:=d0Y 9) (fun _=>rfl) fun y ho=>kc (pqi y.1 y.2.1 y.2.2.1 ho.1) (by kernel_rfl)
end Go.Proofs.YtapnoejokajcoaaGreatDoor
namespace Go.Qu
open Go Go.Wk Go.Wl Go.Rx Go.Re Go.Li Go.Fo
noncomputable section
def J4(d:Int):Tm:=⟨⟨2000,1,d⟩,0,0,0,false,true⟩
def b4e:Rl:=Rl.mk 3 1 0 [] [] [] [] [] [] [] [] [] [] 0
def oEx:F3:=⟨evN,[117],[],⟨⟨dyS 2000 1 1,[]⟩,[],[],[b4e],[],[⟨dyS 2000 1 2,[]⟩],[],[],[]⟩,[],[]⟩
def b5J:A1 (dyS 2000 1 1) b4e:=by refine⟨by decide,q8.2 ⟨by decide,⟨by decide,fun h=>absurd h (by decide)⟩,b6O,by decide,⟨fun i h0 h1=>absurd h1 (by simp[b4e];omega),fun i h0 h1=>absurd h1 (by simp[b4e];omega)⟩,by decide,by decide⟩,fun h=>absurd h (by decide),fun _=>by decide⟩
def b5y(d:Int)(h:p6 (dyS 2000 1 d)=true):V4 [] ⟨dyS 2000 1 d,[]⟩:=⟨h,fun h=>absurd rfl h⟩
def c6w:V5 [] oEx.Main:=by
 refine⟨b5y 1 (by decide),by decide,by decide,by decide,fun i h0 h1=>absurd h1 (by simp[oEx];omega),fun i h0 h1=>absurd h1 (by simp[oEx];omega),fun i h0 h1=>?_,fun i h0 h1=>absurd h1 (by simp[oEx];omega),fun i h0 h1=>absurd h1 (by simp[oEx];omega),?_,?_,?_⟩
 . have h1:i<1:=h1;have:i=0:=by omega
   subst this;exact J3.2 b5J
 . exact⟨fun i h0 h1=>absurd h1 (by simp[oEx];omega),by decide⟩
 . refine⟨fun i h0 h1=>?_,by decide⟩;have h1:i<1:=h1;have:i=0:=by omega
   subst this;exact⟨b5y 2 (by decide),by decide,fun h=>by omega⟩
 . exact⟨fun i h0 h1=>absurd h1 (by simp[oEx];omega),by decide⟩
def b8v:a0t oEx:=by refine⟨⟨.inl rfl,by decide,by decide,by decide,by decide,by decide⟩,by decide,?_,c6w,fun i h0 h1=>absurd h1 (by simp[oEx];omega),fun i h0 h1=>absurd h1 (by simp[oEx];omega)⟩;exact⟨fun i h0 h1=>absurd h1 (by simp[oEx];omega),by decide⟩
def lEx:List Tm:=[dyS 2000 1 1,dyS 2000 1 3,dyS 2000 1 4,dyS 2000 1 5]
def c5b(qa:Nat):R4 qa oEx (b8 (J4 1)) (b8 (J4 4))=(lEx,.nil):=by
 have he:J5 (dyS 2000 1 1) b4e (X8 (b8 (J4 1)-172800-D2 oEx.Main) (dyS 2000 1 1)) (X8 (b8 (J4 4)+172800) (dyS 2000 1 1))=([dyS 2000 1 1,dyS 2000 1 2,dyS 2000 1 3,dyS 2000 1 4,dyS 2000 1 5],.nil):=
  c1W b5J (by decide) (by decide) (by kernel_rfl) (by kernel_rfl)
 have h1:tmE qa oEx (b8 (J4 1)) (b8 (J4 4)) [oEx.Main.Start.Time] oEx.Main.b9=([dyS 2000 1 1,dyS 2000 1 2,dyS 2000 1 3,dyS 2000 1 4,dyS 2000 1 5],.nil):=by
  show tmE qa oEx (b8 (J4 1)) (b8 (J4 4)) [dyS 2000 1 1] [b4e]=_
  have e:tmR oEx (b8 (J4 1)) (b8 (J4 4)) b4e=_:=he;rw[tmE,if_pos (by rw[e]),e,tmE]
 have h2:tmA qa oEx (b8 (J4 1)) (b8 (J4 4))=lEx:=by unfold tmA;rw[h1];kernel_rfl
 have h3:a6X lEx=lEx:=d7g (by decide);have h4:ded lEx=lEx:=by kernel_rfl
 unfold R4;rw[if_pos (by rw[h1]),h2,h3,h4]
def b3s(qa:Nat):N1 qa oEx (J4 1) (J4 4)=([⟨J4 1,J4 2,dyS 2000 1 1,false⟩,⟨J4 3,J4 4,dyS 2000 1 3,false⟩],.nil):=by
 have hg:gaS qa oEx (b8 (J4 1)) (b8 (J4 4))=(([⟨J4 1,J4 2,dyS 2000 1 1,false⟩,⟨J4 3,J4 4,dyS 2000 1 3,false⟩],false),.nil):=by unfold gaS;rw[c5b];kernel_rfl
 have hs:a6R [⟨J4 1,J4 2,dyS 2000 1 1,false⟩,⟨J4 3,J4 4,dyS 2000 1 3,false⟩]=[⟨J4 1,J4 2,dyS 2000 1 1,false⟩,⟨J4 3,J4 4,dyS 2000 1 3,false⟩]:=d7g (by decide);have hA:c2x oEx (J4 1) (J4 4):=⟨b8v,by decide,by decide,rfl,rfl,by decide⟩;unfold N1;rw[if_pos hA,hg,c5b];show(if n5.nil=n5.nil then _ else _)=_
 rw[if_pos rfl];show(if n5.nil=n5.nil then _ else _)=_
 rw[if_pos rfl,if_neg (by decide),if_neg (by decide)];show(a6R _,n5.nil)=_
 rw[hs]
def c3e:b79 oEx oEx.Main=86400:=by unfold b79;rw[if_pos ⟨b8v,by decide⟩];decide
def c1o:a36 oEx:=
 ⟨by decide,by decide,by decide,by decide,(fun _ h=>by cases h),by decide,⟨by decide,by decide,by decide,by decide,by decide,by decide,by decide,(fun r hr=>by rw[d4D.1 hr];decide),(fun _ h=>by cases h),(fun _ h=>by cases h),by decide⟩,(fun _ h=>by cases h),(fun _ h=>by cases h)⟩
end
end Go.Qu
namespace Go.Proofs.YtapnoejokajcoaaGreatDoor
open Go Go.Wk Go.Wl Go.Rx Go.Re Go.Li Go.Qu Go.Fo 
attribute [local irreducible] i7
def c5c:Nat->D1:=fun|8=>⟨43,nn,nn⟩|_=>⟨0,nn,nn⟩
def d0e  (Q:Bool->Prop):Prop:=
a36 (F3.mk [(86:UInt8),(69:UInt8),(86:UInt8),(69:UInt8),(78:UInt8),(84:UInt8)] [(117:UInt8)] [] (Q8.mk (I9.mk (Tm.mk (Dy.mk (2000:Int) (1:Int) (1:Int)) (0:Int) (0:Int) (0:Int) (decide (true=true)) (decide (false=true))) []) [] [] [Rl.mk (3:Int) (1:Int) (0:Int) [] [] [] [] [] [] [] [] [] [] (0:Int)] [] [I9.mk (Tm.mk (Dy.mk (2000:Int) (1:Int) (2:Int)) (0:Int) (0:Int) (0:Int) (decide (true=true)) (decide (false=true))) []] [] [] []) [] [])/\((N1 (105:Nat) (F3.mk [(86:UInt8),(69:UInt8),(86:UInt8),(69:UInt8),(78:UInt8),(84:UInt8)] [(117:UInt8)] [] (Q8.mk (I9.mk (Tm.mk (Dy.mk (2000:Int) (1:Int) (1:Int)) (0:Int) (0:Int) (0:Int) (decide (true=true)) (decide (false=true))) []) [] [] [Rl.mk (3:Int) (1:Int) (0:Int) [] [] [] [] [] [] [] [] [] [] (0:Int)] [] [I9.mk (Tm.mk (Dy.mk (2000:Int) (1:Int) (2:Int)) (0:Int) (0:Int) (0:Int) (decide (true=true)) (decide (false=true))) []] [] [] []) [] []) (Tm.mk (Dy.mk (2000:Int) (1:Int) (1:Int)) (0:Int) (0:Int) (0:Int) (decide (false=true)) (decide (true=true))) (Tm.mk (Dy.mk (2000:Int) (1:Int) (4:Int)) (0:Int) (0:Int) (0:Int) (decide (false=true)) (decide (true=true)))).snd.nr=(0:Int)->(↑(N1 (105:Nat) (F3.mk [(86:UInt8),(69:UInt8),(86:UInt8),(69:UInt8),(78:UInt8),(84:UInt8)] [(117:UInt8)] [] (Q8.mk (I9.mk (Tm.mk (Dy.mk (2000:Int) (1:Int) (1:Int)) (0:Int) (0:Int) (0:Int) (decide (true=true)) (decide (false=true))) []) [] [] [Rl.mk (3:Int) (1:Int) (0:Int) [] [] [] [] [] [] [] [] [] [] (0:Int)] [] [I9.mk (Tm.mk (Dy.mk (2000:Int) (1:Int) (2:Int)) (0:Int) (0:Int) (0:Int) (decide (true=true)) (decide (false=true))) []] [] [] []) [] []) (Tm.mk (Dy.mk (2000:Int) (1:Int) (1:Int)) (0:Int) (0:Int) (0:Int) (decide (false=true)) (decide (true=true))) (Tm.mk (Dy.mk (2000:Int) (1:Int) (4:Int)) (0:Int) (0:Int) (0:Int) (decide (false=true)) (decide (true=true)))).fst.length:Int)<=(1000000:Int)/\(bo ((N1 (105:Nat) (F3.mk [(86:UInt8),(69:UInt8),(86:UInt8),(69:UInt8),(78:UInt8),(84:UInt8)] [(117:UInt8)] [] (Q8.mk (I9.mk (Tm.mk (Dy.mk (2000:Int) (1:Int) (1:Int)) (0:Int) (0:Int) (0:Int) (decide (true=true)) (decide (false=true))) []) [] [] [Rl.mk (3:Int) (1:Int) (0:Int) [] [] [] [] [] [] [] [] [] [] (0:Int)] [] [I9.mk (Tm.mk (Dy.mk (2000:Int) (1:Int) (2:Int)) (0:Int) (0:Int) (0:Int) (decide (true=true)) (decide (false=true))) []] [] [] []) [] []) (Tm.mk (Dy.mk (2000:Int) (1:Int) (1:Int)) (0:Int) (0:Int) (0:Int) (decide (false=true)) (decide (true=true))) (Tm.mk (Dy.mk (2000:Int) (1:Int) (4:Int)) (0:Int) (0:Int) (0:Int) (decide (false=true)) (decide (true=true)))).fst=[Ins.mk (Tm.mk (Dy.mk (2000:Int) (1:Int) (1:Int)) (0:Int) (0:Int) (0:Int) (decide (false=true)) (decide (true=true))) (Tm.mk (Dy.mk (2000:Int) (1:Int) (2:Int)) (0:Int) (0:Int) (0:Int) (decide (false=true)) (decide (true=true))) (Tm.mk (Dy.mk (2000:Int) (1:Int) (1:Int)) (0:Int) (0:Int) (0:Int) (decide (true=true)) (decide (false=true))) false,Ins.mk (Tm.mk (Dy.mk (2000:Int) (1:Int) (3:Int)) (0:Int) (0:Int) (0:Int) (decide (false=true)) (decide (true=true))) (Tm.mk (Dy.mk (2000:Int) (1:Int) (4:Int)) (0:Int) (0:Int) (0:Int) (decide (false=true)) (decide (true=true))) (Tm.mk (Dy.mk (2000:Int) (1:Int) (3:Int)) (0:Int) (0:Int) (0:Int) (decide (true=true)) (decide (false=true))) false])=true->a36 (F3.mk [(86:UInt8),(69:UInt8),(86:UInt8),(69:UInt8),(78:UInt8),(84:UInt8)] [(117:UInt8)] [] (Q8.mk (I9.mk (Tm.mk (Dy.mk (2000:Int) (1:Int) (1:Int)) (0:Int) (0:Int) (0:Int) (decide (true=true)) (decide (false=true))) []) [] [] [Rl.mk (3:Int) (1:Int) (0:Int) [] [] [] [] [] [] [] [] [] [] (0:Int)] [] [I9.mk (Tm.mk (Dy.mk (2000:Int) (1:Int) (2:Int)) (0:Int) (0:Int) (0:Int) (decide (true=true)) (decide (false=true))) []] [] [] []) [] []))/\Q (decide (bo ((N1 (105:Nat) (F3.mk [(86:UInt8),(69:UInt8),(86:UInt8),(69:UInt8),(78:UInt8),(84:UInt8)] [(117:UInt8)] [] (Q8.mk (I9.mk (Tm.mk (Dy.mk (2000:Int) (1:Int) (1:Int)) (0:Int) (0:Int) (0:Int) (decide (true=true)) (decide (false=true))) []) [] [] [Rl.mk (3:Int) (1:Int) (0:Int) [] [] [] [] [] [] [] [] [] [] (0:Int)] [] [I9.mk (Tm.mk (Dy.mk (2000:Int) (1:Int) (2:Int)) (0:Int) (0:Int) (0:Int) (decide (true=true)) (decide (false=true))) []] [] [] []) [] []) (Tm.mk (Dy.mk (2000:Int) (1:Int) (1:Int)) (0:Int) (0:Int) (0:Int) (decide (false=true)) (decide (true=true))) (Tm.mk (Dy.mk (2000:Int) (1:Int) (4:Int)) (0:Int) (0:Int) (0:Int) (decide (false=true)) (decide (true=true)))).fst=[Ins.mk (Tm.mk (Dy.mk (2000:Int) (1:Int) (1:Int)) (0:Int) (0:Int) (0:Int) (decide (false=true)) (decide (true=true))) (Tm.mk (Dy.mk (2000:Int) (1:Int) (2:Int)) (0:Int) (0:Int) (0:Int) (decide (false=true)) (decide (true=true))) (Tm.mk (Dy.mk (2000:Int) (1:Int) (1:Int)) (0:Int) (0:Int) (0:Int) (decide (true=true)) (decide (false=true))) false,Ins.mk (Tm.mk (Dy.mk (2000:Int) (1:Int) (3:Int)) (0:Int) (0:Int) (0:Int) (decide (false=true)) (decide (true=true))) (Tm.mk (Dy.mk (2000:Int) (1:Int) (4:Int)) (0:Int) (0:Int) (0:Int) (decide (false=true)) (decide (true=true))) (Tm.mk (Dy.mk (2000:Int) (1:Int) (3:Int)) (0:Int) (0:Int) (0:Int) (decide (true=true)) (decide (false=true))) false])=true/\b79 (F3.mk [(86:UInt8),(69:UInt8),(86:UInt8),(69:UInt8),(78:UInt8),(84:UInt8)] [(117:UInt8)] [] (Q8.mk (I9.mk (Tm.mk (Dy.mk (2000:Int) (1:Int) (1:Int)) (0:Int) (0:Int) (0:Int) (decide (true=true)) (decide (false=true))) []) [] [] [Rl.mk (3:Int) (1:Int) (0:Int) [] [] [] [] [] [] [] [] [] [] (0:Int)] [] [I9.mk (Tm.mk (Dy.mk (2000:Int) (1:Int) (2:Int)) (0:Int) (0:Int) (0:Int) (decide (true=true)) (decide (false=true))) []] [] [] []) [] []) (Q8.mk (I9.mk (Tm.mk (Dy.mk (2000:Int) (1:Int) (1:Int)) (0:Int) (0:Int) (0:Int) (decide (true=true)) (decide (false=true))) []) [] [] [Rl.mk (3:Int) (1:Int) (0:Int) [] [] [] [] [] [] [] [] [] [] (0:Int)] [] [I9.mk (Tm.mk (Dy.mk (2000:Int) (1:Int) (2:Int)) (0:Int) (0:Int) (0:Int) (decide (true=true)) (decide (false=true))) []] [] [] [])=(86400:Int))))/\(¬(N1 (105:Nat) (F3.mk [(86:UInt8),(69:UInt8),(86:UInt8),(69:UInt8),(78:UInt8),(84:UInt8)] [(117:UInt8)] [] (Q8.mk (I9.mk (Tm.mk (Dy.mk (2000:Int) (1:Int) (1:Int)) (0:Int) (0:Int) (0:Int) (decide (true=true)) (decide (false=true))) []) [] [] [Rl.mk (3:Int) (1:Int) (0:Int) [] [] [] [] [] [] [] [] [] [] (0:Int)] [] [I9.mk (Tm.mk (Dy.mk (2000:Int) (1:Int) (2:Int)) (0:Int) (0:Int) (0:Int) (decide (true=true)) (decide (false=true))) []] [] [] []) [] []) (Tm.mk (Dy.mk (2000:Int) (1:Int) (1:Int)) (0:Int) (0:Int) (0:Int) (decide (false=true)) (decide (true=true))) (Tm.mk (Dy.mk (2000:Int) (1:Int) (4:Int)) (0:Int) (0:Int) (0:Int) (decide (false=true)) (decide (true=true)))).snd.nr=(0:Int)->Q false)
def d3g   : d0e  (fun y0=>y0=true):=by
 unfold d0e;refine⟨c1o,fun _=>⟨?_,fun _=>c1o,d4K ⟨?_,c3e⟩⟩,fun h=>absurd ?_ h⟩
 . show((N1 105 oEx (J4 1) (J4 4)).1.length:Int)<=1000000
   rw[b3s];decide
 . refine z6.2 ?_;show(N1 105 oEx (J4 1) (J4 4)).1=_
   rw[b3s];rfl
 . show(N1 105 oEx (J4 1) (J4 4)).2.nr=0
   rw[b3s];rfl
def d3S:Env:=Nqi.kL 8 AL.n (.bool) (fun _=>[]) (fun y=>true)
def Nl4v_ok:c8 d3S:=Nqi_ok.kL Tryz.call8 Tryz.func8 (inlHN_ok Nqi_ok H0_ok c5c 2) (an:=c5c 8) (fun _ _=>trivial) fun y ho=>kc (d3g  ) (by kernel_rfl)
def c5e:Nat->D1:=fun|3=>⟨161,fun|7=>some ⟨[3,4,5,7,38,39],[.slot 40 (.int .i64)]⟩|21=>some ⟨[3,4,5,7,10,38,39,40,125,126],[.slot 14 .bool,.slot 127 (.int .i64)]⟩|15=>some ⟨[3,4,5,7,9,10,38,39,40],[.slot 13 (.int .i64)]⟩|_=>none,nn⟩|_=>⟨0,nn,nn⟩
def u6(o:F3)(f:Tm)(t:Tm):=N1 (105:Nat) (Y1 o) (j4 f) (j4 t)
def T9(o:F3)(x_3:Int):=ix (ix o.Over x_3).n9 0
def d1i(o:F3)(f:Tm)(t:Tm)(Q:Bool->Prop):Prop:=
(↑(a5A (Y1 o) (j4 t)).length:Int)<=1000000/\(↑o.Main.b9.length:Int)<=1000000/\(↑(List.length o.Kind):Int)<=140737488355328/\(↑(List.length o.UID):Int)<=140737488355328/\(bR (¬c2e (Y1 o) (j4 t)=true) (Q (decide (true=true))) (a36 (Y1 o)/\(bR ((u6 o f t).snd.nr≠0) (Q (decide ((↑(u6 o f t).fst.length:Int)=0/\true=true))) (∃(I:Int->Prop),∃(m:Int->Nat),I 0/\∀(x:Int),I x->(bR (x<(↑(u6 o f t).fst.length:Int)) (0<=x/\x<(↑(u6 o f t).fst.length:Int)/\c6 (b8 (j4 (ix (u6 o f t).fst x).End)-b8 (j4 (ix (u6 o f t).fst x).Start))/\(¬(b8 (j4 t)<=b8 (j4 (ix (u6 o f t).fst x).Start)∨b8 (j4 (ix (u6 o f t).fst x).End)-b8 (j4 (ix (u6 o f t).fst x).Start)<0)->c6 (b8 (j4 (ix (u6 o f t).fst x).Start)+(b8 (j4 (ix (u6 o f t).fst x).End)-b8 (j4 (ix (u6 o f t).fst x).Start))))/\(¬((b8 (j4 t)<=b8 (j4 (ix (u6 o f t).fst x).Start)∨b8 (j4 (ix (u6 o f t).fst x).End)-b8 (j4 (ix (u6 o f t).fst x).Start)<0)∨b8 (j4 (ix (u6 o f t).fst x).Start)+(b8 (j4 (ix (u6 o f t).fst x).End)-b8 (j4 (ix (u6 o f t).fst x).Start))<b8 (j4 f))/\0<b8 (j4 (ix (u6 o f t).fst x).End)-b8 (j4 (ix (u6 o f t).fst x).Start)->c6 (b8 (j4 (ix (u6 o f t).fst x).Start)+(b8 (j4 (ix (u6 o f t).fst x).End)-b8 (j4 (ix (u6 o f t).fst x).Start))))/\(bR (((((b8 (j4 t)<=b8 (j4 (ix (u6 o f t).fst x).Start)∨b8 (j4 (ix (u6 o f t).fst x).End)-b8 (j4 (ix (u6 o f t).fst x).Start)<0)∨b8 (j4 (ix (u6 o f t).fst x).Start)+(b8 (j4 (ix (u6 o f t).fst x).End)-b8 (j4 (ix (u6 o f t).fst x).Start))<b8 (j4 f))∨0<b8 (j4 (ix (u6 o f t).fst x).End)-b8 (j4 (ix (u6 o f t).fst x).Start)/\b8 (j4 (ix (u6 o f t).fst x).Start)+(b8 (j4 (ix (u6 o f t).fst x).End)-b8 (j4 (ix (u6 o f t).fst x).Start))=b8 (j4 f))∨¬(ix (u6 o f t).fst x).Start.UTC=true)∨¬(ix (u6 o f t).fst x).End.UTC=true) (Q false) ((0<x->c6 (x-1))/\(0<x->0<=x-1)/\(0<x->x-1<(↑(u6 o f t).fst.length:Int))/\(bR (0<x/\b8 (j4 (ix (u6 o f t).fst x).Start)<b8 (j4 (ix (u6 o f t).fst (x-1)).Start)) (Q false) (c6 (x-20)/\∃(I_1:Int->Prop),∃(m_1:Int->Nat),I_1 (bif true then max (0:Int) (x-20)else min (0:Int) (x-20))/\∀(x_1:Int),I_1 x_1->(bR (x_1<x) (0<=x_1/\x_1<(↑(u6 o f t).fst.length:Int)/\(bR (((ix (u6 o f t).fst x_1).j8.Day.Year=(ix (u6 o f t).fst x).j8.Day.Year/\(ix (u6 o f t).fst x_1).j8.Day.Month=(ix (u6 o f t).fst x).j8.Day.Month/\(ix (u6 o f t).fst x_1).j8.Day.Date=(ix (u6 o f t).fst x).j8.Day.Date/\True)/\(ix (u6 o f t).fst x_1).j8.Hour=(ix (u6 o f t).fst x).j8.Hour/\(ix (u6 o f t).fst x_1).j8.Min=(ix (u6 o f t).fst x).j8.Min/\(ix (u6 o f t).fst x_1).j8.D6=(ix (u6 o f t).fst x).j8.D6/\((ix (u6 o f t).fst x_1).j8.l9=true↔(ix (u6 o f t).fst x).j8.l9=true)/\((ix (u6 o f t).fst x_1).j8.UTC=true↔(ix (u6 o f t).fst x).j8.UTC=true)/\True) (Q false) (c6 (x_1+1)/\I_1 (x_1+1)/\m_1 (x_1+1)<m_1 x_1))) (∃(I_2:Bool->Int->Prop),∃(m_2:Bool->Int->Nat),I_2 false 0/\∀(x_2:Bool)(x_3:Int),I_2 x_2 x_3->(bR (x_3<(↑o.Over.length:Int)) (0<=x_3/\x_3<(↑o.Over.length:Int)/\(¬x_2=true/\0<(↑(ix o.Over x_3).n9.length:Int)->(0:Int)<=0)/\(¬x_2=true/\0<(↑(ix o.Over x_3).n9.length:Int)->0<(↑(ix o.Over x_3).n9.length:Int))/\c6 (x_3+1)/\I_2 (decide (x_2=true∨0<(↑(ix o.Over x_3).n9.length:Int)/\((T9 o x_3).Time.Day.Year=(ix (u6 o f t).fst x).j8.Day.Year/\(T9 o x_3).Time.Day.Month=(ix (u6 o f t).fst x).j8.Day.Month/\(T9 o x_3).Time.Day.Date=(ix (u6 o f t).fst x).j8.Day.Date/\True)/\(T9 o x_3).Time.Hour=(ix (u6 o f t).fst x).j8.Hour/\(T9 o x_3).Time.Min=(ix (u6 o f t).fst x).j8.Min/\(T9 o x_3).Time.D6=(ix (u6 o f t).fst x).j8.D6/\((T9 o x_3).Time.l9=true↔(ix (u6 o f t).fst x).j8.l9=true)/\((T9 o x_3).Time.UTC=true↔(ix (u6 o f t).fst x).j8.UTC=true)/\True)) (x_3+1)/\m_2 (decide (x_2=true∨0<(↑(ix o.Over x_3).n9.length:Int)/\((T9 o x_3).Time.Day.Year=(ix (u6 o f t).fst x).j8.Day.Year/\(T9 o x_3).Time.Day.Month=(ix (u6 o f t).fst x).j8.Day.Month/\(T9 o x_3).Time.Day.Date=(ix (u6 o f t).fst x).j8.Day.Date/\True)/\(T9 o x_3).Time.Hour=(ix (u6 o f t).fst x).j8.Hour/\(T9 o x_3).Time.Min=(ix (u6 o f t).fst x).j8.Min/\(T9 o x_3).Time.D6=(ix (u6 o f t).fst x).j8.D6/\((T9 o x_3).Time.l9=true↔(ix (u6 o f t).fst x).j8.l9=true)/\((T9 o x_3).Time.UTC=true↔(ix (u6 o f t).fst x).j8.UTC=true)/\True)) (x_3+1)<m_2 x_2 x_3) ((bR (¬((ix (u6 o f t).fst x).Over=true↔x_2=true)∨b8 (j4 (ix (u6 o f t).fst x).j8)<0) (Q false) (c6 (x+1)/\I (x+1)/\m (x+1)<m x))))))))))) (Q (decide (true=true))))))))
def V1{l:List K3}(h:a3m l=true):(∀p∈l,z7 p)/\(l.length:Int)<=1000000:=by have r:=z6.1 h;exact⟨(q9.list (p:=z7)).1 (fun j j0 j1=>a9f (r.2.1 j j0 j1)),by have:=r.1;omega⟩
def b18{x:Q8}(h:a8n x=true):a2g x:=by obtain⟨⟨a,b,c,d,e,f,g,p⟩,r,al⟩:=z6.1 h;exact⟨by omega,by omega,by omega,by omega,by omega,by omega,by omega,(q9.list (p:=fun r:Rl=>F5 r=true)).1 r,(q9.list (p:=fun a:Alm=>(∀p∈a.Extra,z7 p)/\(a.Extra.length:Int)<=1000000)).1 fun j j0 j1=>V1 (al j j0 j1).2.2,(V1 p).1,(V1 p).2⟩
def c7o{o:F3}(h:b0k o=true):a36 o:=by obtain⟨⟨k,z,v,p,m⟩,zr,ov,_⟩:=z6.1 h;exact⟨by omega,by omega,by omega,by omega,(V1 p).1,(V1 p).2,b18 m,(q9.list (p:=X3)).1 fun j j0 j1=>⟨by have:=(zr j j0 j1).1;omega,by have:=(zr j j0 j1).2.1;omega,(q9.list (p:=fun o:Obv=>0<(o.b9.length:Int)->F5 (ix o.b9 0)=true)).1 fun k k0 k1=>((zr j j0 j1).2.2 k k0 k1).2.2⟩,(q9.list (p:=a2g)).1 fun j j0 j1=>b18 (ov j j0 j1)⟩
def c6N{e:n5}(h:e.nr=0):e=.nil:=by
 cases e with
 |nil=>rfl
 |_ =>
  unfold n5.nr at h;simp only at h;split at h
  . split at h
    . omega
    . cases h
  . cases h
def d1X{o:F3}{f t:Tm}(h:(N1 105 o f t).2.nr≠0):(N1 105 o f t).1=[]:=by
 unfold N1 at h ⊢
 repeat' split
 all_goals first|rfl|simp_all[n5.nr]
def c4t{α:Type}[Inhabited α]{l:List α}{R:α->α->Prop}(h:l.Pairwise R){i j:Int}(i0:0<=i)(hij:i<j)(hj:j<l.length):R (ix l i) (ix l j):=by rw[s8 (by omega),s8 (by omega)];exact d5t.1 h _ _ (by omega) (by omega) (by omega)
def c3F{o:F3}(hO:a0t o){x:Q8}(hx:x∈o.Over):0<x.n9.length:=by
 have h:=(a3Q hO hx).1.rt;unfold K5 at h;cases hr:x.n9 with
 |nil=>rw[hr]at h;exact absurd h (by decide)
 |cons a r=>exact Nat.succ_pos _
def d3w(o:F3)(f:Tm)(t:Tm)(hf:((a5A o t).length:Int)<=1000000)(hr:(o.Main.b9.length:Int)<=1000000)(hk:(o.Kind.length:Int)<=140737488355328)(hu:(o.UID.length:Int)<=140737488355328):d1i o f t (fun y0=>y0=true):=by
 unfold d1i T9 u6;simp only[y6,A7,B3,C5,C4,C6,C8,C3,B9,D0,B7,d4C,teq];refine⟨hf,hr,hk,hu,fun _=>by trivial,fun h=>?_⟩;have hR:c2e o t=true:=d4v.1 h;have hfo:=c7o (z6.1 hR).2.1;refine⟨hfo,fun e=>?_,fun e=>?_⟩
 . simp[d1X e]
 have e0:=c6N (d4v.1 e);have hq:=c1j e0;have n1:(N1 105 o f t).1.length<=1000:=by rw[hq.2.2.2.2,c0Z];exact hq.2.2.2.1
 have hO:=hq.1.1;have hF:=fun y (hy:y∈(N1 105 o f t).1)=>c3r e0 hy;obtain⟨hup,hnd⟩:=d3p e0;clear hq e e0 h;generalize (N1 105 o f t).1=A at *;refine⟨fun x=>0<=x/\x<=A.length,fun x=>((A.length:Int)-x).toNat,⟨by omega,by omega⟩,?_⟩;rintro x ⟨x0,x1⟩;refine⟨fun hi=>?_,fun _=>by trivial⟩;have F:=hF _ (u7 x0 hi);have s1:=Go.Re.w6 F.st.rt;have s2:=Go.Re.w6 F.en.rt;have s3:=Go.Re.w6 F.wh.rt;have w:=F.wi;have lo:=F.lo;unfold inW at w;refine⟨x0,hi,⟨by omega,by omega⟩,fun _=>⟨by omega,by omega⟩,fun _=>⟨by omega,by omega⟩,fun hc=>?_,fun _=>⟨fun _=>⟨by omega,by omega⟩,fun _=>by omega,fun _=>by omega,fun hc=>?_,fun _=>⟨⟨by omega,by omega⟩,fun k=>0<=k/\k<=x,fun k=>(x-k).toNat,⟨?_,?_⟩,?_⟩⟩⟩
 . rcases hc with((((c|c)|c)|c)|c)|c
   . omega
   . omega
   . omega
   . omega
   . exact absurd F.st.ut c
   . exact absurd F.en.ut c
 . have:=c4t hup (i:=x-1) (j:=x) (by omega) (by omega) hi;unfold ltI at this;omega
 . rw[d4R];omega
 . rw[d4R];omega
 rintro k ⟨k0,k1⟩;refine⟨fun hkx=>⟨k0,by omega,fun e=>absurd e (c4t hnd k0 hkx hi),fun _=>⟨⟨by omega,by omega⟩,⟨by omega,by omega⟩,by dsimp only;omega⟩⟩,fun _=>?_⟩;have nO:=hfo.2.2.2.1;refine⟨fun b i=>0<=i/\i<=o.Over.length/\(b=true↔∃j,0<=j/\j<i/\K5 (ix o.Over j)=(ix A x).j8),fun _ i=>((o.Over.length:Int)-i).toNat,⟨by omega,by omega,⟨fun h=>(by cases h),fun⟨j,a,b,_⟩=>by omega⟩⟩,?_⟩;rintro b i ⟨i0,i1,hb⟩;refine⟨fun hi2=>?_,fun hi2=>?_⟩
 . have hl:=c3F hO (u7 i0 hi2);refine⟨i0,hi2,fun _=>d4Q _,fun c=>c.2,⟨by omega,by omega⟩,⟨by omega,by omega,?_⟩,by dsimp only;omega⟩;rw[d5k,hb];refine⟨fun c=>c.elim (fun⟨j,a,b,c⟩=>⟨j,a,by omega,c⟩) fun c=>⟨i,i0,by omega,c.2⟩,fun⟨j,a,b,c⟩=>?_⟩;by_cases e:j=i
   . subst e;exact .inr ⟨by omega,c⟩
   . exact .inl ⟨j,a,by omega,c⟩
 . have hov:(ix A x).Over=true↔b=true:=by
     rw[F.ov,hb];refine⟨fun⟨y,hy,e⟩=>?_,fun⟨j,a,c,e⟩=>⟨_,u7 a (by omega),e⟩⟩;obtain⟨n,hn,rfl⟩:=d4Y hy;exact⟨n,by omega,by omega,by rw[s8 (by omega)];exact e⟩
   exact⟨fun c=>c.elim (fun c=>absurd hov c) fun c=>by omega,fun _=>⟨⟨by omega,by omega⟩,⟨by omega,by omega⟩,by dsimp only;omega⟩⟩
open Go.ChangeShapes Go.RowKit Go.WideShapes
def c5K:List (String×DataW Unit):=[("unicode/utf8.acceptRanges", Rows.laid_unicode_utf8_acceptRanges),("errors.errorType", Rows.laid_errors_errorType),("unicode/utf8.first", Rows.laid_unicode_utf8_first)]
def et0:Tryz.prog.globalNamed "errors.errorType" = some 0:=by kernel_rfl
def rt0:(Tryz.prog.cutTypes.find? (·.1 == "internal/reflectlite.rtype")).map (·.2)=some 177:=by kernel_rfl
def d0J:Tryz.prog.types.size=332:=by kernel_rfl
def c4c:((List.range 332).filter fun t=>Tryz.prog.rowNamed t [101,114,114,111,114])=[43]:=by kernel_rfl
def b72{W:World} (h:handlesMet Tryz.prog [("errors.errorType", Rows.laid_errors_errorType)] W):W.cell? ⟨0,0,none⟩=some a1Z:=by
 obtain⟨name,u,ty,e1,e2,e3,e4,e5⟩:=h _ (d4D.2 rfl);obtain rfl:name=[101,114,114,111,114]:=(d5J e1).symm;obtain rfl:=d5J (rt0.symm.trans e2);have hm:ty∈(List.range 332).filter fun t=>Tryz.prog.rowNamed t [101,114,114,111,114]:=d4X.2 ⟨d7c.2 (by rw[<- d0J];exact e3),e4⟩;rw[c4c]at hm;obtain rfl:=d4D.1 hm;have hh:typeHandle Tryz.prog 43=.pointer (some ⟨4,43,none⟩):=by kernel_rfl
 rw[hh]at e5;simpa[a1Z]using World.var?_cell et0 e5 0
def b4N{W:World}(h:laidMetH Tryz.prog c5K W)(ho:W.ShapedOpen Tryz.prog):Gl.is (fun b=>b<W.heap.size) W:=by
 obtain⟨m,hm⟩:=cell_of_shapedOpen_int (g:=1) (t:=3) (k:=.i64) (zero:=#[.int .i64 0]) ho (d5w (by kernel_rfl)) (by kernel_rfl) (by kernel_rfl) (by kernel_rfl) (by kernel_rfl) Tryz.underlying3;have hs:1<W.heap.size:=by apply d5L;intro hn;unfold World.cell? at hm;rw[d6d (by show W.heap.size<=1;omega)]at hm;cases hm
 exact⟨⟨by omega,hs⟩,hs,b72 (show laidMet Tryz.prog [("unicode/utf8.acceptRanges", Rows.laid_unicode_utf8_acceptRanges),("unicode/utf8.first", Rows.laid_unicode_utf8_first)] W/\handlesMet Tryz.prog [("errors.errorType", Rows.laid_errors_errorType)] W from h).2,m,hm⟩
def b8K(os:Os):World:=
 let w0:=World.laidAll Tryz.prog os [("unicode/utf8.acceptRanges", Rows.laid_unicode_utf8_acceptRanges),("unicode/utf8.first", Rows.laid_unicode_utf8_first)]
 { w0 with heap:=w0.heap.modify 0 fun
   |.cells _ t frozen=>.cells #[a1Z] t frozen
   |o=>o }
def b7N(os:Os)(args:Array Value):laidMetH Tryz.prog c5K ((b8K os).forCall (fun _ _=>0) ⟨#[],args,[]⟩).memory:=
 laidMetH_of_parts (laidMet_of_run' 8 (by kernel_rfl) (by kernel_rfl)) (by kernel_rfl)
def d0H:laidOutB Tryz.prog=true:=by kernel_rfl
def d3D:ownKnob Tryz.prog.godebug=none:=by kernel_rfl
def c9i{P:Program}{ts:List TypeId}(h:(ts.all fun t=>P.readableRec t && decide (t<P.types.size))=true):∀t∈ts,P.readableRec t=true/\t<P.types.size:=fun t ht=>by have:=d5e.1 h t ht;rw[d4x,d5G]at this;exact this
def b75{Z:Nat->Prop}{W:World}{v:Value}(h:e7 U eT (fun _=>none) Z W v (H9 true)):v=.bool true:=by cases h with|bl=>rfl
structure OB{α:Type}(t:TypeId)(r:Rd α) where
 m:α->Nat
 ok:∀{H:Type}{enc:TypeId×Value->H}{fuel:Nat}{w:World}{sp:Nat->Bool}{cs:List Value}{x:DataW H×List MemPlace},DataW.trod enc Tryz.prog w 0 sp true fuel t cs=some x->∃y,r.rd (fun _=>True) w cs y/\m y<Rows.uptoBulk x.1
structure FB{α:Type}(o:Nat)(fs:List Field)(r:Rd α) where
 m:α->Nat
 ok:∀{H:Type}{enc:TypeId×Value->H}{n:Nat}{w:World}{sp:Nat->Bool}{cs:List Value}{xs:List (DataW H×List MemPlace)},xs.length=fs.length ->
  (∀(i:Nat)(f:Field),fs[i]?=some f->DataW.trod enc Tryz.prog w 0 sp true n f.type ((cs.drop f.offset).take (Tryz.prog.cellsOf f.type))=xs[i]?)->∃y,r.rd (fun _=>True) w ((cs.drop o).take r.sz) y/\m y<=Rows.uptoBulkAll (xs.map (·.1))
def c9p{H:Type}(d:DataW H):0<Rows.uptoBulk d:=by
 cases d with
 |lit l=>cases l <;> simp[Rows.uptoBulk]
 |_=>simp[Rows.uptoBulk]
def OB.z{α:Type}{t:TypeId}{r:Rd α}(h:b08 Tryz.prog t r):OB t r:=⟨fun _=>0,fun k=>let⟨y,k⟩:=h k;⟨y,k,c9p _⟩⟩
def OB.s{t:TypeId}(ht:Tryz.prog.underlying t=some .string):OB t a03:=⟨List.length,fun h=>by
 obtain⟨y,k⟩:=b3Y ht h;obtain⟨s,rfl,rfl,_⟩:=DataW.trod_string ht h;have e:sv y=.string s:=by simpa using k.1.symm
 refine⟨y,k,?_⟩;show y.length<Rows.uptoBulk (.lit (.string s.data.toList))
 have e2:y=s.data.toList:=by unfold sv at e;simp only[Value.string.injEq]at e;rw[<- e]
 rw[e2];simp[Rows.uptoBulk]⟩
def b1Q{α H:Type}{m:α->Nat}:∀{l:List α}{es:List (DataW H×List MemPlace)},l.length=es.length->(∀i (h:i<l.length) (h':i<es.length),m l[i]<Rows.uptoBulk es[i].1)->l.length+(l.map m).sum<=Rows.uptoBulkAll (es.map (·.1))
 |[],_,_,_=>d6b _
 |a::r,[],e,_=>by cases e
 |a::r,x::es,e,h=>by have h0:=h 0 (Nat.succ_pos _) (Nat.succ_pos _);have ih:=b1Q (m:=m) (l:=r) (es:=es) (Nat.succ.inj e) fun i h1 h2=>h (i+1) (Nat.succ_lt_succ h1) (Nat.succ_lt_succ h2);simp only[List.getElem_cons_zero]at h0;simp only[d5H,d8e,d4M,Rows.uptoBulkAll];omega
def OB.l{α:Type}{r:Rd α}{t e:TypeId}(ht:Tryz.prog.underlying t=some (.slice e))(hsz:Tryz.prog.cellsOf e=r.sz)(hp:0<r.sz)(ho:OB e r):OB t (p5 r):=⟨fun l=>l.length+(l.map ho.m).sum,fun{H enc fuel w sp cs x} h=>by
 rcases DataW.trod_slice ht h with⟨rfl,rfl⟩|⟨a,len,cap,elems,rest,n,_,rfl,rfl,_,hlc,hcm,hel,hget,_⟩
 . exact⟨[],a1n,by simp[Rows.uptoBulk]⟩
 . have each:∀i:Fin len,∃(y:α)(c:List Value),Cells w a.block (a.off+i*r.sz) c/\r.rd (fun _=>True) w c y/\a.spot=none/\ho.m y<Rows.uptoBulk (elems[i.1]'(by omega)).1:=fun⟨i,hi⟩=>by
     have h1:=hget i hi;rw[d4J (by omega)]at h1;simp only[d4L]at h1;obtain⟨c,hc,hx⟩:=h1;obtain⟨y,hy,hm⟩:=ho.ok hx;rw[hsz]at hc;have hc':=b2s hp hc;have hs0:a.spot=none:=by have h0:=hget 0 (by omega);rw[d4J (by omega)]at h0;simp only[d4L]at h0;obtain⟨c0,hc0,_⟩:=h0;rw[hsz]at hc0;simpa[Addr.add]using(b2s hp hc0).1
     refine⟨y,c,?_,hy,hs0,hm⟩;have:=hc'.2.2;unfold Addr.add at this;split at this
     . simp_all
     . exact this
   have⟨f,hf⟩:=Classical.axiomOfChoice each;refine⟨List.ofFn f,⟨?_,some a,cap,by simp,⟨fun h=>(by cases h),by simp_all⟩,fun i hi=>?_⟩,?_⟩
   . simp[maxLen]at hcm ⊢;omega
   . have hi':i<len:=by simpa using hi
     obtain⟨c,h1,h2,hs0,_⟩:=hf ⟨i,hi'⟩;refine⟨a.block,a.off,c,?_,trivial,h1,?_⟩
     . obtain⟨b,o,s⟩:=a;simp_all
     . simp_all
   . have:=b1Q (m:=ho.m) (l:=List.ofFn f) (es:=elems) (by simp[hel]) fun i h1 h2=>by
       obtain⟨_,_,_,_,hb⟩:=hf ⟨i,by simpa using h1⟩;simpa using hb
     simp only[Rows.uptoBulk];omega⟩
section
variable{α β:Type}{r:Rd α}{s:Rd β}{o:Nat}{f:Field}{fs:List Field}{t:TypeId}
def FB.e(h:(f.offset,Tryz.prog.cellsOf f.type)=(o,r.sz))(a:OB f.type r):FB o [f] r:=⟨fun y=>a.m y+1,fun{H enc n w sp cs xs} hl hg=>by
 match xs,hl with
 |[x],_ =>
  have h0:=hg 0 f rfl;rw[(d7E h).1,(d7E h).2]at h0;obtain⟨y,k,b⟩:=a.ok h0;exact⟨y,k,by simp only[d5H,List.map_nil,Rows.uptoBulkAll];omega⟩⟩
def FB.c(h:(f.offset,Tryz.prog.cellsOf f.type)=(o,r.sz))(a:OB f.type r)(b:FB (o+r.sz) fs s):FB o (f::fs) (r.q s):=⟨fun y=>a.m y.1+1+b.m y.2,fun{H enc n w sp cs xs} hl hg=>by
 match xs,hl with
 |x::xs,hl =>
  have h0:=hg 0 f rfl;rw[(d7E h).1,(d7E h).2]at h0;obtain⟨y,k,bd⟩:=a.ok h0;obtain⟨z,k2,bd2⟩:=b.ok (xs:=xs) (Nat.succ.inj hl) fun i g e=>hg (i+1) g e;refine⟨(y,z),⟨_,_,?_,k,k2⟩,by simp only[d5H,Rows.uptoBulkAll];omega⟩;show(cs.drop o).take (r.sz+s.sz)=_
  rw[List.take_add,List.drop_drop]⟩
def OB.st{fs:Array Field}{p:α->β}(ht:Tryz.prog.underlying t=some (.struct fs))(hz:Tryz.prog.cellsOf t=s.sz)(b:FB 0 fs.toList s)(g:β->α)(hg:∀y,p (g y)=y):OB t (s.of p):=⟨fun x=>b.m (p x),fun h=>by
 obtain⟨xs,n,_,rfl,hlen,hxl,hget⟩:=DataW.trod_struct ht h;obtain⟨y,k,bd⟩:=b.ok (by rw[hxl,d6U]) fun i f e=>hget i f (by rw[<- d7K];exact e);refine⟨g y,?_,?_⟩
 . show s.rd _ _ _ (p (g y))
   rw[hg]
   rwa [List.drop_zero,d5b (by omega)]at k
 . rw[hg];simp only[Rows.uptoBulk];omega⟩
def b49{t:Nat}{x:Rd α}(p:TQ U eT x)(o:OB t x)(hn:2<=x.sz){H:Type}{enc:TypeId×Value->H}{W:World}{sp:Nat->Bool}{v:Value}{d:DataW H}{ps:List MemPlace}(h:DataW.Trod enc Tryz.prog W 0 sp true t v d ps):∃y,e7 U eT (fun _=>none) (fun b=>b<W.heap.size) W v (.agg (p.sv y))/\o.m y<Rows.uptoBulk d/\∃D,x.rd D W v.cells.toList y:=by
 obtain⟨n,h⟩:=h;obtain⟨y,k,b⟩:=o.ok h;have k:=Rd.a3G (D':=fun b=>b<W.heap.size) _ k (fun _ _ hb=>hb);refine⟨y,?_,b,_,k⟩;cases v with
 |agg cs=>exact p.sv_ok k
 |_=>exact absurd (Rd.len _ k) (by simp[Value.cells];omega)
end
def d4n:OB 24 dDy:=.st Tryz.underlying24 (by kernel_rfl) (.c (by kernel_rfl) (.z (x6 Tryz.underlying3)) (.c (by kernel_rfl) (.z (x6 Tryz.underlying3)) (.e (by kernel_rfl) (.z (x6 Tryz.underlying3))))) (fun y=>⟨y.1,y.2.1,y.2.2⟩) fun _=>rfl
def c18:OB 26 dTm:=.st Tryz.underlying26 (by kernel_rfl) (.c (by kernel_rfl) d4n (.c (by kernel_rfl) (.z (x6 Tryz.underlying3)) (.c (by kernel_rfl) (.z (x6 Tryz.underlying3)) (.c (by kernel_rfl) (.z (x6 Tryz.underlying3)) (.c (by kernel_rfl) (.z (a5q Tryz.underlying4)) (.e (by kernel_rfl) (.z (a5q Tryz.underlying4)))))))) (fun y=>⟨y.1,y.2.1,y.2.2.1,y.2.2.2.1,y.2.2.2.2.1,y.2.2.2.2.2⟩) fun _=>rfl
def d1G:OB 240 dNt:=.st Tryz.underlying240 (by kernel_rfl) (.c (by kernel_rfl) (.z (x6 Tryz.underlying3)) (.e (by kernel_rfl) (.z (x6 Tryz.underlying3)))) (fun y=>⟨y.1,y.2⟩) fun _=>rfl
def c0p:OB 64 dRl:=.st Tryz.underlying64 (by kernel_rfl) (.c (by kernel_rfl) (.z (x6 Tryz.underlying3)) (.c (by kernel_rfl) (.z (x6 Tryz.underlying3)) (.c (by kernel_rfl) (.z (x6 Tryz.underlying3)) (.c (by kernel_rfl) (.l Tryz.underlying61 (by kernel_rfl) (by decide) c18) (.c (by kernel_rfl) (.l Tryz.underlying30 (by kernel_rfl) (by decide) (.z (x6 Tryz.underlying3))) (.c (by kernel_rfl) (.l Tryz.underlying30 (by kernel_rfl) (by decide) (.z (x6 Tryz.underlying3))) (.c (by kernel_rfl) (.l Tryz.underlying30 (by kernel_rfl) (by decide) (.z (x6 Tryz.underlying3))) (.c (by kernel_rfl) (.l Tryz.underlying30 (by kernel_rfl) (by decide) (.z (x6 Tryz.underlying3))) (.c (by kernel_rfl) (.l Tryz.underlying62 (by kernel_rfl) (by decide) d1G) (.c (by kernel_rfl) (.l Tryz.underlying30 (by kernel_rfl) (by decide) (.z (x6 Tryz.underlying3))) (.c (by kernel_rfl) (.l Tryz.underlying30 (by kernel_rfl) (by decide) (.z (x6 Tryz.underlying3))) (.c (by kernel_rfl) (.l Tryz.underlying30 (by kernel_rfl) (by decide) (.z (x6 Tryz.underlying3))) (.c (by kernel_rfl) (.l Tryz.underlying30 (by kernel_rfl) (by decide) (.z (x6 Tryz.underlying3))) (.e (by kernel_rfl) (.z (x6 Tryz.underlying3)))))))))))))))) (fun y=>⟨y.1,y.2.1,y.2.2.1,y.2.2.2.1,y.2.2.2.2.1,y.2.2.2.2.2.1,y.2.2.2.2.2.2.1,y.2.2.2.2.2.2.2.1,y.2.2.2.2.2.2.2.2.1,y.2.2.2.2.2.2.2.2.2.1,y.2.2.2.2.2.2.2.2.2.2.1,y.2.2.2.2.2.2.2.2.2.2.2.1,y.2.2.2.2.2.2.2.2.2.2.2.2.1,y.2.2.2.2.2.2.2.2.2.2.2.2.2⟩) fun _=>rfl
def c8S:OB 101 b96:=.st Tryz.underlying101 (by kernel_rfl) (.c (by kernel_rfl) (.s Tryz.underlying9) (.c (by kernel_rfl) c18 (.c (by kernel_rfl) (.z (x6 Tryz.underlying3)) (.c (by kernel_rfl) (.z (x6 Tryz.underlying3)) (.e (by kernel_rfl) (.l Tryz.underlying31 (by kernel_rfl) (by decide) c0p)))))) (fun y=>⟨y.1,y.2.1,y.2.2.1,y.2.2.2.1,y.2.2.2.2⟩) fun _=>rfl
def d1k:OB 92 b9B:=.st Tryz.underlying92 (by kernel_rfl) (.c (by kernel_rfl) (.s Tryz.underlying9) (.e (by kernel_rfl) (.l Tryz.underlying90 (by kernel_rfl) (by decide) c8S))) (fun y=>⟨y.1,y.2⟩) fun _=>rfl
def b0j:OB 28 b00:=.st Tryz.underlying28 (by kernel_rfl) (.c (by kernel_rfl) c18 (.e (by kernel_rfl) (.s Tryz.underlying9))) (fun y=>⟨y.1,y.2⟩) fun _=>rfl
def c8F:OB 130 a8b:=.st Tryz.underlying130 (by kernel_rfl) (.c (by kernel_rfl) (.s Tryz.underlying9) (.e (by kernel_rfl) (.l Tryz.underlying128 (by kernel_rfl) (by decide) (.s Tryz.underlying9)))) (fun y=>⟨y.1,y.2⟩) fun _=>rfl
def c2W:OB 86 b4p:=.st Tryz.underlying86 (by kernel_rfl) (.c (by kernel_rfl) (.s Tryz.underlying9) (.c (by kernel_rfl) (.s Tryz.underlying9) (.c (by kernel_rfl) (.l Tryz.underlying84 (by kernel_rfl) (by decide) c8F) (.e (by kernel_rfl) (.s Tryz.underlying9))))) (fun y=>⟨y.1,y.2.1,y.2.2.1,y.2.2.2⟩) fun _=>rfl
def c9s:OB 136 b9G:=.st Tryz.underlying136 (by kernel_rfl) (.c (by kernel_rfl) (.s Tryz.underlying9) (.c (by kernel_rfl) (.z (x6 Tryz.underlying3)) (.e (by kernel_rfl) (.l Tryz.underlying33 (by kernel_rfl) (by decide) c2W)))) (fun y=>⟨y.1,y.2.1,y.2.2⟩) fun _=>rfl
def b7m:OB 35 b6Q:=.st Tryz.underlying35 (by kernel_rfl) (.c (by kernel_rfl) b0j (.c (by kernel_rfl) (.l Tryz.underlying29 (by kernel_rfl) (by decide) b0j) (.c (by kernel_rfl) (.l Tryz.underlying30 (by kernel_rfl) (by decide) (.z (x6 Tryz.underlying3))) (.c (by kernel_rfl) (.l Tryz.underlying31 (by kernel_rfl) (by decide) c0p) (.c (by kernel_rfl) (.l Tryz.underlying29 (by kernel_rfl) (by decide) b0j) (.c (by kernel_rfl) (.l Tryz.underlying29 (by kernel_rfl) (by decide) b0j) (.c (by kernel_rfl) (.l Tryz.underlying29 (by kernel_rfl) (by decide) b0j) (.c (by kernel_rfl) (.l Tryz.underlying32 (by kernel_rfl) (by decide) c9s) (.e (by kernel_rfl) (.l Tryz.underlying33 (by kernel_rfl) (by decide) c2W)))))))))) (fun y=>⟨y.1,y.2.1,y.2.2.1,y.2.2.2.1,y.2.2.2.2.1,y.2.2.2.2.2.1,y.2.2.2.2.2.2.1,y.2.2.2.2.2.2.2.1,y.2.2.2.2.2.2.2.2⟩) fun _=>rfl
def b7A:OB 38 c6x:=.st Tryz.underlying38 (by kernel_rfl) (.c (by kernel_rfl) (.s Tryz.underlying9) (.c (by kernel_rfl) (.s Tryz.underlying9) (.c (by kernel_rfl) (.l Tryz.underlying22 (by kernel_rfl) (by decide) d1k) (.c (by kernel_rfl) b7m (.c (by kernel_rfl) (.l Tryz.underlying36 (by kernel_rfl) (by decide) b7m) (.e (by kernel_rfl) (.l Tryz.underlying33 (by kernel_rfl) (by decide) c2W))))))) (fun y=>⟨y.1,y.2.1,y.2.2.1,y.2.2.2.1,y.2.2.2.2.1,y.2.2.2.2.2⟩) fun _=>rfl
def a9J{α:Type}{k m:α->Nat}(h:∀x,k x<=m x):∀l:List α,(l.map k).sum<=(l.map m).sum
 |[]=>d4O _
 |a::r=>by have:=h a;have:=a9J h r;simp only[d5H,d8e];omega
def b5o{α:Type}(l:List α):(l.map fun _=>1).sum=l.length:=by
 induction l with
 |nil=>rfl
 |cons a r ih=>simp only[d5H,d8e,d4M];omega
def c7i(o:Go.Qu.F3)(t:Tm):2*(Go.Qu.a5A o t).length<=b7A.m o+4/\2*o.Main.b9.length<=b7A.m o/\o.Kind.length<=b7A.m o/\o.UID.length<=b7A.m o:=by
 have e:b7A.m o=o.Kind.length+1+(o.UID.length+1+(o.c9.length+(o.c9.map d1k.m).sum+1+(b7m.m o.Main+1+(o.Over.length+(o.Over.map b7m.m).sum+1+(o.Extra.length+(o.Extra.map c2W.m).sum+1))))):=rfl;have hl:∀l:List Go.Qu.I9,l.length<=(l.map b0j.m).sum:=fun l=>by
  have:=a9J (k:=fun _=>1) (m:=b0j.m) (fun x=>by show 1<=_+1+_;omega) l
  rwa [b5o]at this
 have hr:∀l:List Rl,l.length<=(l.map c0p.m).sum:=fun l=>by
  have:=a9J (k:=fun _=>1) (m:=c0p.m) (fun x=>by show 1<=_+1+_;omega) l
  rwa [b5o]at this
 have hi:∀x:Go.Qu.Q8,2*x.b9.length+2*x.o8.length+2*x.n9.length+1<=b7m.m x:=fun x=>by
  have h1:=hl x.o8;have h2:=hl x.n9;have h3:=hr x.b9;show _<=_+1+(_+1+(_+1+(x.b9.length+(x.b9.map c0p.m).sum+1+(x.o8.length+(x.o8.map b0j.m).sum+1+(_+1+(x.n9.length+(x.n9.map b0j.m).sum+1+_))))))
  omega
 have h0:=hi o.Main;have h1:=a9J (k:=fun x:Go.Qu.Q8=>1+2*x.n9.length) (m:=b7m.m) (fun x=>by have:=hi x;omega) o.Over;have h2:2*(o.Over.flatMap Go.Qu.a4l).length<=o.Over.length+(o.Over.map fun x:Go.Qu.Q8=>1+2*x.n9.length).sum:=by
  induction o.Over with
  |nil=>exact d4O _
  |cons a r ih =>
   have:(Go.Qu.a4l a).length=1+a.n9.length:=by unfold Go.Qu.a4l;simp;omega
   simp only[d6O,d4B,d5H,d8e,d4M];omega
 have h3:=Go.Qu.b65 o t;omega
def lc1:(Rows.queryLiesUptoRow.inPlace == Tryz.pinned.checked.prog.inPlace 3)=true:=by kernel_rfl
def lc2:(Rows.queryLiesUptoRow.unfollowed == Tryz.pinned.checked.prog.unfollowed 3)=true:=by kernel_rfl
def lc3:(Rows.queryLiesUptoRow.recurses == Tryz.pinned.checked.prog.recurses 3)=true:=by kernel_rfl
def lc4:(Rows.queryLiesUptoRow.named == Tryz.pinned.checked.prog.varsNamed 3)=true:=by kernel_rfl
def lc5:joinedFacts Tryz.pinned.checked.prog 3 Tryz.f3 (Rows.OpenSpec.upto Rows.queryLiesSpec).bare Rows.queryLiesUptoRow=true:=by unfold joinedFacts;rw[lc1,lc2,lc3,lc4];kernel_rfl
end Go.Proofs.YtapnoejokajcoaaGreatDoor
