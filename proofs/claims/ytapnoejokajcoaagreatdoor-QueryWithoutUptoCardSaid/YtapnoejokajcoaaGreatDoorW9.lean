/- 21 texts, one behind the other. -/
import Derived.Test.YtapnoejokajcoaaGreatDoorW6
import Derived.Test.YtapnoejokajcoaaGreatDoorW3
import Derived.Test.YtapnoejokajcoaaGreatDoorW8
import Derived.Test.YtapnoejokajcoaaGreatDoorRows
import Derived.Test.YtapnoejokajcoaaGreatDoorW1
import Derived.ChangeSame
import Derived.ChangeVars
import Derived.JoinedOf
import Derived.RowKit
import Derived.RowKit2
import Derived.Carry
import Derived.ProofKit
import Derived.RowKitTokens
import Derived.LaidLaws
import Derived.LaidHandle
import Derived.Lay
import Derived.LaidMore
import Derived.Lib.LaidU8
import Derived.Stop.Joined
import Derived.Shelf.Vars
import Derived.Deep.DeepHandedRow
import Derived.Deep.DeepWitnessRowRef
import Derived.JoinedCond
set_option linter.defProp false
set_option linter.unusedVariables false
set_option linter.unusedSimpArgs false
set_option maxRecDepth 100000
noncomputable section
def d7D:=@exists_eq_or_imp
def d8D:=@List.sum_cons
namespace Go.Proofs.YtapnoejokajcoaaGreatDoor
open Go Go.Wk Go.Wl Go.Rx Go.Re Go.Li Go.Qu Go.Fo Go.Proofs Go.RowKit
def rd_ok{Z:Nat->Prop}{w:World}{cs:List Value}{x:Tm}(h:dTm.rd Z w cs x):cs=a1L x/\okT x:=by obtain⟨c0,_,rfl,⟨d0,_,rfl,g0,d1,d2,rfl,g1,g2⟩,c1,_,rfl,h1,c2,_,rfl,h2,c3,_,rfl,h3,c4,c5,rfl,h4,h5⟩:=h;have k0:=g0.1;have k1:=g1.1;have k2:=g2.1;have e1:=h1.1;have e2:=h2.1;have e3:=h3.1;have e4:c4=_:=h4;have e5:c5=_:=h5;subst k0 k1 k2 e1 e2 e3 e4 e5;exact⟨rfl,g0.2,g1.2,g2.2,h1.2,h2.2,h3.2⟩
def c5W{x:Tm}(h:okT x)(Z:Nat->Prop)(w:World):dTm.rd Z w (a1L x) x:=by obtain⟨a,b,c,d,e,f⟩:=h;exact⟨_,_,rfl,⟨_,_,rfl,⟨rfl,a⟩,_,_,rfl,⟨rfl,b⟩,⟨rfl,c⟩⟩,_,_,rfl,⟨rfl,d⟩,_,_,rfl,⟨rfl,e⟩,_,_,rfl,⟨rfl,f⟩,_,_,rfl,rfl,rfl⟩
def c75(emp:Bool)(t:Tm)(w:World):(Instr.checkKey emp 10000 26 (Q3 t)).run Tryz.prog w=.ok () w:=by kernel_rfl
def c24(w:World):(underlying 114).run Tryz.prog w=.ok (.map 26 4) w:=by kernel_rfl
def c8H(t:Tm):Instr.sameBits 10000 (Q3 t) (Q3 t)=true:=by
 have h:∀n,Instr.sameBits (n+1) (Q3 t) (Q3 t)=true:=fun n=>by simp[Q3,a1L,Instr.sameBits]
 exact h 9999
def d4B{a b:Tm}(ha:okT a)(hb:okT b)(w:World):(Op.equal 26 (Q3 a) (Q3 b)).run Tryz.prog w=.ok (decide (a=b)) w:=by
 have hv:b2D E0 4 26 (y26.sv a) (y26.sv b)=some ⟨(a.Day.Year=b.Day.Year/\a.Day.Month=b.Day.Month/\a.Day.Date=b.Day.Date/\True)/\a.Hour=b.Hour/\a.Min=b.Min/\a.D8=b.D8/\(a.o7=true↔b.o7=true)/\(a.UTC=true↔b.UTC=true)/\True,inferInstance⟩:=by kernel_rfl
 have h:=eqVal_ok (E:=E0) (ρ:=fun _=>none) (Z:=fun _=>False) (w:=w) 4 26 (y26.sv a) (y26.sv b) _ _ (Q3 a) (Q3 b) hv (y26.sv_ok (c5W ha _ w)) (y26.sv_ok (c5W hb _ w)) 9996 w;refine Eq.trans h ?_;congr 1;exact d5N.2 teq
def a1I:List (Tm×Bool)->Tm->Nat->Option (Nat×Value)
 |[],_,_=>none
 |p::r,t,i=>if t=p.1 then some (i,.bool p.2)else a1I r t (i+1)
def c5E{t:Tm}(ht:okT t)(w:World):∀(es:List MapEntry) (x:List (Tm×Bool)) (i:Nat),es.map prM=(x.map fun p=>(Q3 p.1,Value.bool p.2))->(∀p∈x,okT p.1)->(Instr.findAsking 26 (Q3 t) es i).run Tryz.prog w=.ok (a1I x t i) w
 |[],x,i,h,_=>by
  cases x with
  |nil=>rfl
  |cons p r=>simp at h
 |e::es,x,i,h,hx=>by
  cases x with
  |nil=>simp at h
  |cons p r =>
   simp only[d6f,d6Z,prM,d5A]at h;obtain⟨⟨h1,h2⟩,h3⟩:=h;simp only[Instr.findAsking,d4X,h1,d4B ht (hx p (by simp)),d4V,a1I];by_cases e:t=p.1
   . rw[d5e e,if_pos rfl,if_pos e,h2];rfl
   . rw[d5q e,if_neg d5R,if_neg e];exact c5E ht w es r (i+1) h3 fun q hq=>hx q (by simp[hq])
def c7c(w:World):∃fs,(underlying 26).run Tryz.prog w=.ok (.struct fs) w:=by
 have h:(match Tryz.prog.underlying 26 with|some (.struct _)=>true|_=>false)=true:=by kernel_rfl
 cases hu:Tryz.prog.underlying 26 with
 |none=>rw[hu]at h;cases h
 |some d =>
  rw[hu]at h;cases d <;> first|cases h;done|exact⟨_,K6 hu w⟩
def c1r{t:Tm}(ht:okT t)(w:World){es:List MapEntry}{x:List (Tm×Bool)}(h:es.map prM=(x.map fun p=>(Q3 p.1,Value.bool p.2)))(hx:∀p∈x,okT p.1):(Instr.findKey 26 (Q3 t) es).run Tryz.prog w=.ok (a1I x t 0) w:=by
 obtain⟨fs,hf⟩:=c7c w;simp only[Instr.findKey,d4X,hf,d4V];cases es with
 |nil =>
  cases x with
  |nil=>rfl
  |cons p r=>simp at h
 |cons e es=>exact c5E ht w (e::es) x 0 h hx
def b1z(t:Tm):∀(x:List (Tm×Bool)) (i:Nat),(match a1I x t i with|some (_,v)=>v|none=>.bool false)=Value.bool (getM x t)
 |[],_=>rfl
 |p::r,i=>by
  rw[a1I,getM];by_cases e:t=p.1
  . rw[if_pos e,if_pos e]
  . rw[if_neg e,if_neg e];exact b1z t r (i+1)
def d2G(w:World):(zeroValue 4).run Tryz.prog w=.ok (.bool false) w:=by kernel_rfl
def c6M{w w1:World}{b:Nat}{x:List (Tm×Bool)}{t:Tm}(h:b6w w b x)(ht:okT t)(hs:F8 w w1):(Instr.lookup 114 (.map (some b)) (Q3 t) false).run Tryz.prog w1=.ok (.bool (getM x t)) w1:=by
 obtain⟨es,clk,hh,hp,hx⟩:=h;have hh1:w1.heap[b]?=some (.map es clk):=by rw[F8.heap hs];exact hh
 simp only[Instr.lookup,d4X,c24,d4V,a3U hh1 (by simp),d5O,c75,c1r ht w1 hp hx];have e:=b1z t x 0;cases hf:a1I x t 0 with
 |none =>
  rw[hf]at e;simp only[d4X,d2G,d4V,d5O,d5Y,if_false,<- e]
 |some q =>
  rw[hf]at e;simp only[d4X,d5O,d4V,d5Y,if_false,<- e]
def b30{t:Tm}{v:Bool}:∀{es:List MapEntry}{x:List (Tm×Bool)}{i:Nat}{q:Nat×Value},es.map prM=(x.map fun p=>(Q3 p.1,Value.bool p.2))->a1I x t i=some q->∃j,q.1=i+j/\((es[j]?).map (·.key)).getD (Q3 t)=Q3 t/\((es.modify j fun e=>{ e with key:=Q3 t,val:=.bool v }).map prM)=((a3e x t v).map fun p=>(Q3 p.1,Value.bool p.2))
 |es,[],i,q,h,hf=>by cases hf
 |[],p::r,i,q,h,hf=>by simp at h
 |e::es,p::r,i,q,h,hf=>by
  simp only[d6f,d6Z,prM,d5A]at h;obtain⟨⟨h1,h2⟩,h3⟩:=h;rw[a1I]at hf;rw[a3e];by_cases e0:t=p.1
  . rw[if_pos e0]at hf;cases hf;refine⟨0,rfl,by simp[h1,e0],?_⟩;rw[if_pos e0];simp only[List.modify_zero_cons,d6f,prM];exact congrArg _ h3
  . rw[if_neg e0]at hf;obtain⟨j,g1,g2,g3⟩:=b30 h3 hf;refine⟨j+1,by omega,by simpa using g2,?_⟩;rw[if_neg e0];simp only[List.modify_succ_cons,d6f,prM,h1,h2];exact congrArg _ g3
def b2B{t:Tm}{v:Bool}:∀{x:List (Tm×Bool)}{i:Nat},a1I x t i=none->a3e x t v=x++[(t,v)]
 |[],_,_=>rfl
 |p::r,i,h=>by
  rw[a1I]at h;by_cases e:t=p.1
  . rw[if_pos e]at h;cases h
  . rw[if_neg e]at h;rw[a3e,if_neg e,b2B h];rfl
def put_ok{t:Tm}{v:Bool}(ht:okT t):∀{x:List (Tm×Bool)},(∀p∈x,okT p.1)->∀p∈a3e x t v,okT p.1
 |[],_,p,hp=>by rw[a3e,d5a]at hp;rw[hp];exact ht
 |q::r,hx,p,hp=>by
  rw[a3e]at hp;split at hp
  . rcases d5k.1 hp with e|e
    . rw[e];exact ht
    . exact hx p (by simp[e])
  . rcases d5k.1 hp with e|e
    . rw[e];exact hx q (by simp)
    . exact put_ok ht (fun p hp=>hx p (by simp[hp])) p e
def c9S{w:World}{b:Nat}{x:List (Tm×Bool)}{t:Tm}{v:Bool}(h:b6w w b x)(ht:okT t):∃w',Ext [b] w w'/\b6w w' b (a3e x t v)/\∀k,(Instr.mapUpdate 114 (.map (some b)) (Q3 t) (.bool v)).run Tryz.prog { w with drawn:=k }=.ok () { w' with drawn:=k }:=by
 obtain⟨es,clk,hh,hp,hx⟩:=h;have hstay:∀w,(Instr.keyThatStays (Q3 t) (Q3 t)).run Tryz.prog w=.ok (Q3 t) w:=fun w=>by simp only[Instr.keyThatStays,c8H,if_true];rfl
 cases hf:a1I x t 0 with
 |some q =>
  obtain⟨j,g1,g2,g3⟩:=b30 (v:=v) hp hf;have hq:q=(j,q.2):=by rw[<- show q.1=j by omega]
  refine⟨{ w with heap:=w.heap.setIfInBounds b (.map (es.modify j fun e=>{ e with key:=Q3 t,val:=.bool v }) clk) },Ext.setObj w b _,⟨_,clk,a8a hh,by simpa using g3,put_ok ht hx⟩,fun k=>?_⟩;have g2':((es[j]?).map (·.key)).getD (Q3 t)=Q3 t:=by simpa using g2
  simp only[Instr.mapUpdate,d4X,c24,d4V,a3U (w:={ w with drawn:=k }) hh (by simp),c75,c1r ht { w with drawn:=k } hp hx,hf];rw[hq];simp only[d4X,g2',hstay,d4V,a7H (w:={ w with drawn:=k }) hh (by simp)]
 |none =>
  refine⟨{ w with heap:=w.heap.setIfInBounds b (.map (es.push { key:=Q3 t,val:=.bool v,born:=clk }) (clk+1)) },Ext.setObj w b _,⟨_,clk+1,a8a hh,?_,put_ok ht hx⟩,fun k=>?_⟩
  . rw[b2B hf];simp[hp,prM]
  . simp only[Instr.mapUpdate,d4X,c24,d4V,a3U (w:={ w with drawn:=k }) hh (by simp),c75,c1r ht { w with drawn:=k } hp hx,hf,a7H (w:={ w with drawn:=k }) hh (by simp)]
def keyOf(sk:SV U):Option Tm:=match sk with
 |.agg ls=>y26.bk (.agg ls)
 |_=>none
def b5Q{ρ:p4}{Z:Nat->Prop}{w:World}{vk:Value}{sk:SV U}{t:Tm}(h:e7 U eT ρ Z w vk sk)(hb:keyOf sk=some t):vk=Q3 t/\okT t:=by
 cases sk with
 |agg ls =>
  obtain⟨cs,rfl,hl⟩:=e7.E5 h;obtain⟨e,ho⟩:=rd_ok (y26.bk_ok (s:=.agg ls) hl hb);exact⟨by rw[e];rfl,ho⟩
 |_=>cases hb
def c13{ρ:p4}{Z:Nat->Prop}{w:World}{v:Value}{s:SV U}{p:Prop}{d:Decidable p}(h:e7 U eT ρ Z w v s)(hp:prop s=some ⟨p,d⟩):v=.bool (@decide p d):=by cases h <;> first|(cases hp;done)|(cases hp;rfl)
def moT:MO Tryz.prog U eT 114 where
 k:=2
 emp:=([]:List (Tm×Bool))
 get:=fun(x:List (Tm×Bool)) sk=>(keyOf sk).map fun t=>I4 (getM x t)
 put:=fun(x:List (Tm×Bool)) sk s=>(keyOf sk).bind fun t=>(match prop s with|some ⟨p,d⟩=>some (a3e x t (@decide p d))|none=>none)
 new:=fun Z w b h=>⟨rfl,#[],0,h,rfl,fun _ h=>by cases h⟩
 look:=fun{ρ Z w b x F vk sk v'} h hk hg=>by obtain⟨t,hb,rfl⟩:=d5g.1 hg;obtain⟨rfl,ht⟩:=b5Q hk hb;exact⟨.bool (getM x t),ClX.bl,fun w1 hs=>c6M h.2 ht hs⟩
 D5:=fun{ρ Z w b x x' F vk v sk s} h hk hv hg=>by
  obtain⟨t,hb,hg⟩:=d5j.1 hg;obtain⟨rfl,ht⟩:=b5Q hk hb;split at hg
  . rename_i p d hp;cases hg;rw[c13 hv hp];obtain⟨hF,hm⟩:=h;subst hF;obtain⟨w',hx,hm',hr⟩:=c9S (v:=@decide p d) hm ht;exact⟨w',[b],⟨hx,fun b hb=>.inl hb⟩,⟨rfl,hm'⟩,fun w1 hs=>by obtain⟨k,rfl⟩:=hs;exact⟨_,hr k,⟨k,rfl⟩⟩⟩
  . cases hg
def N61:Env:=(Nti).c3f 114 moT
def N61_ok:c8 N61:=Nti_ok.c3f moT
end Go.Proofs.YtapnoejokajcoaaGreatDoor
namespace Go.Qu
open Go Go.Wk Go.Wl Go.Rx Go.Re Go.Li Go.Fo
noncomputable section
def J4(x:Q4):Tm:=(ix x.p8 0).Time
def ovM(qa:Nat)(o:F3):List (Tm×Bool)->List Q4->List (Tm×Bool)×o6
 |m,[]=>(m,.nil)
 |m,x::r=>if(N7 qa o (J4 x)).2=.nil then ovM qa o (a3e m (J4 x) (N7 qa o (J4 x)).1) r else(m,(N7 qa o (J4 x)).2)
abbrev Wn:=List Ins×Bool
def mkI(s:Tm)(n:Int)(k:Tm)(v:Bool):Ins:=⟨s,L4 (b8 s+n) s,k,v⟩
def J3(a b:Int)(w:Wn)(s:Tm)(n:Int)(k:Tm)(v:Bool):Wn:=
 if b<=b8 s∨(b8 s+n<=a/\(0<n∨b8 s<a))then w else
 if(L4 (b8 s+n) s).Day.Year=0 then(w.1,true)else(w.1++[mkI s n k v],w.2)
def moI(o:F3)(t:Tm):E6:=⟨t,o.Main.Start.D9⟩
def ga1(qa:Nat)(o:F3)(a b:Int)(mp:List (Tm×Bool)):Wn->List Tm->Wn×o6
 |w,[]=>(w,.nil)
 |w,t::r=>if getM mp t=true then ga1 qa o a b mp w r else
  if(A2 qa o (moI o t)).2=.nil then ga1 qa o a b mp (J3 a b w (A2 qa o (moI o t)).1 (D4 o.Main) t false) r else(w,(A2 qa o (moI o t)).2)
def ga2(qa:Nat)(o:F3)(a b:Int)(mp:List (Tm×Bool)):Wn->List Q4->Wn×o6
 |w,[]=>(w,.nil)
 |w,x::r=>if ¬getM mp (J4 x)=true then ga2 qa o a b mp w r else
  if(A2 qa o x.Start).2=.nil then ga2 qa o a b mp (J3 a b w (A2 qa o x.Start).1 (D4 x) (J4 x) true) r else(w,(A2 qa o x.Start).2)
def W6(qa:Nat)(o:F3)(a b:Int):Wn×o6:=
 if(ovM qa o [] o.Over).2=.nil then
  if(N8 qa o a b).2=.nil then
   if(ga1 qa o a b (ovM qa o [] o.Over).1 ([],false) (N8 qa o a b).1).2=.nil then ga2 qa o a b (ovM qa o [] o.Over).1 (ga1 qa o a b (ovM qa o [] o.Over).1 ([],false) (N8 qa o a b).1).1 o.Over
   else ga1 qa o a b (ovM qa o [] o.Over).1 ([],false) (N8 qa o a b).1
  else(([],false),(N8 qa o a b).2)
 else(([],false),(ovM qa o [] o.Over).2)
def b9R(o:F3)(f t:Tm):Prop:=V8 o/\p9 f=true/\p9 t=true/\f.UTC=true/\t.UTC=true/\b8 f<=b8 t
open Classical in
def G9(qa:Nat)(o:F3)(f t:Tm):List Ins×o6:=
 if b9R o f t then
  if(N8 qa o (b8 f) (b8 t)).2=.nil then
   if(W6 qa o (b8 f) (b8 t)).2=.nil then
    if(W6 qa o (b8 f) (b8 t)).1.2=true then([],.no 3)else
    if 1000<(W6 qa o (b8 f) (b8 t)).1.1.length then([],.no 16)else
    (a3C (W6 qa o (b8 f) (b8 t)).1.1,.nil)
   else([],V9 (W6 qa o (b8 f) (b8 t)).2)
  else([],V9 (N8 qa o (b8 f) (b8 t)).2)
 else([],.no 2)
def d3E(l:List Ins):Prop:=∀x∈l,∀y∈l,b8 x.Start=b8 y.Start->b8 x.l7=b8 y.l7->x=y
def b1t(a b:Int)(w:Wn)(s:Tm)(n:Int)(k:Tm)(v:Bool):(J3 a b w s n k v).1.length<=w.1.length+1:=by
 unfold J3;split
 . omega
 . split
   . dsimp only;omega
   . rw[d4Y];exact d5m _
def a7X(l:List Ins):(a3C l).length=l.length:=(d6v l _).length_eq
def a00{l:List Ins}{x:Ins}:x∈a3C l↔x∈l:=(d6v l _).mem_iff
end
end Go.Qu
namespace Go.Proofs.YtapnoejokajcoaaGreatDoor
open Go Go.Wk Go.Wl Go.Rx Go.Re Go.Li Go.Qu Go.Fo 
attribute [local irreducible] j4
def c5R:Nat->D3:=fun|65=>⟨68,nn,nn⟩|_=>⟨0,nn,nn⟩
def c8Z(sy:Int)(sm:Int)(sd:Int)(sh:Int)(si:Int)(ss:Int)(sb:Prop)(sB:Decidable sb)(su:Prop)(sV:Decidable su)(n:Int)(ky:Int)(km:Int)(kd:Int)(kh:Int)(ki:Int)(ks:Int)(kb:Prop)(kB:Decidable kb)(ku:Prop)(kV:Decidable ku)(a:Int)(b:Int)(pc:Prop)(dc:Decidable pc)(l:List Ins)(Q:Int->Int->List Ins->Bool->Prop):Prop:=
(¬b<=b8 (Tm.mk (Dy.mk sy sm sd) sh si ss (decide sb) (decide su))->c6 (b8 (Tm.mk (Dy.mk sy sm sd) sh si ss (decide sb) (decide su))+n))/\(bR (b<=b8 (Tm.mk (Dy.mk sy sm sd) sh si ss (decide sb) (decide su))∨b8 (Tm.mk (Dy.mk sy sm sd) sh si ss (decide sb) (decide su))+n<=a/\(0<n∨b8 (Tm.mk (Dy.mk sy sm sd) sh si ss (decide sb) (decide su))<a)) (Q a b l (decide pc)) (c6 (b8 (Tm.mk (Dy.mk sy sm sd) sh si ss (decide sb) (decide su))+n)/\b8 (Tm.mk (Dy.mk sy sm sd) sh si ss (decide sb) (decide su))+n<=9000000000000000000/\(bR ((L4 (b8 (Tm.mk (Dy.mk sy sm sd) sh si ss (decide sb) (decide su))+n) (Tm.mk (Dy.mk sy sm sd) sh si ss (decide sb) (decide su))).Day.Year=0) (Q a b l true) ((l.length+[Ins.mk (Tm.mk (Dy.mk sy sm sd) sh si ss (decide sb) (decide su)) (j7 (L4 (b8 (Tm.mk (Dy.mk sy sm sd) sh si ss (decide sb) (decide su))+n) (Tm.mk (Dy.mk sy sm sd) sh si ss (decide sb) (decide su)))) (Tm.mk (Dy.mk ky km kd) kh ki ks (decide kb) (decide ku)) false].length)*(some (176:Nat)).getD (0:Nat)<=140737488355328/\Q a b (l++[Ins.mk (Tm.mk (Dy.mk sy sm sd) sh si ss (decide sb) (decide su)) (j7 (L4 (b8 (Tm.mk (Dy.mk sy sm sd) sh si ss (decide sb) (decide su))+n) (Tm.mk (Dy.mk sy sm sd) sh si ss (decide sb) (decide su)))) (Tm.mk (Dy.mk ky km kd) kh ki ks (decide kb) (decide ku)) false]) (decide pc)))))
def d4f(sy:Int)(sm:Int)(sd:Int)(sh:Int)(si:Int)(ss:Int)(sb:Prop)(sB:Decidable sb)(su:Prop)(sV:Decidable su)(n:Int)(ky:Int)(km:Int)(kd:Int)(kh:Int)(ki:Int)(ks:Int)(kb:Prop)(kB:Decidable kb)(ku:Prop)(kV:Decidable ku)(a:Int)(b:Int)(pc:Prop)(dc:Decidable pc)(l:List Ins)(h1:-1000000000000000<=b8 (Tm.mk (Dy.mk sy sm sd) sh si ss (decide sb) (decide su))+n)(h2:b8 (Tm.mk (Dy.mk sy sm sd) sh si ss (decide sb) (decide su))+n<=1000000000000000)(h3:List.length (α:=Ins) l<=100000):c8Z sy sm sd sh si ss sb sB su sV n ky km kd kh ki ks kb kB ku kV a b pc dc l (fun y0 y1 y2 y3=>y0=a/\y1=b/\y2=(J3 a b (l,decide pc) (Tm.mk (Dy.mk sy sm sd) sh si ss (decide sb) (decide su)) n (Tm.mk (Dy.mk ky km kd) kh ki ks (decide kb) (decide ku)) false).1/\y3=(J3 a b (l,decide pc) (Tm.mk (Dy.mk sy sm sd) sh si ss (decide sb) (decide su)) n (Tm.mk (Dy.mk ky km kd) kh ki ks (decide kb) (decide ku)) false).2):=by
 unfold c8Z;simp only[y8,A9,B5,C7,C6,C8,D0,C5,C3,D2,B9,d4Z];generalize Tm.mk (Dy.mk sy sm sd) sh si ss (decide sb) (decide su)=s at *;generalize Tm.mk (Dy.mk ky km kd) kh ki ks (decide kb) (decide ku)=k at *;have hi:c6 (b8 s+n):=by unfold c6;omega
 refine⟨fun _=>hi,fun h=>?_,fun h=>⟨hi,by omega,fun z=>?_,fun z=>⟨?_,?_⟩⟩⟩
 . have e:J3 a b (l,decide pc) s n k false=(l,decide pc):=by unfold J3;rw[if_pos h]
   rw[e];exact⟨trivial,trivial,rfl,rfl⟩
 . have e:J3 a b (l,decide pc) s n k false=(l,true):=by unfold J3;rw[if_neg h,if_pos z]
   rw[e];exact⟨trivial,trivial,rfl,rfl⟩
 . show(l.length+1)*176<=_;omega
 . have e:J3 a b (l,decide pc) s n k false=(l++[mkI s n k false],decide pc):=by unfold J3;rw[if_neg h,if_neg z]
   rw[e];exact⟨trivial,trivial,rfl,rfl⟩
def d1j(sy:Int)(sm:Int)(sd:Int)(sh:Int)(si:Int)(ss:Int)(sb:Prop)(sB:Decidable sb)(su:Prop)(sV:Decidable su)(n:Int)(ky:Int)(km:Int)(kd:Int)(kh:Int)(ki:Int)(ks:Int)(kb:Prop)(kB:Decidable kb)(ku:Prop)(kV:Decidable ku)(a:Int)(b:Int)(pc:Prop)(dc:Decidable pc)(l:List Ins):FR U:=b4O N61 [-1000000000000000<=b8 (Tm.mk (Dy.mk sy sm sd) sh si ss (decide sb) (decide su))+n,b8 (Tm.mk (Dy.mk sy sm sd) sh si ss (decide sb) (decide su))+n<=1000000000000000,List.length (α:=Ins) l<=100000] [(0,.own 70 [.int .i64 a,.int .i64 b,.acc 1,.bl pc dc]),(1,.ac (N:=U) 48 l)] 4 0 [.tree [] [.own (some 200) 70 [.v (.int .i64),.v (.int .i64),.v (.acc 48),.v (.bool)]]] (((a,b,(J3 a b (l,decide pc) (Tm.mk (Dy.mk sy sm sd) sh si ss (decide sb) (decide su)) n (Tm.mk (Dy.mk ky km kd) kh ki ks (decide kb) (decide ku)) false).1,(J3 a b (l,decide pc) (Tm.mk (Dy.mk sy sm sd) sh si ss (decide sb) (decide su)) n (Tm.mk (Dy.mk ky km kd) kh ki ks (decide kb) (decide ku)) false).2,()),()),())
def b9e:FC U:=⟨[],[],fun a its=>match a,its with|[.ref 0 0,.agg [.int .i64 sy,.int .i64 sm,.int .i64 sd,.int .i64 sh,.int .i64 si,.int .i64 ss,.bl sb sB,.bl su sV],.int .i64 n,.agg [.int .i64 ky,.int .i64 km,.int .i64 kd,.int .i64 kh,.int .i64 ki,.int .i64 ks,.bl kb kB,.bl ku kV],.ff],[(0,.own 70 [.int .i64 a,.int .i64 b,.acc 1,.bl pc dc]),(1,.ac 48 l)]=>some (d1j sy sm sd sh si ss sb sB su sV n ky km kd kh ki ks kb kB ku kV a b pc dc l)|_,_=>none⟩
def fptf_ok(args:List (SV U))(its:c7 U)(r:FR U)(h:b9e.C args its=some r)(ho:q9 r.ob):M6 Tryz.prog U eT Gl 65 args its (2*its.length) (fun k=>q9 r.hy->k r.v r.its r.n):=by
 unfold b9e at h;simp only at h;split at h
 . rename_i sy sm sd sh si ss sb sB su sV n ky km kd kh ki ks kb kB ku kV a b pc dc l;cases h;exact fc_ok (an:=c5R 65) N61_ok (inlHN_ok N61_ok H0_ok c5R 3) Tryz.func65 (n:=0) rfl (vs:=[.tree [] [.own (some 200) 70 [.v (.int .i64),.v (.int .i64),.v (.acc 48),.v (.bool)]]]) (X:=(((a,b,(J3 a b (l,decide pc) (Tm.mk (Dy.mk sy sm sd) sh si ss (decide sb) (decide su)) n (Tm.mk (Dy.mk ky km kd) kh ki ks (decide kb) (decide ku)) false).1,(J3 a b (l,decide pc) (Tm.mk (Dy.mk sy sm sd) sh si ss (decide sb) (decide su)) n (Tm.mk (Dy.mk ky km kd) kh ki ks (decide kb) (decide ku)) false).2,()),()),())) rfl (kc (d4f sy sm sd sh si ss sb sB su sV n ky km kd kh ki ks kb kB ku kV a b pc dc l ho.1 ho.2.1 ho.2.2.1) (by kernel_rfl))
 . cases h
def c7e:Env:=(N61.z7 65 Tryz.f65).a1N 65 b9e
def Nptf_ok:c8 c7e:=(N61_ok.z7 Tryz.call65 Tryz.func65).a1N Tryz.call65 fptf_ok
def c5v:Nat->D3:=fun|65=>⟨68,nn,nn⟩|_=>⟨0,nn,nn⟩
def d0r(sy:Int)(sm:Int)(sd:Int)(sh:Int)(si:Int)(ss:Int)(sb:Prop)(sB:Decidable sb)(su:Prop)(sV:Decidable su)(n:Int)(ky:Int)(km:Int)(kd:Int)(kh:Int)(ki:Int)(ks:Int)(kb:Prop)(kB:Decidable kb)(ku:Prop)(kV:Decidable ku)(a:Int)(b:Int)(pc:Prop)(dc:Decidable pc)(l:List Ins)(Q:Int->Int->List Ins->Bool->Prop):Prop:=
(¬b<=b8 (Tm.mk (Dy.mk sy sm sd) sh si ss (decide sb) (decide su))->c6 (b8 (Tm.mk (Dy.mk sy sm sd) sh si ss (decide sb) (decide su))+n))/\(bR (b<=b8 (Tm.mk (Dy.mk sy sm sd) sh si ss (decide sb) (decide su))∨b8 (Tm.mk (Dy.mk sy sm sd) sh si ss (decide sb) (decide su))+n<=a/\(0<n∨b8 (Tm.mk (Dy.mk sy sm sd) sh si ss (decide sb) (decide su))<a)) (Q a b l (decide pc)) (c6 (b8 (Tm.mk (Dy.mk sy sm sd) sh si ss (decide sb) (decide su))+n)/\b8 (Tm.mk (Dy.mk sy sm sd) sh si ss (decide sb) (decide su))+n<=9000000000000000000/\(bR ((L4 (b8 (Tm.mk (Dy.mk sy sm sd) sh si ss (decide sb) (decide su))+n) (Tm.mk (Dy.mk sy sm sd) sh si ss (decide sb) (decide su))).Day.Year=0) (Q a b l true) ((l.length+[Ins.mk (Tm.mk (Dy.mk sy sm sd) sh si ss (decide sb) (decide su)) (j7 (L4 (b8 (Tm.mk (Dy.mk sy sm sd) sh si ss (decide sb) (decide su))+n) (Tm.mk (Dy.mk sy sm sd) sh si ss (decide sb) (decide su)))) (Tm.mk (Dy.mk ky km kd) kh ki ks (decide kb) (decide ku)) true].length)*(some (176:Nat)).getD (0:Nat)<=140737488355328/\Q a b (l++[Ins.mk (Tm.mk (Dy.mk sy sm sd) sh si ss (decide sb) (decide su)) (j7 (L4 (b8 (Tm.mk (Dy.mk sy sm sd) sh si ss (decide sb) (decide su))+n) (Tm.mk (Dy.mk sy sm sd) sh si ss (decide sb) (decide su)))) (Tm.mk (Dy.mk ky km kd) kh ki ks (decide kb) (decide ku)) true]) (decide pc)))))
def d4J(sy:Int)(sm:Int)(sd:Int)(sh:Int)(si:Int)(ss:Int)(sb:Prop)(sB:Decidable sb)(su:Prop)(sV:Decidable su)(n:Int)(ky:Int)(km:Int)(kd:Int)(kh:Int)(ki:Int)(ks:Int)(kb:Prop)(kB:Decidable kb)(ku:Prop)(kV:Decidable ku)(a:Int)(b:Int)(pc:Prop)(dc:Decidable pc)(l:List Ins)(h1:-1000000000000000<=b8 (Tm.mk (Dy.mk sy sm sd) sh si ss (decide sb) (decide su))+n)(h2:b8 (Tm.mk (Dy.mk sy sm sd) sh si ss (decide sb) (decide su))+n<=1000000000000000)(h3:List.length (α:=Ins) l<=100000):d0r sy sm sd sh si ss sb sB su sV n ky km kd kh ki ks kb kB ku kV a b pc dc l (fun y0 y1 y2 y3=>y0=a/\y1=b/\y2=(J3 a b (l,decide pc) (Tm.mk (Dy.mk sy sm sd) sh si ss (decide sb) (decide su)) n (Tm.mk (Dy.mk ky km kd) kh ki ks (decide kb) (decide ku)) true).1/\y3=(J3 a b (l,decide pc) (Tm.mk (Dy.mk sy sm sd) sh si ss (decide sb) (decide su)) n (Tm.mk (Dy.mk ky km kd) kh ki ks (decide kb) (decide ku)) true).2):=by
 unfold d0r;simp only[y8,A9,B5,C7,C6,C8,D0,C5,C3,D2,B9,d4Z];generalize Tm.mk (Dy.mk sy sm sd) sh si ss (decide sb) (decide su)=s at *;generalize Tm.mk (Dy.mk ky km kd) kh ki ks (decide kb) (decide ku)=k at *;have hi:c6 (b8 s+n):=by unfold c6;omega
 refine⟨fun _=>hi,fun h=>?_,fun h=>⟨hi,by omega,fun z=>?_,fun z=>⟨?_,?_⟩⟩⟩
 . have e:J3 a b (l,decide pc) s n k true=(l,decide pc):=by unfold J3;rw[if_pos h]
   rw[e];exact⟨trivial,trivial,rfl,rfl⟩
 . have e:J3 a b (l,decide pc) s n k true=(l,true):=by unfold J3;rw[if_neg h,if_pos z]
   rw[e];exact⟨trivial,trivial,rfl,rfl⟩
 . show(l.length+1)*176<=_;omega
 . have e:J3 a b (l,decide pc) s n k true=(l++[mkI s n k true],decide pc):=by unfold J3;rw[if_neg h,if_neg z]
   rw[e];exact⟨trivial,trivial,rfl,rfl⟩
def d0w(sy:Int)(sm:Int)(sd:Int)(sh:Int)(si:Int)(ss:Int)(sb:Prop)(sB:Decidable sb)(su:Prop)(sV:Decidable su)(n:Int)(ky:Int)(km:Int)(kd:Int)(kh:Int)(ki:Int)(ks:Int)(kb:Prop)(kB:Decidable kb)(ku:Prop)(kV:Decidable ku)(a:Int)(b:Int)(pc:Prop)(dc:Decidable pc)(l:List Ins):FR U:=b4O c7e [-1000000000000000<=b8 (Tm.mk (Dy.mk sy sm sd) sh si ss (decide sb) (decide su))+n,b8 (Tm.mk (Dy.mk sy sm sd) sh si ss (decide sb) (decide su))+n<=1000000000000000,List.length (α:=Ins) l<=100000] [(0,.own 70 [.int .i64 a,.int .i64 b,.acc 1,.bl pc dc]),(1,.ac (N:=U) 48 l)] 4 0 [.tree [] [.own (some 200) 70 [.v (.int .i64),.v (.int .i64),.v (.acc 48),.v (.bool)]]] (((a,b,(J3 a b (l,decide pc) (Tm.mk (Dy.mk sy sm sd) sh si ss (decide sb) (decide su)) n (Tm.mk (Dy.mk ky km kd) kh ki ks (decide kb) (decide ku)) true).1,(J3 a b (l,decide pc) (Tm.mk (Dy.mk sy sm sd) sh si ss (decide sb) (decide su)) n (Tm.mk (Dy.mk ky km kd) kh ki ks (decide kb) (decide ku)) true).2,()),()),())
def c18:FC U:=⟨[],[],fun a its=>match a,its with|[.ref 0 0,.agg [.int .i64 sy,.int .i64 sm,.int .i64 sd,.int .i64 sh,.int .i64 si,.int .i64 ss,.bl sb sB,.bl su sV],.int .i64 n,.agg [.int .i64 ky,.int .i64 km,.int .i64 kd,.int .i64 kh,.int .i64 ki,.int .i64 ks,.bl kb kB,.bl ku kV],.tt],[(0,.own 70 [.int .i64 a,.int .i64 b,.acc 1,.bl pc dc]),(1,.ac 48 l)]=>some (d0w sy sm sd sh si ss sb sB su sV n ky km kd kh ki ks kb kB ku kV a b pc dc l)|_,_=>none⟩
def fptt_ok(args:List (SV U))(its:c7 U)(r:FR U)(h:c18.C args its=some r)(ho:q9 r.ob):M6 Tryz.prog U eT Gl 65 args its (2*its.length) (fun k=>q9 r.hy->k r.v r.its r.n):=by
 unfold c18 at h;simp only at h;split at h
 . rename_i sy sm sd sh si ss sb sB su sV n ky km kd kh ki ks kb kB ku kV a b pc dc l;cases h;exact fc_ok (an:=c5v 65) Nptf_ok (inlHN_ok Nptf_ok H0_ok c5v 3) Tryz.func65 (n:=0) rfl (vs:=[.tree [] [.own (some 200) 70 [.v (.int .i64),.v (.int .i64),.v (.acc 48),.v (.bool)]]]) (X:=(((a,b,(J3 a b (l,decide pc) (Tm.mk (Dy.mk sy sm sd) sh si ss (decide sb) (decide su)) n (Tm.mk (Dy.mk ky km kd) kh ki ks (decide kb) (decide ku)) true).1,(J3 a b (l,decide pc) (Tm.mk (Dy.mk sy sm sd) sh si ss (decide sb) (decide su)) n (Tm.mk (Dy.mk ky km kd) kh ki ks (decide kb) (decide ku)) true).2,()),()),())) rfl (kc (d4J sy sm sd sh si ss sb sB su sV n ky km kd kh ki ks kb kB ku kV a b pc dc l ho.1 ho.2.1 ho.2.2.1) (by kernel_rfl))
 . cases h
def d2d:Env:=(c7e.z7 65 Tryz.f65).a1N 65 c18
def Nptt_ok:c8 d2d:=(Nptf_ok.z7 Tryz.call65 Tryz.func65).a1N Tryz.call65 fptt_ok
def orF(f g:FC U):FC U:=⟨[],[],fun a its=>match f.C a its with|some r=>some r|none=>g.C a its⟩
def fpt:FC U:=orF b9e c18
def fpt_ok(args:List (SV U))(its:c7 U)(r:FR U)(h:fpt.C args its=some r)(ho:q9 r.ob):M6 Tryz.prog U eT Gl 65 args its (2*its.length) (fun k=>q9 r.hy->k r.v r.its r.n):=by
 have h:(match b9e.C args its with|some r=>some r|none=>c18.C args its)=some r:=h;split at h
 . rename_i x hx;cases h;exact fptf_ok args its _ hx ho
 . exact fptt_ok args its r h ho
def Npt:Env:=d2d.a1N 65 fpt
def Npt_ok:c8 Npt:=Nptt_ok.a1N Tryz.call65 fpt_ok
def d1H:Env:=Npt.z7 28 Tryz.f28
def NI28_ok:c8 d1H:=Npt_ok.z7 Tryz.call28 Tryz.func28
end Go.Proofs.YtapnoejokajcoaaGreatDoor
namespace Go.Qu
open Go Go.Wk Go.Wl Go.Rx Go.Re Go.Li Go.Fo
noncomputable section
def BIG:Int:=315537897600
def c2s(s:Tm)(r:Rl)(u:Int):Prop:=u∈(I5 s r (u9 s.Day) 0 BIG).1
def c3A{s:Tm}{r:Rl}{a b x:Tm}(h:(J9 s r a b).2=.nil):x∈(J9 s r a b).1↔∃u,c2s s r u/\b8 a<=u/\u<b8 b/\x=L4 u s:=by
 have hx:b6I s r a b:=exp_ok (by rw[h];rfl);obtain⟨hF,ha,hb⟩:=a9v hx.bad;have a0:=(y7 ha).1;have b1:=(y7 hb).2;have e1:=(b9v (day:=u9 s.Day) (fr:=0) (m:=b8 a) (tw:=b8 b) hF (d5o 0) a0).1;have e2:=(b9p (day:=u9 s.Day) (fr:=0) (m:=b8 b) (tw:=BIG) hF (d5o 0) (by unfold BIG;omega)).1;rw[b46 hx];dsimp only;rw[a6n,d6A];have e3:(a3i s r a b).1=(I5 s r (u9 s.Day) (b8 a) (b8 b)).1:=rfl;rw[e3,e1,e2];unfold c2s;constructor
 . rintro⟨u,hu,rfl⟩;obtain⟨h1,h2⟩:=d5u.1 hu;obtain⟨h3,h4⟩:=d5u.1 h1;exact⟨u,h3,a2j.1 h2,lt_iff.1 h4,rfl⟩
 . rintro⟨u,hu,h1,h2,rfl⟩;exact⟨u,d5u.2 ⟨d5u.2 ⟨hu,lt_iff.2 h2⟩,a2j.2 h1⟩,rfl⟩
def c8s{s:Tm}{r:Rl}{u:Int}(hF:A3 s r)(h:c2s s r u):AtP s u:=(b9P hF (d5o 0) h).a
def c6p{s:Tm}{r:Rl}{a b x:Tm}(h:(J9 s r a b).2=.nil)(hx:x∈(J9 s r a b).1):isP s r x=(true,.nil):=by obtain⟨i,hi,rfl⟩:=d5w hx;have:=(c0e (x:=i) (by rw[h];rfl) (by omega) (by omega)).is;rw[s8 (by omega)]at this;exact this
structure FmP(s t:Tm):Prop where
 rt:p9 t=true
 ba:t.o7=s.o7
 ut:t.UTC=s.UTC
def c3e{a b:Tm}{u:Int}(h1:a.o7=b.o7)(h2:a.UTC=b.UTC):L4 u a=L4 u b:=by unfold L4;rw[h1,h2]
def a7y{s t t':Tm}(h:FmP s t)(h':FmP s t')(e:b8 t=b8 t'):t=t':=by have e1:=a6o (A8.1 h.rt);have e2:=a6o (A8.1 h'.rt);rw[<- e1,<- e2,e];exact c3e (h.ba.trans h'.ba.symm) (h.ut.trans h'.ut.symm)
def d1Y{s:Tm}{u:Int}(h:AtP s u):FmP s (L4 u s)/\b8 (L4 u s)=u:=⟨⟨(atS_ok h).rt,(atS_ok h).ba,(atS_ok h).ut⟩,(atS_ok h).se⟩
def a7I{a b:E6}:P5 a b=true↔a.Time.o7=b.Time.o7/\a.Time.UTC=b.Time.UTC/\a.D9=b.D9:=d5M
def b9K{zs:List V7}{l:List E6}{like:E6}(h:a8J zs l like):∀m∈l,FmP like.Time m.Time/\m.D9=like.D9:=by have h1:=(s6.list (p:=fun m=>S0 zs m/\P5 m like=true)).1 fun j j0 j1=>⟨(h.1 j j0 j1).1,(h.1 j j0 j1).2.1⟩;intro m hm;obtain⟨a,b⟩:=h1 m hm;obtain⟨b1,b2,b3⟩:=a7I.1 b;exact⟨⟨a.1,b1,b2⟩,b3⟩
def leT{x y:Tm}:(!decide (a0c y x<0))=true↔b8 x<=b8 y:=by have h:a0c y x<0↔b8 y<b8 x:=a0L;simp[h]
def c4v(l:List Tm):(a74 l).Pairwise fun x y=>b8 x<=b8 y:=by
 have h:=d7W (le:=fun x y:Tm=>!decide (a0c y x<0)) (fun a b c h1 h2=>leT.2 (by have:=leT.1 h1;have:=leT.1 h2;omega)) (fun a b=>by rw[d5V,leT,leT];omega) l
 exact h.imp fun h=>leT.1 h
def a7D{α:Type}[DecidableEq α]{z:α}:∀{r:List α}{x:α},z∈x::a2y x r↔z∈x::r
 |[],x=>d7A
 |y::r,x=>by
  rw[a2y];split
  . rename_i e;have h:=a7D (z:=z) (r:=r) (x:=x);simp only[d5k]at h ⊢;rw[e,h];exact⟨fun h=>h.elim .inl fun h=>.inr (.inr h),fun h=>h.elim .inl id⟩
  . have h:=a7D (z:=z) (r:=r) (x:=y);simp only[d5k]at h ⊢;rw[h]
def b5o{α:Type}[DecidableEq α]{z:α}{l:List α}:z∈ded l↔z∈l:=by
 cases l with
 |nil=>exact d7A
 |cons x r=>exact a7D
def b05:∀{r:List Tm}{x:Tm},(x::r).Pairwise (fun x y=>b8 x<=b8 y)->b1f (x::r)->(x::a2y x r).Pairwise fun x y=>b8 x<b8 y
 |[],x,_,_=>by rw[a2y];exact d6X _ _
 |y::r,x,h,ht=>by
  obtain⟨h1,h2⟩:=d5I.1 h;rw[a2y];split
  . rename_i e;exact b05 (r:=r) (x:=x) (d5I.2 ⟨fun z hz=>h1 z (by simp[hz]),(d5I.1 h2).2⟩) fun a ha b hb=>ht a (by simp at ha ⊢;rcases ha with e|e <;> simp[e]) b (by simp at hb ⊢;rcases hb with e|e <;> simp[e])
  . rename_i e;have ih:=b05 (r:=r) (x:=y) h2 fun a ha b hb=>ht a (d5v _ ha) b (d5v _ hb);have hxy:b8 x<b8 y:=by
     have l1:=h1 y (by simp);have l2:b8 x≠b8 y:=fun e2=>e (ht x (by simp) y (by simp) e2).symm;omega
    refine d5I.2 ⟨fun z hz=>?_,ih⟩;rcases d5k.1 hz with e|e
    . rw[e];exact hxy
    . have:=(d5I.1 ih).1 z e;omega
def c7V{l:List Tm}(h:l.Pairwise fun x y=>b8 x<=b8 y)(ht:b1f l):(ded l).Pairwise fun x y=>b8 x<b8 y:=by
 cases l with
 |nil=>exact List.Pairwise.nil
 |cons x r=>exact b05 h ht
def a8o{zs:List V7}{x:Q4}(h:S2 zs x):x.b9=[]∨∃r,x.b9=[r]/\G3 x.Start.Time r=true:=by
 have hl:=h.2.2.1
 match hr:x.b9 with
 |[]=>exact .inl rfl
 |[r]=>exact .inr ⟨r,rfl,(s6.list (p:=fun r=>G3 x.Start.Time r=true)).1 h.2.2.2.2.2.2.1 r (by rw[hr];simp)⟩
 |_::_::_=>rw[hr]at hl;simp at hl;omega
def b4o(o:F3)(a b:Int)(t:Tm):Prop:=(o.Main.b9=[]/\t=o.Main.Start.Time)∨∃r,o.Main.b9=[r]/\∃u,c2s o.Main.Start.Time r u/\b8 (Y5 (a-172800-D4 o.Main) o.Main.Start.Time)<=u/\u<b8 (Y5 (b+172800) o.Main.Start.Time)/\t=L4 u o.Main.Start.Time
variable{qa:Nat}{o:F3}{a b:Int}{t:Tm}
def a9U(hI:S2 o.c9 o.Main)(h:(tmE qa o a b [o.Main.Start.Time] o.Main.b9).2=.nil):t∈(tmE qa o a b [o.Main.Start.Time] o.Main.b9).1↔b4o o a b t:=by
 unfold b4o;rcases a8o hI with e|⟨r,e,hf⟩
 . rw[e,tmE];simp
 . rw[e]at h ⊢;rw[tmE]at h ⊢;by_cases h2:(tmR o a b r).2=.nil
   . rw[if_pos h2,tmE];unfold tmR at h2 ⊢;rw[c3A h2];constructor
     . rintro⟨u,hu⟩;exact .inr ⟨r,rfl,u,hu⟩
     . rintro(⟨h,_⟩|⟨r',h,hu⟩)
       . cases h
       . cases h;exact hu
   . rw[if_neg h2]at h;cases h
def a3Y(h:(N8 qa o a b).2=.nil):(tmE qa o a b [o.Main.Start.Time] o.Main.b9).2=.nil/\(N8 qa o a b).1=ded (a74 (tmA qa o a b)):=by
 unfold N8 at h ⊢;split at h
 . rename_i e;rw[if_pos e];exact⟨e,rfl⟩
 . rename_i e;exact absurd h e
def b18(hI:S2 o.c9 o.Main)(h:(N8 qa o a b).2=.nil):t∈(N8 qa o a b).1↔(b4o o a b t∨∃m∈o.Main.o5,m.Time=t)/\L7 o t=false:=by obtain⟨h1,h2⟩:=a3Y h;rw[h2,b5o,a42];unfold tmA;rw[d5u,d5t,a9U hI h1,d6A];simp
def c7f(hI:S2 o.c9 o.Main)(h:b4o o a b t):FmP o.Main.Start.Time t:=by
 rcases h with⟨_,rfl⟩|⟨r,e,u,hu,_,_,rfl⟩
 . exact⟨hI.1.1,rfl,rfl⟩
 . rcases a8o hI with e'|⟨r',e',hf⟩
   . rw[e]at e';cases e'
   . rw[e]at e';cases e';exact(d1Y (c8s (J7.1 hf) hu)).1
def c9G(hI:S2 o.c9 o.Main)(h:∃m∈o.Main.o5,m.Time=t):FmP o.Main.Start.Time t:=by obtain⟨m,hm,rfl⟩:=h;exact(b9K hI.2.2.2.2.2.2.2.2.2.1 m hm).1
def c8x(hI:S2 o.c9 o.Main)(ht:t∈(tmE qa o a b [o.Main.Start.Time] o.Main.b9).1):FmP o.Main.Start.Time t:=by
 by_cases h:(tmE qa o a b [o.Main.Start.Time] o.Main.b9).2=.nil
 . exact c7f hI ((a9U hI h).1 ht)
 . rcases a8o hI with e|⟨r,e,hf⟩
   . rw[e,tmE]at h;exact absurd rfl h
   . rw[e,tmE]at h ht;split at h
     . exact absurd rfl h
     . rename_i h2;rw[if_neg h2]at ht;cases ht
def b4u(hI:S2 o.c9 o.Main)(h:t∈tmA qa o a b):FmP o.Main.Start.Time t:=by
 unfold tmA at h;rcases d5t.1 (d5u.1 h).1 with h|h
 . exact c8x hI h
 . obtain⟨m,hm,e⟩:=d6A.1 h;exact c9G hI ⟨m,hm,e⟩
def b6U(hI:S2 o.c9 o.Main):b1f (tmA qa o a b):=fun x hx y hy e=>a7y (b4u hI hx) (b4u hI hy) e
def c2d(hI:S2 o.c9 o.Main)(h:(N8 qa o a b).2=.nil)(ht:t∈(N8 qa o a b).1):FmP o.Main.Start.Time t:=by rw[(a3Y h).2,b5o,a42]at ht;exact b4u hI ht
def d1q(hI:S2 o.c9 o.Main)(h:(N8 qa o a b).2=.nil):(N8 qa o a b).1.Pairwise fun x y=>b8 x<b8 y:=by rw[(a3Y h).2];exact c7V (c4v _) fun x hx y hy=>b6U hI x (a42.1 hx) y (a42.1 hy)
def c6H(hI:S2 o.c9 o.Main)(h:(N8 qa o a b).2=.nil)(ht:t∈(N8 qa o a b).1)(hh:(N7 qa o t).2=.nil):(N7 qa o t).1=true:=by
 have hm:=(b18 hI h).1 ht;have h1:=(a3Y h).1;unfold N7 at hh ⊢;dsimp only at hh ⊢;split at hh
 . rename_i e;rw[if_pos e];rw[hm.2,d8u,Bool.and_true];rcases hm.1 with hb|⟨m,hm',e'⟩
   . have:(a4J qa o.Main.Start.Time t (decide ((o.Main.b9.length:Int)=0/\t=o.Main.Start.Time)) o.Main.b9).1=true:=by
       rcases hb with⟨e1,e2⟩|⟨r,e1,u,hu⟩
       . rw[e1,a4J];simp[e2]
       . have hx:t∈(tmR o a b r).1:=by
           have:=(a9U (qa:=qa) (t:=t) hI h1).2 (.inr ⟨r,e1,u,hu⟩);rw[e1,tmE]at this h1;split at h1
           . rename_i e3;rw[if_pos e3,tmE]at this;exact this
           . cases h1
         have h3:(tmR o a b r).2=.nil:=by
          rw[e1,tmE]at h1;split at h1
          . assumption
          . cases h1
         have h4:=c6p h3 hx;rw[e1,a4J,h4,if_pos rfl,a4J]
     rw[this];rfl
   . have:(o.Main.o5.any fun m=>decide (m.Time=t))=true:=d6P.2 ⟨m,hm',d5e e'⟩;rw[this,Bool.or_true]
 . rename_i e;exact absurd hh e
end
noncomputable section
structure GrP(t:Tm):Prop where
 rt:p9 t=true
 ut:t.UTC=true
 ba:t.o7=false
def c0E{t:Tm}(h:p9 t=true)(hu:t.UTC=true):GrP t:=⟨h,hu,by
 cases hb:t.o7 with
 |false=>rfl
 |true=>exact absurd ⟨hb,.inr hu⟩ (A8.1 h).2.2.2.2⟩
def c3U{n:Int}{y:Tm}(h:(L4 n y).Day.Year≠0):0<=n/\n<315537897600/\(y.o7=true->y.UTC=false/\n%86400=0):=by
 unfold L4 at h;split at h
 . exact absurd rfl h
 . rename_i hc;have h1:¬n<0:=fun e=>hc (.inl e);have h2:¬3652059<n / 86400+1:=fun e=>hc (.inr (.inr e));refine⟨by omega,by omega,fun hb=>⟨?_,?_⟩⟩
   . cases hu:y.UTC with
     |false=>rfl
     |true=>exact absurd (.inr (.inl ⟨hb,.inl hu⟩)) hc
   . exact d6i fun e=>hc (.inr (.inl ⟨hb,.inr e⟩))
def b9I{n:Int}{y:Tm}(hu:y.UTC=true)(h:(L4 n y).Day.Year≠0):GrP (L4 n y)/\b8 (L4 n y)=n:=by obtain⟨a,b,c⟩:=c3U h;have hA:AtP y n:=⟨a,b,c⟩;exact⟨c0E (atS_ok hA).rt ((atS_ok hA).ut.trans hu),(atS_ok hA).se⟩
def b6K{n:Int}:c0u n=true↔-86400<n/\n<86400:=d5M
def fz_ok{l:List Obv}{t:Int}(hl:s6 l.length fun j=>c1M (ix l j)):∀n:Nat,n<=l.length->((fz l t n).some=true->-86400<(fz l t n).out/\(fz l t n).out<86400)/\0<=(fz l t n).early/\((fz l t n).early<n∨(fz l t n).early=0)
 |0,_=>⟨(fun h=>by cases h),d5o _,.inr rfl⟩
 |n+1,h=>by
  obtain⟨h1,h2,h3⟩:=fz_ok hl n (by omega);have ho:=b6K.1 (hl n (by omega) (by omega)).2.2.2.1;rw[fz,fzN];split
  . refine⟨fun _=>ho,?_,?_⟩
    . dsimp only;split <;> omega
    . dsimp only;split <;> omega
  . refine⟨h1,?_,?_⟩
    . dsimp only;split <;> omega
    . dsimp only;split <;> omega
def b8K{z:V7}{t:Int}(hz:a4M z)(h:(V5 z t).2=.nil):-86400<(V5 z t).1/\(V5 z t).1<86400:=by
 have hl:=hz.2.2.2.2.2;have hn:(z.E2.length:Int)≠0:=hz.2.2.2.1;obtain⟨h1,h2,h3⟩:=fz_ok (t:=t) hl z.E2.length (d5m _);unfold V5 at h ⊢;split at h
 . exact⟨by show(-86400:Int)<0;decide,by show(0:Int)<86400;decide⟩
 . split
   . rename_i hs;exact h1 hs
   . exact b6K.1 (hl _ h2 (by omega)).2.2.1
def b4f{z:V7}{t:Tm}(h:(V3 z t).2=.nil):-86400<(V3 z t).1/\(V3 z t).1<86400:=by
 unfold V3 at h ⊢;split at h
 . rename_i hc;rw[if_pos hc];exact b8K hc.1 h
 . cases h
def c8r{z:V7}{t:Tm}(ht:p9 t=true)(h:(X0 z t).2=.nil):GrP (X0 z t).1/\-86400<b8 (X0 z t).1-b8 t/\b8 (X0 z t).1-b8 t<86400:=by
 unfold X0 at h ⊢;split
 . rename_i hc;exact⟨c0E hc.2.1 hc.2.2,by show -86400<b8 t-b8 t;omega,by show b8 t-b8 t<86400;omega⟩
 . rename_i hc;rw[if_neg hc]at h;split
   . rename_i ho;rw[if_pos ho]at h;have hr:=b4f ho;unfold a5e at h ⊢;split
     . rename_i hy;rw[if_pos hy]at h;cases h
     . rename_i hy;obtain⟨h1,h2⟩:=b9I rfl hy;exact⟨h1,by rw[h2];omega,by rw[h2];omega⟩
   . rename_i ho;rw[if_neg ho]at h;exact absurd h ho
def b0S{qa:Nat}{o:F3}{m:E6}(ht:p9 m.Time=true)(h:(A2 qa o m).2=.nil):GrP (A2 qa o m).1/\-86400<b8 (A2 qa o m).1-b8 m.Time/\b8 (A2 qa o m).1-b8 m.Time<86400:=by
 have main:∀l:List V7,(a1d qa m l).2=.nil->GrP (a1d qa m l).1/\-86400<b8 (a1d qa m l).1-b8 m.Time/\b8 (a1d qa m l).1-b8 m.Time<86400:=by
  intro l
  induction l with
  |nil =>
   intro _;have hb:=y7 ht;have hA:AtP tmU (b8 m.Time):=⟨hb.1,hb.2,(fun e=>by cases e)⟩;have ha:=atS_ok hA;rw[a1d];dsimp only;rw[ha.se];exact⟨c0E ha.rt ha.ut,by omega,by omega⟩
  |cons z r ih =>
   intro h;rw[a1d]at h ⊢;split
   . rename_i hc;rw[if_pos hc]at h;split
     . rename_i hn;exact c8r ht hn
     . rename_i hn;rw[if_neg hn]at h;cases h
   . rename_i hc;rw[if_neg hc]at h;exact ih h
 exact main o.c9 h
end
noncomputable section
variable{qa:Nat}{o:F3}{a b:Int}
def b6T{k t:Tm}{v:Bool}:∀{m:List (Tm×Bool)},getM (a3e m k v) t=if t=k then v else getM m t
 |[]=>by rw[a3e,getM,getM,getM]
 |p::r=>by
  rw[a3e];by_cases e:k=p.1
  . rw[if_pos e,getM,getM];by_cases e2:t=k
    . rw[if_pos e2,if_pos e2]
    . rw[if_neg e2,if_neg e2,if_neg (fun h=>e2 (h.trans e.symm))]
  . rw[if_neg e,getM,getM,b6T];by_cases e2:t=p.1
    . rw[if_pos e2,if_pos e2,if_neg (fun h=>e (h.symm.trans e2))]
    . rw[if_neg e2,if_neg e2]
def a7z{t:Tm}:∀{l:List Q4}{m:List (Tm×Bool)},(ovM qa o m l).2=.nil->(getM (ovM qa o m l).1 t=true↔((∃x∈l,J4 x=t)/\(N7 qa o t).1=true)∨((¬∃x∈l,J4 x=t)/\getM m t=true))/\∀x∈l,(N7 qa o (J4 x)).2=.nil
 |[],m,_=>⟨by simp[ovM],fun _ h=>by cases h⟩
 |x::r,m,h=>by
  rw[ovM]at h ⊢;split at h
  . rename_i e;rw[if_pos e];obtain⟨h1,h2⟩:=a7z (t:=t) h;refine⟨?_,fun y hy=>?_⟩
    . rw[h1,b6T];simp only[d5k,d7D];by_cases e2:t=J4 x
      . have e3:J4 x=t:=e2.symm;rw[if_pos e2,<- e2];by_cases e4:∃y∈r,J4 y=t
        . simp[e3,e4]
        . simp[e3,e4]
      . have e3:¬J4 x=t:=fun h=>e2 h.symm;rw[if_neg e2];simp[e3]
    . rcases d5k.1 hy with e2|e2
      . rw[e2];exact e
      . exact h2 y e2
  . rename_i e;exact absurd h e
def b10(h:(ovM qa o [] o.Over).2=.nil){t:Tm}:getM (ovM qa o [] o.Over).1 t=true↔(∃x∈o.Over,J4 x=t)/\(N7 qa o t).1=true:=by rw[(a7z (t:=t) h).1];simp[getM]
def inW(a b:Int)(s n:Int):Prop:=s<b/\¬(s+n<=a/\(0<n∨s<a))
def a6j{w:Wn}{s:Tm}{n:Int}{k:Tm}{v:Bool}{y:Ins}:y∈(J3 a b w s n k v).1↔y∈w.1∨(inW a b (b8 s) n/\(L4 (b8 s+n) s).Day.Year≠0/\y=mkI s n k v):=by
 unfold J3 inW;split
 . rename_i h;constructor
   . exact .inl
   . rintro(h1|⟨⟨h1,h2⟩,_⟩)
     . exact h1
     . rcases h with h|h
       . omega
       . exact absurd h h2
 . rename_i h;have h1:b8 s<b/\¬(b8 s+n<=a/\(0<n∨b8 s<a)):=⟨d8K.1 fun e=>h (.inl e),fun e=>h (.inr e)⟩;split
   . rename_i hy;simp[hy]
   . rename_i hy;simp[hy,h1]
def a9u{w:Wn}{s:Tm}{n:Int}{k:Tm}{v:Bool}:(J3 a b w s n k v).2=true↔w.2=true∨(inW a b (b8 s) n/\(L4 (b8 s+n) s).Day.Year=0):=by
 unfold J3 inW;split
 . rename_i h;constructor
   . exact .inl
   . rintro(h1|⟨⟨h1,h2⟩,_⟩)
     . exact h1
     . rcases h with h|h
       . omega
       . exact absurd h h2
 . rename_i h;have h1:b8 s<b/\¬(b8 s+n<=a/\(0<n∨b8 s<a)):=⟨d8K.1 fun e=>h (.inl e),fun e=>h (.inr e)⟩;split
   . rename_i hy;simp[hy,h1]
   . rename_i hy;simp[hy]
def a6B(l:List Ins):Prop:=l.Pairwise fun x y=>x.l7≠y.l7
def b3j{w:Wn}{s:Tm}{n:Int}{k:Tm}{v:Bool}(h:a6B w.1)(hk:∀y∈w.1,y.l7≠k):a6B (J3 a b w s n k v).1:=by
 unfold J3;split
 . exact h
 . split
   . exact h
   . exact d6O.2 ⟨h,d6X _ _,fun y hy z hz=>by rw[d5a.1 hz];exact hk y hy⟩
structure GaF(qa:Nat)(o:F3)(a b:Int)(w w':Wn)(B:Ins->Prop)(C:Prop):Prop where
 mem:∀y,y∈w'.1↔y∈w.1∨B y
 past:w'.2=true↔w.2=true∨C
def b2c(qa:Nat)(o:F3)(a b:Int)(mp:List (Tm×Bool))(l:List Tm)(y:Ins):Prop:=∃t∈l,¬getM mp t=true/\inW a b (b8 (A2 qa o (moI o t)).1) (D4 o.Main)/\(L4 (b8 (A2 qa o (moI o t)).1+D4 o.Main) (A2 qa o (moI o t)).1).Day.Year≠0/\y=mkI (A2 qa o (moI o t)).1 (D4 o.Main) t false
def b2G(qa:Nat)(o:F3)(a b:Int)(mp:List (Tm×Bool))(l:List Q4)(y:Ins):Prop:=∃x∈l,getM mp (J4 x)=true/\inW a b (b8 (A2 qa o x.Start).1) (D4 x)/\(L4 (b8 (A2 qa o x.Start).1+D4 x) (A2 qa o x.Start).1).Day.Year≠0/\y=mkI (A2 qa o x.Start).1 (D4 x) (J4 x) true
def b2K(qa:Nat)(o:F3)(a b:Int)(mp:List (Tm×Bool))(l:List Tm):Prop:=∃t∈l,¬getM mp t=true/\inW a b (b8 (A2 qa o (moI o t)).1) (D4 o.Main)/\(L4 (b8 (A2 qa o (moI o t)).1+D4 o.Main) (A2 qa o (moI o t)).1).Day.Year=0
def b3m(qa:Nat)(o:F3)(a b:Int)(mp:List (Tm×Bool))(l:List Q4):Prop:=∃x∈l,getM mp (J4 x)=true/\inW a b (b8 (A2 qa o x.Start).1) (D4 x)/\(L4 (b8 (A2 qa o x.Start).1+D4 x) (A2 qa o x.Start).1).Day.Year=0
def ga1_ok{mp:List (Tm×Bool)}:∀{l:List Tm}{w:Wn},(ga1 qa o a b mp w l).2=.nil->GaF qa o a b w (ga1 qa o a b mp w l).1 (b2c qa o a b mp l) (b2K qa o a b mp l)/\∀t∈l,¬getM mp t=true->(A2 qa o (moI o t)).2=.nil
 |[],w,_=>⟨⟨fun y=>by simp[ga1,b2c],by simp[ga1,b2K]⟩,fun _ h=>by cases h⟩
 |t::r,w,h=>by
  rw[ga1]at h ⊢;by_cases e:getM mp t=true
  . rw[if_pos e]at h ⊢;obtain⟨⟨h1,h2⟩,h3⟩:=ga1_ok h;refine⟨⟨fun y=>?_,?_⟩,fun u hu hn=>?_⟩
    . rw[h1];simp[b2c,e]
    . rw[h2];simp[b2K,e]
    . rcases d5k.1 hu with e2|e2
      . rw[e2]at hn;exact absurd e hn
      . exact h3 u e2 hn
  . rw[if_neg e]at h ⊢;split at h
    . rename_i hm;rw[if_pos hm];obtain⟨⟨h1,h2⟩,h3⟩:=ga1_ok h;refine⟨⟨fun y=>?_,?_⟩,fun u hu hn=>?_⟩
      . rw[h1,a6j];simp only[b2c,d5k,d7D,or_assoc,e,d5Y,d8F,true_and]
      . rw[h2,a9u];simp only[b2K,d5k,d7D,or_assoc,e,d5Y,d8F,true_and]
      . rcases d5k.1 hu with e2|e2
        . rw[e2];exact hm
        . exact h3 u e2 hn
    . rename_i hm;exact absurd h hm
def ga2_ok{mp:List (Tm×Bool)}:∀{l:List Q4}{w:Wn},(ga2 qa o a b mp w l).2=.nil->GaF qa o a b w (ga2 qa o a b mp w l).1 (b2G qa o a b mp l) (b3m qa o a b mp l)/\∀x∈l,getM mp (J4 x)=true->(A2 qa o x.Start).2=.nil
 |[],w,_=>⟨⟨fun y=>by simp[ga2,b2G],by simp[ga2,b3m]⟩,fun _ h=>by cases h⟩
 |t::r,w,h=>by
  rw[ga2]at h ⊢;by_cases e:¬getM mp (J4 t)=true
  . rw[if_pos e]at h ⊢;obtain⟨⟨h1,h2⟩,h3⟩:=ga2_ok h;refine⟨⟨fun y=>?_,?_⟩,fun u hu hn=>?_⟩
    . rw[h1];simp[b2G,e]
    . rw[h2];simp[b3m,e]
    . rcases d5k.1 hu with e2|e2
      . rw[e2]at hn;exact absurd hn e
      . exact h3 u e2 hn
  . rw[if_neg e]at h ⊢;have e:=d4S.1 e;split at h
    . rename_i hm;rw[if_pos hm];obtain⟨⟨h1,h2⟩,h3⟩:=ga2_ok h;refine⟨⟨fun y=>?_,?_⟩,fun u hu hn=>?_⟩
      . rw[h1,a6j];simp only[b2G,d5k,d7D,or_assoc,e,true_and]
      . rw[h2,a9u];simp only[b3m,d5k,d7D,or_assoc,e,true_and]
      . rcases d5k.1 hu with e2|e2
        . rw[e2];exact hm
        . exact h3 u e2 hn
    . rename_i hm;exact absurd h hm
def b0P{mp:List (Tm×Bool)}:∀{l:List Tm}{w:Wn},a6B w.1->l.Pairwise (· ≠ ·)->(∀t∈l,∀y∈w.1,y.l7≠t)->a6B (ga1 qa o a b mp w l).1.1
 |[],w,h,_,_=>h
 |t::r,w,h,hl,hk=>by
  obtain⟨l1,l2⟩:=d5I.1 hl;rw[ga1];split
  . exact b0P h l2 fun u hu=>hk u (by simp[hu])
  . split
    . refine b0P (b3j h (hk t (by simp))) l2 fun u hu y hy=>?_;rcases a6j.1 hy with hy|⟨_,_,rfl⟩
      . exact hk u (by simp[hu]) y hy
      . exact l1 u hu
    . exact h
def b0u{mp:List (Tm×Bool)}:∀{l:List Q4}{w:Wn},a6B w.1->(l.Pairwise fun x y=>J4 x≠J4 y)->(∀x∈l,getM mp (J4 x)=true->∀y∈w.1,y.l7≠J4 x)->a6B (ga2 qa o a b mp w l).1.1
 |[],w,h,_,_=>h
 |t::r,w,h,hl,hk=>by
  obtain⟨l1,l2⟩:=d5I.1 hl;rw[ga2];split
  . exact b0u h l2 fun u hu=>hk u (by simp[hu])
  . rename_i e;have e:=d4S.1 e;split
    . refine b0u (b3j h (hk t (by simp) e)) l2 fun u hu hg y hy=>?_;rcases a6j.1 hy with hy|⟨_,_,rfl⟩
      . exact hk u (by simp[hu]) hg y hy
      . exact l1 u hu
    . exact h
def a6w(hO:V8 o){x:Q4}(hx:x∈o.Over):FmP o.Main.Start.Time (J4 x)/\S2 o.c9 x:=by
 have h:=(s6.list (p:=fun x:Q4=>(x.p8.length:Int)=1/\S2 o.c9 x/\P5 (ix x.p8 0) o.Main.Start=true)).1 (fun j j0 j1=>by obtain⟨h1,_,h2,h3,_⟩:=hO.2.2.2.2.2 j j0 j1;exact⟨h1,h2,h3⟩) x hx
 obtain⟨h1,h2,h3⟩:=h;obtain⟨f1,f2,_⟩:=a7I.1 h3;have hm:S0 o.c9 (ix x.p8 0):=h2.2.2.2.2.2.2.2.1 0 (by omega) (by omega);exact⟨⟨hm.1,f1,f2⟩,h2⟩
def b9J(hO:V8 o):o.Over.Pairwise fun x y=>b8 (J4 x)<b8 (J4 y):=by
 have up:∀n:Nat,∀i j:Int,0<=i->i<j->j=i+n->j<o.Over.length->b8 (J4 (ix o.Over i))<b8 (J4 (ix o.Over j)):=by
  intro n
  induction n with
  |zero=>intro i j _ h e;omega
  |succ n ih =>
   intro i j i0 h e hj;have h1:=(hO.2.2.2.2.2 j (by omega) hj).2.2.2.2 (by omega);by_cases hn:n=0
   . rw[show j-1=i by omega]at h1;exact h1
   . have h2:=ih i (j-1) i0 (by omega) (by omega) (by omega);unfold J4 at h2 ⊢;omega
 rw[d5H];intro i j hi hj h;have:=up (j-i) i j (by omega) (by omega) (by omega) (by omega);rw[s8 (by omega),s8 (by omega)]at this;exact this
def c3K(hO:V8 o):o.Over.Pairwise fun x y=>J4 x≠J4 y:=(b9J hO).imp fun h e=>by rw[e]at h;omega
def b72(qa:Nat)(o:F3)(a b:Int)(y:Ins):Prop:=b2c qa o a b (ovM qa o [] o.Over).1 (N8 qa o a b).1 y∨b2G qa o a b (ovM qa o [] o.Over).1 o.Over y
def a2p(h:(W6 qa o a b).2=.nil):(ovM qa o [] o.Over).2=.nil/\(N8 qa o a b).2=.nil/\(ga1 qa o a b (ovM qa o [] o.Over).1 ([],false) (N8 qa o a b).1).2=.nil/\(ga2 qa o a b (ovM qa o [] o.Over).1 (ga1 qa o a b (ovM qa o [] o.Over).1 ([],false) (N8 qa o a b).1).1 o.Over).2=.nil/\W6 qa o a b=ga2 qa o a b (ovM qa o [] o.Over).1 (ga1 qa o a b (ovM qa o [] o.Over).1 ([],false) (N8 qa o a b).1).1 o.Over:=by
 unfold W6 at h ⊢;split at h
 . rename_i e1;split at h
   . rename_i e2;split at h
     . rename_i e3;rw[if_pos e1,if_pos e2,if_pos e3];exact⟨e1,e2,e3,h,rfl⟩
     . rename_i e3;exact absurd h e3
   . rename_i e2;exact absurd h e2
 . rename_i e1;exact absurd h e1
def a9V(h:(W6 qa o a b).2=.nil){y:Ins}:y∈(W6 qa o a b).1.1↔b72 qa o a b y:=by obtain⟨_,_,h3,h4,h5⟩:=a2p h;rw[h5,(ga2_ok h4).1.mem,(ga1_ok h3).1.mem];simp[b72]
def b6H(h:(W6 qa o a b).2=.nil):(W6 qa o a b).1.2=true↔b2K qa o a b (ovM qa o [] o.Over).1 (N8 qa o a b).1∨b3m qa o a b (ovM qa o [] o.Over).1 o.Over:=by obtain⟨_,_,h3,h4,h5⟩:=a2p h;rw[h5,(ga2_ok h4).1.past,(ga1_ok h3).1.past];simp
def b45(hO:V8 o)(h:(W6 qa o a b).2=.nil):a6B (W6 qa o a b).1.1:=by
 obtain⟨h1,h2,h3,h4,h5⟩:=a2p h;have hI:=hO.2.2.2.1;rw[h5];refine b0u (b0P List.Pairwise.nil ((d1q hI h2).imp fun h e=>by rw[e]at h;omega) (fun _ _ _ h=>by cases h)) (c3K hO) fun x hx hg y hy=>?_;rcases((ga1_ok h3).1.mem y).1 hy with hy|⟨t,ht,hn,_,_,rfl⟩
 . cases hy
 . rintro rfl;exact hn hg
def a04(hO:V8 o)(h:(W6 qa o a b).2=.nil){y:Ins}(hy:y∈(W6 qa o a b).1.1):FmP o.Main.Start.Time y.l7:=by
 rcases(a9V h).1 hy with⟨t,ht,_,_,_,rfl⟩|⟨x,hx,_,_,_,rfl⟩
 . exact c2d hO.2.2.2.1 (a2p h).2.1 ht
 . exact(a6w hO hx).1
def c7n{l:List Ins}(h:a6B l){x y:Ins}(hx:x∈l)(hy:y∈l)(e:x.l7=y.l7):x=y:=by
 induction l with
 |nil=>cases hx
 |cons z r ih =>
  obtain⟨h1,h2⟩:=d5I.1 h;rcases d5k.1 hx with ex|ex <;> rcases d5k.1 hy with ey|ey
  . rw[ex,ey]
  . rw[ex]at e;exact absurd e (h1 y ey)
  . rw[ey]at e;exact absurd e.symm (h1 x ex)
  . exact ih h2 ex ey
def c87(hO:V8 o)(h:(W6 qa o a b).2=.nil):d3E (W6 qa o a b).1.1:=fun x hx y hy _ e=>c7n (b45 hO h) hx hy (a7y (a04 hO h hx) (a04 hO h hy) e)
end
noncomputable section
variable{qa:Nat}{o:F3}{a b:Int}
def b12{zs:List V7}{x:Q4}(h:S2 zs x):0<=D4 x/\D4 x<=400000000000:=by
 unfold D4;split
 . rename_i hs;have:=h.2.2.2.2.2.1 0 (by omega) hs.1;omega
 . split
   . have:=a2b (ix x.End 0).Time;have:=a2b x.Start.Time;omega
   . split <;> omega
structure InF(o:F3)(a b:Int)(y:Ins):Prop where
 st:GrP y.Start
 en:GrP y.End
 lo:b8 y.Start<=b8 y.End
 wi:inW a b (b8 y.Start) (b8 y.End-b8 y.Start)
 wh:FmP o.Main.Start.Time y.l7
 ov:y.Over=true↔∃x∈o.Over,J4 x=y.l7
def c08(hO:V8 o)(h:(W6 qa o a b).2=.nil){y:Ins}(hy:y∈(W6 qa o a b).1.1):InF o a b y:=by
 obtain⟨h1,h2,h3,h4,_⟩:=a2p h;have hI:=hO.2.2.2.1;have hw:=a04 hO h hy;rcases(a9V h).1 hy with⟨t,ht,hn,hin,hyr,rfl⟩|⟨x,hx,hg,hin,hyr,rfl⟩
 . have hm:=(ga1_ok h3).2 t ht hn;have hf:=c2d hI h2 ht;obtain⟨g1,g2,g3⟩:=b0S (m:=moI o t) hf.rt hm;obtain⟨e1,e2⟩:=b9I g1.ut hyr;have hl:=b12 hI;have e3:b8 (mkI (A2 qa o (moI o t)).1 (D4 o.Main) t false).End=b8 (A2 qa o (moI o t)).1+D4 o.Main:=e2;refine⟨g1,e1,?_,?_,hf,⟨(fun e=>by cases e),fun⟨x,hx,hk⟩=>?_⟩⟩
   . rw[e3];show b8 (A2 qa o (moI o t)).1<=_;omega
   . rw[e3];show inW a b (b8 (A2 qa o (moI o t)).1) (b8 (A2 qa o (moI o t)).1+D4 o.Main-b8 (A2 qa o (moI o t)).1);rw[show b8 (A2 qa o (moI o t)).1+D4 o.Main-b8 (A2 qa o (moI o t)).1=D4 o.Main by omega];exact hin
   . have hk:J4 x=t:=hk;have hh:=(a7z (t:=t) h1).2 x hx;rw[hk]at hh;exact absurd ((b10 h1).2 ⟨⟨x,hx,hk⟩,c6H hI h2 ht hh⟩) hn
 . obtain⟨hf,hI2⟩:=a6w hO hx;have hm:=(ga2_ok h4).2 x hx hg;obtain⟨g1,g2,g3⟩:=b0S (m:=x.Start) hI2.1.1 hm;obtain⟨e1,e2⟩:=b9I g1.ut hyr;have hl:=b12 hI2;have e3:b8 (mkI (A2 qa o x.Start).1 (D4 x) (J4 x) true).End=b8 (A2 qa o x.Start).1+D4 x:=e2;refine⟨g1,e1,?_,?_,hf,⟨fun _=>⟨x,hx,rfl⟩,fun _=>rfl⟩⟩
   . rw[e3];show b8 (A2 qa o x.Start).1<=_;omega
   . rw[e3];show inW a b (b8 (A2 qa o x.Start).1) (b8 (A2 qa o x.Start).1+D4 x-b8 (A2 qa o x.Start).1);rw[show b8 (A2 qa o x.Start).1+D4 x-b8 (A2 qa o x.Start).1=D4 x by omega];exact hin
def b38{f t:Tm}(h:(G9 qa o f t).2=.nil):b9R o f t/\(W6 qa o (b8 f) (b8 t)).2=.nil/\(W6 qa o (b8 f) (b8 t)).1.2=false/\(W6 qa o (b8 f) (b8 t)).1.1.length<=1000/\(G9 qa o f t).1=a3C (W6 qa o (b8 f) (b8 t)).1.1:=by
 have nn:∀e:o6,V9 e=.nil->e=.nil:=fun e h=>by
  unfold V9 at h;split at h
  . cases h
  . exact h
 unfold G9 at h ⊢;split at h
 . rename_i c1;split at h
   . rename_i c2;split at h
     . rename_i c3;split at h
       . cases h
       . rename_i c4;split at h
         . cases h
         . rename_i c5;rw[if_pos c1,if_pos c2,if_pos c3,if_neg c4,if_neg c5];exact⟨c1,c3,d5E _ ▸ c4,by omega,rfl⟩
     . rename_i c3;exact absurd (nn _ h) c3
   . rename_i c2;exact absurd (nn _ h) c2
 . cases h
def c59{f t:Tm}(h:(G9 qa o f t).2=.nil){y:Ins}:y∈(G9 qa o f t).1↔b72 qa o (b8 f) (b8 t) y:=by obtain⟨_,h2,_,_,h5⟩:=b38 h;rw[h5,a00,a9V h2]
def c3O{f t:Tm}(h:(G9 qa o f t).2=.nil){y:Ins}(hy:y∈(G9 qa o f t).1):InF o (b8 f) (b8 t) y:=by obtain⟨h1,h2,_,_,h5⟩:=b38 h;rw[h5,a00]at hy;exact c08 h1.1 h2 hy
def leN{x y:Ins}:(!decide (a3F y x<0))=true↔¬(b8 y.Start<b8 x.Start∨(b8 y.Start=b8 x.Start/\b8 y.l7<b8 x.l7)):=by
 have h0:a0c y.Start x.Start=0↔b8 y.Start=b8 x.Start:=a8U;have h1:a0c y.Start x.Start<0↔b8 y.Start<b8 x.Start:=a0L;have h2:a0c y.l7 x.l7<0↔b8 y.l7<b8 x.l7:=a0L;have h:a3F y x<0↔b8 y.Start<b8 x.Start∨(b8 y.Start=b8 x.Start/\b8 y.l7<b8 x.l7):=by unfold a3F;split <;> omega
 rw[d6w,d7X,h]
def b5A(l:List Ins):(a3C l).Pairwise fun x y=>¬(b8 y.Start<b8 x.Start∨(b8 y.Start=b8 x.Start/\b8 y.l7<b8 x.l7)):=by
 have h:=d7W (le:=fun x y:Ins=>!decide (a3F y x<0)) (fun a b c h1 h2=>leN.2 (by have:=leN.1 h1;have:=leN.1 h2;omega)) (fun a b=>by rw[d5V,leN,leN];omega) l
 exact h.imp fun h=>leN.1 h
def b6f{l:List Ins}(h:a6B l):a6B (a3C l):=(d6v l _).symm.pairwise h fun h e=>h e.symm
def ltI(x y:Ins):Prop:=b8 x.Start<b8 y.Start∨(b8 x.Start=b8 y.Start/\b8 x.l7<b8 y.l7)
def d3N{f t:Tm}(h:(G9 qa o f t).2=.nil):(G9 qa o f t).1.Pairwise ltI/\a6B (G9 qa o f t).1:=by obtain⟨h1,h2,_,_,h5⟩:=b38 h;have hn:=b6f (b45 h1.1 h2);rw[h5];refine⟨?_,hn⟩;refine List.Pairwise.imp_of_mem (fun{x y} hx hy hxy=>?_) ((b5A _).and hn);obtain⟨hle,hne⟩:=hxy;have fx:=a04 h1.1 h2 (a00.1 hx);have fy:=a04 h1.1 h2 (a00.1 hy);have:b8 x.l7≠b8 y.l7:=fun e=>hne (a7y fx fy e);unfold ltI;omega
end
noncomputable section
variable{qa:Nat}{o:F3}{a b:Int}
def b5D:∀{rs:List Rl}{l:List Tm},l.length<=1000->(tmE qa o a b l rs).1.length<=1000
 |[],l,h=>h
 |r::rs,l,h=>by
  unfold tmE;split
  . exact b5D (by have:=@b6g o.Main.Start.Time (Y5 (a-172800-D4 o.Main) o.Main.Start.Time) (Y5 (b+172800) o.Main.Start.Time) r;unfold tmR;omega)
  . exact d6B _
def c6t(h:a2l o.Main):(N8 qa o a b).1.length<=1200:=by
 have h4:=h.2.2.2.1;unfold N8;split
 . have h1:=c4m (a74 (tmA qa o a b));rw[b3A]at h1;have h2:(tmA qa o a b).length<=_:=d8j _ _;rw[d4Y,d6h]at h2;have h3:=@b5D qa o a b o.Main.b9 [o.Main.Start.Time] (by show 1<=1000;decide);dsimp only;omega
 . exact d6B _
def d0p(h:(ovM qa o [] o.Over).2≠.nil):W6 qa o a b=(([],false),(ovM qa o [] o.Over).2):=by unfold W6;rw[if_neg h]
def c9K(h1:(ovM qa o [] o.Over).2=.nil)(h2:(N8 qa o a b).2=.nil)(h:(ga1 qa o a b (ovM qa o [] o.Over).1 ([],false) (N8 qa o a b).1).2≠.nil):W6 qa o a b=ga1 qa o a b (ovM qa o [] o.Over).1 ([],false) (N8 qa o a b).1:=by unfold W6;rw[if_pos h1,if_pos h2,if_neg h]
def c4L(h1:(ovM qa o [] o.Over).2=.nil)(h2:(N8 qa o a b).2=.nil)(h:(ga1 qa o a b (ovM qa o [] o.Over).1 ([],false) (N8 qa o a b).1).2=.nil):W6 qa o a b=ga2 qa o a b (ovM qa o [] o.Over).1 (ga1 qa o a b (ovM qa o [] o.Over).1 ([],false) (N8 qa o a b).1).1 o.Over:=by unfold W6;rw[if_pos h1,if_pos h2,if_pos h]
end
end Go.Qu
namespace Go.Proofs.YtapnoejokajcoaaGreatDoor
open Go Go.Wk Go.Wl Go.Rx Go.Re Go.Li Go.Qu Go.Fo 
attribute [local irreducible] j4
def d1x:Nat->D3:=fun|9=>⟨97,nn,fun|8=>some ⟨[8],[.slot 11 .err,.own 8 [(.int .i64),(.int .i64),(.acc 48),.bool]]⟩|_=>none⟩|28=>⟨133,fun|25=>some ⟨[0,3,5,98,99],[.slot 100 (.int .i64),.own 0 [(.int .i64),(.int .i64),(.acc 48),.bool]]⟩|14=>some ⟨[0,3,5,66,67],[.slot 68 (.int .i64),.own 0 [(.int .i64),(.int .i64),(.acc 48),.bool]]⟩|3=>some ⟨[0,3,5,23,24],[.slot 25 (.int .i64),.ob 5 2]⟩|_=>none,nn⟩|_=>⟨0,nn,nn⟩
def T6(o:F3)(f:Tm)(t:Tm):=N8 (105:Nat) (Y7 o) (b8 (j7 f)) (b8 (j7 t))
def Vqi(o:F3)(f:Tm)(t:Tm)(Q:List Ins->o6->Prop):Prop:=
a11 (Y7 o)/\(bR (((((¬bo (V8 (Y7 o))=true∨¬p9 (j7 f)=true)∨¬p9 (j7 t)=true)∨¬f.UTC=true)∨¬t.UTC=true)∨b8 (j7 t)<b8 (j7 f)) (Q [] (o6.no 2)) ((a2l (etI o.Main)/\(0<=D4 (etI o.Main)/\D4 (etI o.Main)<=400000000000)/\(0<=b8 (j7 f)/\b8 (j7 f)<315537897600)/\(0<=b8 (j7 t)/\b8 (j7 t)<315537897600)/\b1f (tmA (105:Nat) (Y7 o) (b8 (j7 f)) (b8 (j7 t))))/\(bR ((T6 o f t).snd≠o6.nil) (asB (T6 o f t).snd=true/\Q [] (V9 (T6 o f t).snd)) (∃(J:o6->Int->Int->List Ins->Bool->Prop),(∃(I:Int->List (Tm×Bool)->Prop),∃(m:Int->List (Tm×Bool)->Nat),I 0 []/\∀(x:Int) (x_1:List (Tm×Bool)),I x x_1->(bR (x<(↑o.Over.length:Int)) (0<=x/\x<(↑o.Over.length:Int)/\((0:Int)<=0/\0<(↑(ix o.Over x).p8.length:Int))/\a2l (etI o.Main)/\(bR ((N7 (105:Nat) (Y7 o) (j7 (ix (ix o.Over x).p8 0).Time)).snd≠o6.nil) (J (N7 (105:Nat) (Y7 o) (j7 (ix (ix o.Over x).p8 0).Time)).snd (b8 (j7 f)) (b8 (j7 t)) [] false) ((0:Int)<=0/\0<(↑(ix o.Over x).p8.length:Int)/\c6 (x+1)/\I (x+1) (a3e x_1 (j7 (ix (ix o.Over x).p8 0).Time) (decide ((N7 (105:Nat) (Y7 o) (j7 (ix (ix o.Over x).p8 0).Time)).fst=true)))/\m (x+1) (a3e x_1 (j7 (ix (ix o.Over x).p8 0).Time) (decide ((N7 (105:Nat) (Y7 o) (j7 (ix (ix o.Over x).p8 0).Time)).fst=true)))<m x x_1))) ((a2l (etI o.Main)/\(0<=D4 (etI o.Main)/\D4 (etI o.Main)<=400000000000)/\(0<=b8 (j7 f)/\b8 (j7 f)<315537897600)/\(0<=b8 (j7 t)/\b8 (j7 t)<315537897600)/\b1f (tmA (105:Nat) (Y7 o) (b8 (j7 f)) (b8 (j7 t))))/\(bR ((T6 o f t).snd≠o6.nil) (J (T6 o f t).snd (b8 (j7 f)) (b8 (j7 t)) [] false) (∃(I:Int->Int->Int->List Ins->Bool->Prop),∃(m:Int->Int->Int->List Ins->Bool->Nat),I 0 (b8 (j7 f)) (b8 (j7 t)) [] false/\∀(x x_2 x_3:Int)(x_4:List Ins)(x_5:Bool),I x x_2 x_3 x_4 x_5->(bR (x<(↑(T6 o f t).fst.length:Int)) (0<=x/\x<(↑(T6 o f t).fst.length:Int)/\(c6 (ix (T6 o f t).fst x).Day.Year->c6 (ix (T6 o f t).fst x).Day.Month->c6 (ix (T6 o f t).fst x).Day.Date->c6 (ix (T6 o f t).fst x).Hour->c6 (ix (T6 o f t).fst x).Min->c6 (ix (T6 o f t).fst x).D8->(bR (getM x_1 (j7 (ix (T6 o f t).fst x))=true) (c6 (x+1)/\I (x+1) x_2 x_3 x_4 (decide (x_5=true))/\m (x+1) x_2 x_3 x_4 (decide (x_5=true))<m x x_2 x_3 x_4 x_5) ((∀(z:V7),z∈o.c9->X9 z)/\(↑o.c9.length:Int)<=1000000/\(bR ((A2 (105:Nat) (Y7 o) (E6.mk (j7 (ix (T6 o f t).fst x)) o.Main.Start.D9)).snd≠o6.nil) (J (A2 (105:Nat) (Y7 o) (E6.mk (j7 (ix (T6 o f t).fst x)) o.Main.Start.D9)).snd x_2 x_3 x_4 (decide (x_5=true))) (((-1000000000000000:Int)<=b8 (j7 (A2 (105:Nat) (Y7 o) (E6.mk (j7 (ix (T6 o f t).fst x)) o.Main.Start.D9)).fst)+D4 (etI o.Main)/\b8 (j7 (A2 (105:Nat) (Y7 o) (E6.mk (j7 (ix (T6 o f t).fst x)) o.Main.Start.D9)).fst)+D4 (etI o.Main)<=1000000000000000/\x_4.length<=100000)/\c6 (x+1)/\I (x+1) x_2 x_3 (J3 x_2 x_3 (x_4,decide (x_5=true)) (j7 (A2 (105:Nat) (Y7 o) (E6.mk (j7 (ix (T6 o f t).fst x)) o.Main.Start.D9)).fst) (D4 (etI o.Main)) (j7 (ix (T6 o f t).fst x)) false).fst (decide ((J3 x_2 x_3 (x_4,decide (x_5=true)) (j7 (A2 (105:Nat) (Y7 o) (E6.mk (j7 (ix (T6 o f t).fst x)) o.Main.Start.D9)).fst) (D4 (etI o.Main)) (j7 (ix (T6 o f t).fst x)) false).snd=true))/\m (x+1) x_2 x_3 (J3 x_2 x_3 (x_4,decide (x_5=true)) (j7 (A2 (105:Nat) (Y7 o) (E6.mk (j7 (ix (T6 o f t).fst x)) o.Main.Start.D9)).fst) (D4 (etI o.Main)) (j7 (ix (T6 o f t).fst x)) false).fst (decide ((J3 x_2 x_3 (x_4,decide (x_5=true)) (j7 (A2 (105:Nat) (Y7 o) (E6.mk (j7 (ix (T6 o f t).fst x)) o.Main.Start.D9)).fst) (D4 (etI o.Main)) (j7 (ix (T6 o f t).fst x)) false).snd=true))<m x x_2 x_3 x_4 x_5)))))) (∃(I:Int->Int->Int->List Ins->Bool->Prop),∃(m:Int->Int->Int->List Ins->Bool->Nat),I 0 x_2 x_3 x_4 (decide (x_5=true))/\∀(x x_6 x_7:Int)(x_8:List Ins)(x_9:Bool),I x x_6 x_7 x_8 x_9->(bR (x<(↑o.Over.length:Int)) (0<=x/\x<(↑o.Over.length:Int)/\(0:Int)<=0/\0<(↑(ix o.Over x).p8.length:Int)/\(bR (¬getM x_1 (j7 (ix (ix o.Over x).p8 0).Time)=true) (c6 (x+1)/\I (x+1) x_6 x_7 x_8 (decide (x_9=true))/\m (x+1) x_6 x_7 x_8 (decide (x_9=true))<m x x_6 x_7 x_8 x_9) ((∀(z:V7),z∈o.c9->X9 z)/\(↑o.c9.length:Int)<=1000000/\(bR ((A2 (105:Nat) (Y7 o) (W5 (ix o.Over x).Start)).snd≠o6.nil) (J (A2 (105:Nat) (Y7 o) (W5 (ix o.Over x).Start)).snd x_6 x_7 x_8 (decide (x_9=true))) (((0:Int)<=0/\0<(↑(ix o.Over x).p8.length:Int))/\((-1000000000000000:Int)<=b8 (j7 (A2 (105:Nat) (Y7 o) (W5 (ix o.Over x).Start)).fst)+D4 (etI (ix o.Over x))/\b8 (j7 (A2 (105:Nat) (Y7 o) (W5 (ix o.Over x).Start)).fst)+D4 (etI (ix o.Over x))<=1000000000000000/\x_8.length<=100000)/\c6 (x+1)/\I (x+1) x_6 x_7 (J3 x_6 x_7 (x_8,decide (x_9=true)) (j7 (A2 (105:Nat) (Y7 o) (W5 (ix o.Over x).Start)).fst) (D4 (etI (ix o.Over x))) (j7 (ix (ix o.Over x).p8 0).Time) true).fst (decide ((J3 x_6 x_7 (x_8,decide (x_9=true)) (j7 (A2 (105:Nat) (Y7 o) (W5 (ix o.Over x).Start)).fst) (D4 (etI (ix o.Over x))) (j7 (ix (ix o.Over x).p8 0).Time) true).snd=true))/\m (x+1) x_6 x_7 (J3 x_6 x_7 (x_8,decide (x_9=true)) (j7 (A2 (105:Nat) (Y7 o) (W5 (ix o.Over x).Start)).fst) (D4 (etI (ix o.Over x))) (j7 (ix (ix o.Over x).p8 0).Time) true).fst (decide ((J3 x_6 x_7 (x_8,decide (x_9=true)) (j7 (A2 (105:Nat) (Y7 o) (W5 (ix o.Over x).Start)).fst) (D4 (etI (ix o.Over x))) (j7 (ix (ix o.Over x).p8 0).Time) true).snd=true))<m x x_6 x_7 x_8 x_9))))) (J o6.nil x_6 x_7 x_8 (decide (x_9=true)))))))))))/\∀(x:o6)(x_1 x_2:Int)(x_3:List Ins)(x_4:Bool),J x x_1 x_2 x_3 x_4->(bR (x≠o6.nil) (asB x=true/\Q [] (V9 x)) ((bR (x_4=true) (Q [] (o6.no 3)) ((bR (1000<(↑x_3.length:Int)) (Q [] (o6.no 16)) (x_3.length<=1000000/\(∀(x:Ins),x∈x_3->∀(y:Ins),y∈x_3->b8 x.Start=b8 y.Start->b8 x.l7=b8 y.l7->x=y)/\Q (a3C x_3) o6.nil))))))))))
def c79(o:F3)(t:Tm):asB (N7 105 o t).2=true:=by
 have h:∀(l:List Rl)(b:Bool),asB (a4J 105 o.Main.Start.Time t b l).2=true:=by
  intro l
  induction l with
  |nil=>intro b;rfl
  |cons r l ih=>intro b;unfold a4J;split;exact ih _;rfl
 unfold N7;dsimp only;split
 . rfl
 . exact h _ _
def d1y(o:F3)(a b:Int):asB (N8 105 o a b).2=true:=by
 have h:∀(l:List Rl)(x:List Tm),asB (tmE 105 o a b x l).2=true:=by
  intro l
  induction l with
  |nil=>intro x;rfl
  |cons r l ih=>intro x;unfold tmE;split;exact ih _;rfl
 unfold N8;split
 . rfl
 . exact h _ _
def b61(o:F3)(m:E6):asB (A2 105 o m).2=true:=by
 unfold A2
 first|exact b0G _ _|(split;rfl;exact b0G _ _)
def pqi(o:F3)(f:Tm)(t:Tm)(ho:a11 o):Vqi o f t (fun y0 y1=>y0=(G9 105 o f t).1/\y1=(G9 105 o f t).2):=by
 unfold Vqi T6;simp only[y8,A9,B5,C7,C6,C8,D0,C5,C3,D2,B9,d4Z,d7C,d8U,d8T];have hz:=ho.2.2.2.2.2.2.2.1;have hzl:=ho.2.2.1;have hfi:=ho.2.2.2.2.2.2.1;have hol:=ho.2.2.2.1;generalize hF:b8 f=F at *;generalize hT:b8 t=T at *;refine⟨ho,fun h=>?_,fun h=>?_⟩
 . have e:G9 105 o f t=([],.no 2):=by
     unfold G9;refine if_neg fun hA=>?_;obtain⟨a1,a2,a3,a4,a5,a6⟩:=hA;rcases h with((((h|h)|h)|h)|h)|h
     . exact h (z8.2 a1)
     . exact h a2
     . exact h a3
     . exact h a4
     . exact h a5
     . omega
   rw[e];exact⟨rfl,rfl⟩
 have hO:V8 o:=z8.1 (d4S.1 fun e=>h (.inl (.inl (.inl (.inl (.inl e))))));have hf:p9 f=true:=d4S.1 fun e=>h (.inl (.inl (.inl (.inl (.inr e)))));have ht:p9 t=true:=d4S.1 fun e=>h (.inl (.inl (.inl (.inr e))));have hfu:f.UTC=true:=d4S.1 fun e=>h (.inl (.inl (.inr e)));have htu:t.UTC=true:=d4S.1 fun e=>h (.inl (.inr e));have hle:¬T<F:=fun e=>h (.inr e);clear h;have hI:=hO.2.2.2.1;have hA:b9R o f t:=⟨hO,hf,ht,hfu,htu,by omega⟩;have hln:=b12 hI;have sf:=Go.Re.y7 hf;have st:=Go.Re.y7 ht;rw[hF]at sf;rw[hT]at st;have htm:a2l o.Main/\(0<=D4 o.Main/\D4 o.Main<=400000000000)/\(0<=F/\F<315537897600)/\(0<=T/\T<315537897600)/\b1f (tmA 105 o F T):=⟨hfi,hln,sf,st,b6U hI⟩;have eq0:G9 105 o f t=if(N8 105 o F T).2=.nil then
   if(W6 105 o F T).2=.nil then
    if(W6 105 o F T).1.2=true then([],.no 3)else
    if 1000<(W6 105 o F T).1.1.length then([],.no 16)else
    (a3C (W6 105 o F T).1.1,.nil)
   else([],V9 (W6 105 o F T).2)
  else([],V9 (N8 105 o F T).2):=by
  unfold G9;rw[if_pos hA,hF,hT]
 have key:∀i:Int,0<=i->i<o.Over.length->0<((ix o.Over i).p8.length:Int):=fun i i0 hi=>by have:=(hO.2.2.2.2.2 i i0 hi).1;omega
 refine⟨htm,fun he=>⟨d1y _ _ _,?_⟩,fun he=>?_⟩
 . rw[eq0,if_neg he];exact⟨rfl,rfl⟩
 have he2:(N8 105 o F T).2=.nil:=d4S.1 he;rw[if_pos he2]at eq0;have hTl:=@c6t 105 o F T hfi;refine⟨fun e _ _ l p=>asB e=true/\(W6 105 o F T).2=e/\(e=.nil->(W6 105 o F T).1=(l,p)),⟨fun i m=>0<=i/\i<=o.Over.length/\ovM 105 o [] o.Over=ovM 105 o m (o.Over.drop i.toNat),fun i _=>((o.Over.length:Int)-i).toNat,⟨by omega,by omega,rfl⟩,?_⟩,?_⟩
 . rintro i m ⟨i0,i1,hm⟩;refine⟨fun hi=>?_,fun hi=>?_⟩
   . rw[a2N i0 hi,ovM]at hm;unfold J4 at hm;have hr:=key i i0 hi;refine⟨i0,hi,⟨by omega,hr⟩,hfi,fun he=>⟨c79 _ _,?_,fun e=>absurd e he⟩,fun he=>⟨by omega,hr,⟨by omega,by omega⟩,⟨by omega,by omega,?_⟩,by dsimp only;omega⟩⟩
     . rw[if_neg he]at hm;rw[d0p (by rw[hm];exact he),hm]
     . rw[if_pos (d4S.1 he)]at hm;exact hm
   rw[d6t (by omega),ovM]at hm;have o1:(ovM 105 o [] o.Over).2=.nil:=by rw[hm]
   have o2:(ovM 105 o [] o.Over).1=m:=by rw[hm]
   have o0:s6 (o.Over.length:Int) fun _=>True:=fun _ _ _=>trivial;clear i0 i1 hi hm i;refine⟨htm,fun he=>absurd he2 he,fun _=>?_⟩;refine⟨fun i a' b' l p=>F=a'/\T=b'/\0<=i/\i<=(N8 105 o F T).1.length/\(l.length:Int)<=i/\ga1 105 o F T m ([],false) (N8 105 o F T).1=ga1 105 o F T m (l,p) ((N8 105 o F T).1.drop i.toNat),fun i _ _ _ _=>(((N8 105 o F T).1.length:Int)-i).toNat,⟨rfl,rfl,by omega,by omega,by show(0:Int)<=0;omega,rfl⟩,?_⟩;rintro i a' b' l p ⟨rfl,rfl,i0,i1,hll,hm⟩;refine⟨fun hi=>?_,fun hi=>?_⟩
   . rw[a2N i0 hi,ga1]at hm;unfold moI at hm;refine⟨i0,hi,fun _ _ _ _ _ _=>⟨fun hg=>⟨⟨by omega,by omega⟩,⟨rfl,rfl,by omega,by omega,by omega,?_⟩,by dsimp only;omega⟩,fun hg=>⟨hz,by omega,fun he=>⟨b61 _ _,?_,fun e=>absurd e he⟩,fun he=>⟨⟨?_,?_,by omega⟩,⟨by omega,by omega⟩,⟨rfl,rfl,by omega,by omega,?_,?_⟩,by dsimp only;omega⟩⟩⟩⟩
     . rw[if_pos hg]at hm;exact hm
     . rw[if_neg hg,if_neg he]at hm;rw[<- o2]at hm;rw[c9K o1 he2 (by rw[hm];exact he),hm]
     all_goals have he:=d4S.1 he
     . have g:=b0S (c2d hI he2 (w5 i0 hi)).rt (m:=⟨ix (N8 105 o F T).1 i,o.Main.Start.D9⟩) he;have:=a2b (ix (N8 105 o F T).1 i);have g2:-86400<_-b8 (ix (N8 105 o F T).1 i):=g.2.1;omega
     . have:=a2b (A2 105 o ⟨ix (N8 105 o F T).1 i,o.Main.Start.D9⟩).1;omega
     . have:=b1t F T (l,p) (A2 105 o ⟨ix (N8 105 o F T).1 i,o.Main.Start.D9⟩).1 (D4 o.Main) (ix (N8 105 o F T).1 i) false;dsimp only at this;omega
     . rw[if_neg hg,if_pos he]at hm;exact hm
   rw[d6t (by omega),ga1]at hm;rw[<- o2]at hm;have o3:(ga1 105 o F T (ovM 105 o [] o.Over).1 ([],false) (N8 105 o F T).1).2=.nil:=by rw[hm]
   have hg4:=c4L o1 he2 o3;rw[hm,o2]at hg4;dsimp only at hg4;have hl0:(l.length:Int)<=1200:=by omega
   clear i0 i1 hll hi hm i o3;refine⟨fun i a' b' l p=>F=a'/\T=b'/\0<=i/\i<=o.Over.length/\(l.length:Int)<=1200+i/\W6 105 o F T=ga2 105 o F T m (l,p) (o.Over.drop i.toNat),fun i _ _ _ _=>((o.Over.length:Int)-i).toNat,⟨rfl,rfl,by omega,by omega,by omega,hg4⟩,?_⟩;clear hg4 hl0 l p;rintro i a' b' l p ⟨rfl,rfl,i0,i1,hll,hm⟩;refine⟨fun hi=>?_,fun hi=>?_⟩
   . rw[a2N i0 hi,ga2]at hm;unfold J4 at hm;have hr:=key i i0 hi;refine⟨i0,hi,by omega,hr,fun hg=>⟨⟨by omega,by omega⟩,⟨rfl,rfl,by omega,by omega,by omega,?_⟩,by dsimp only;omega⟩,fun hg=>⟨hz,by omega,fun he=>⟨b61 _ _,?_,fun e=>absurd e he⟩,fun he=>⟨⟨by omega,hr⟩,⟨?_,?_,by omega⟩,⟨by omega,by omega⟩,⟨rfl,rfl,by omega,by omega,?_,?_⟩,by dsimp only;omega⟩⟩⟩
     . rw[if_pos hg]at hm;exact hm
     . rw[if_neg hg,if_neg he]at hm;rw[hm]
     all_goals have he:=d4S.1 he
     all_goals have hx:=(a6w hO (w5 i0 hi)).2
     all_goals have hlx:=b12 hx
     . have g:=b0S hx.1.1 he;have:=a2b (ix o.Over i).Start.Time;omega
     . have:=a2b (A2 105 o (ix o.Over i).Start).1;omega
     . have:=b1t F T (l,p) (A2 105 o (ix o.Over i).Start).1 (D4 (ix o.Over i)) (ix (ix o.Over i).p8 0).Time true;dsimp only at this;omega
     . rw[if_neg hg,if_pos he]at hm;exact hm
   . rw[d6t (by omega),ga2]at hm;rw[hm];exact⟨rfl,rfl,fun _=>rfl⟩
 . rintro e a' b' l p ⟨ha,hg,hn⟩;refine⟨fun he=>⟨ha,?_⟩,fun he=>?_⟩
   . rw[eq0,if_neg (by rw[hg];exact he),hg];exact⟨rfl,rfl⟩
   have he:=d4S.1 he;have hn:=hn he;rw[he]at hg;rw[if_pos hg,hn]at eq0;dsimp only at eq0;refine⟨fun hp=>?_,fun hp=>⟨fun hk=>?_,fun hk=>⟨by omega,fun x hx y hy e1 e2=>?_,?_⟩⟩⟩
   . rw[eq0,if_pos hp];exact⟨rfl,rfl⟩
   . rw[eq0,if_neg hp,if_pos (by omega)];exact⟨rfl,rfl⟩
   . have ht:=c87 hO hg;rw[hn]at ht;exact ht x hx y hy e1 e2
   . rw[eq0,if_neg hp,if_neg (by omega)];exact⟨rfl,rfl⟩
def Nqi:Env:=d1H.kD 9 (r38.c (r26.c (r26.c .n))) (.acc 48) (.err) (fun y=>[a11 y.1]) (fun y=>((G9 105 y.1 y.2.1 y.2.2.1).1:List Ins)) (fun y=>((G9 105 y.1 y.2.1 y.2.2.1).2:o6))
def Nqi_ok:c8 Nqi:=NI28_ok.kD Tryz.call9 Tryz.func9 (inlHN_ok NI28_ok H0_ok d1x 5) (an:=d1x 9) (fun _=>rfl) fun y ho=>kc (pqi y.1 y.2.1 y.2.2.1 ho.1) (by kernel_rfl)
end Go.Proofs.YtapnoejokajcoaaGreatDoor
namespace Go.Qu
open Go Go.Wk Go.Wl Go.Rx Go.Re Go.Li Go.Fo
noncomputable section
def J8(d:Int):Tm:=⟨⟨2000,1,d⟩,0,0,0,false,true⟩
def b4y:Rl:=Rl.mk 3 1 0 [] [] [] [] [] [] [] [] [] [] 0
def oEx:F3:=⟨evN,[117],[],⟨⟨dyS 2000 1 1,[]⟩,[],[],[b4y],[],[⟨dyS 2000 1 2,[]⟩],[],[],[]⟩,[],[]⟩
def b63:A3 (dyS 2000 1 1) b4y:=by refine⟨by decide,s7.2 ⟨by decide,⟨by decide,fun h=>absurd h (by decide)⟩,b7a,by decide,⟨fun i h0 h1=>absurd h1 (by simp[b4y];omega),fun i h0 h1=>absurd h1 (by simp[b4y];omega)⟩,by decide,by decide⟩,fun h=>absurd h (by decide),fun _=>by decide⟩
def b5S(d:Int)(h:p9 (dyS 2000 1 d)=true):S0 [] ⟨dyS 2000 1 d,[]⟩:=⟨h,fun h=>absurd rfl h⟩
def c6U:S2 [] oEx.Main:=by
 refine⟨b5S 1 (by decide),by decide,by decide,by decide,fun i h0 h1=>absurd h1 (by simp[oEx];omega),fun i h0 h1=>absurd h1 (by simp[oEx];omega),fun i h0 h1=>?_,fun i h0 h1=>absurd h1 (by simp[oEx];omega),fun i h0 h1=>absurd h1 (by simp[oEx];omega),?_,?_,?_⟩
 . have h1:i<1:=h1;have:i=0:=by omega
   subst this;exact J7.2 b63
 . exact⟨fun i h0 h1=>absurd h1 (by simp[oEx];omega),by decide⟩
 . refine⟨fun i h0 h1=>?_,by decide⟩;have h1:i<1:=h1;have:i=0:=by omega
   subst this;exact⟨b5S 2 (by decide),by decide,fun h=>by omega⟩
 . exact⟨fun i h0 h1=>absurd h1 (by simp[oEx];omega),by decide⟩
def b8S:V8 oEx:=by refine⟨⟨.inl rfl,by decide,by decide,by decide,by decide,by decide⟩,by decide,?_,c6U,fun i h0 h1=>absurd h1 (by simp[oEx];omega),fun i h0 h1=>absurd h1 (by simp[oEx];omega)⟩;exact⟨fun i h0 h1=>absurd h1 (by simp[oEx];omega),by decide⟩
def lEx:List Tm:=[dyS 2000 1 1,dyS 2000 1 3,dyS 2000 1 4,dyS 2000 1 5]
def c5z(qa:Nat):N8 qa oEx (b8 (J8 1)) (b8 (J8 4))=(lEx,.nil):=by
 have he:J9 (dyS 2000 1 1) b4y (Y5 (b8 (J8 1)-172800-D4 oEx.Main) (dyS 2000 1 1)) (Y5 (b8 (J8 4)+172800) (dyS 2000 1 1))=([dyS 2000 1 1,dyS 2000 1 2,dyS 2000 1 3,dyS 2000 1 4,dyS 2000 1 5],.nil):=
  c2l b63 (by decide) (by decide) (by kernel_rfl) (by kernel_rfl)
 have h1:tmE qa oEx (b8 (J8 1)) (b8 (J8 4)) [oEx.Main.Start.Time] oEx.Main.b9=([dyS 2000 1 1,dyS 2000 1 2,dyS 2000 1 3,dyS 2000 1 4,dyS 2000 1 5],.nil):=by
  show tmE qa oEx (b8 (J8 1)) (b8 (J8 4)) [dyS 2000 1 1] [b4y]=_
  have e:tmR oEx (b8 (J8 1)) (b8 (J8 4)) b4y=_:=he;rw[tmE,if_pos (by rw[e]),e,tmE]
 have h2:tmA qa oEx (b8 (J8 1)) (b8 (J8 4))=lEx:=by unfold tmA;rw[h1];kernel_rfl
 have h3:a74 lEx=lEx:=d7F (by decide);have h4:ded lEx=lEx:=by kernel_rfl
 unfold N8;rw[if_pos (by rw[h1]),h2,h3,h4]
def b3I(qa:Nat):G9 qa oEx (J8 1) (J8 4)=([⟨J8 1,J8 2,dyS 2000 1 1,false⟩,⟨J8 3,J8 4,dyS 2000 1 3,false⟩],.nil):=by
 have hg:W6 qa oEx (b8 (J8 1)) (b8 (J8 4))=(([⟨J8 1,J8 2,dyS 2000 1 1,false⟩,⟨J8 3,J8 4,dyS 2000 1 3,false⟩],false),.nil):=by unfold W6;rw[c5z];kernel_rfl
 have hs:a3C [⟨J8 1,J8 2,dyS 2000 1 1,false⟩,⟨J8 3,J8 4,dyS 2000 1 3,false⟩]=[⟨J8 1,J8 2,dyS 2000 1 1,false⟩,⟨J8 3,J8 4,dyS 2000 1 3,false⟩]:=d7F (by decide);have hA:b9R oEx (J8 1) (J8 4):=⟨b8S,by decide,by decide,rfl,rfl,by decide⟩;unfold G9;rw[if_pos hA,hg,c5z];show(if o6.nil=o6.nil then _ else _)=_
 rw[if_pos rfl];show(if o6.nil=o6.nil then _ else _)=_
 rw[if_pos rfl,if_neg (by decide),if_neg (by decide)];show(a3C _,o6.nil)=_
 rw[hs]
def c3B:b7v oEx oEx.Main=86400:=by unfold b7v;rw[if_pos ⟨b8S,by decide⟩];decide
def c1N:a11 oEx:=
 ⟨by decide,by decide,by decide,by decide,(fun _ h=>by cases h),by decide,⟨by decide,by decide,by decide,by decide,by decide,by decide,by decide,(fun r hr=>by rw[d5a.1 hr];decide),(fun _ h=>by cases h),(fun _ h=>by cases h),by decide⟩,(fun _ h=>by cases h),(fun _ h=>by cases h)⟩
end
end Go.Qu
namespace Go.Proofs.YtapnoejokajcoaaGreatDoor
open Go Go.Wk Go.Wl Go.Rx Go.Re Go.Li Go.Qu Go.Fo 
attribute [local irreducible] j4
def c5A:Nat->D3:=fun|8=>⟨43,nn,nn⟩|_=>⟨0,nn,nn⟩
def d0B  (Q:Bool->Prop):Prop:=
a11 (F3.mk [(86:UInt8),(69:UInt8),(86:UInt8),(69:UInt8),(78:UInt8),(84:UInt8)] [(117:UInt8)] [] (Q4.mk (E6.mk (Tm.mk (Dy.mk (2000:Int) (1:Int) (1:Int)) (0:Int) (0:Int) (0:Int) (decide (true=true)) (decide (false=true))) []) [] [] [Rl.mk (3:Int) (1:Int) (0:Int) [] [] [] [] [] [] [] [] [] [] (0:Int)] [] [E6.mk (Tm.mk (Dy.mk (2000:Int) (1:Int) (2:Int)) (0:Int) (0:Int) (0:Int) (decide (true=true)) (decide (false=true))) []] [] [] []) [] [])/\((G9 (105:Nat) (F3.mk [(86:UInt8),(69:UInt8),(86:UInt8),(69:UInt8),(78:UInt8),(84:UInt8)] [(117:UInt8)] [] (Q4.mk (E6.mk (Tm.mk (Dy.mk (2000:Int) (1:Int) (1:Int)) (0:Int) (0:Int) (0:Int) (decide (true=true)) (decide (false=true))) []) [] [] [Rl.mk (3:Int) (1:Int) (0:Int) [] [] [] [] [] [] [] [] [] [] (0:Int)] [] [E6.mk (Tm.mk (Dy.mk (2000:Int) (1:Int) (2:Int)) (0:Int) (0:Int) (0:Int) (decide (true=true)) (decide (false=true))) []] [] [] []) [] []) (Tm.mk (Dy.mk (2000:Int) (1:Int) (1:Int)) (0:Int) (0:Int) (0:Int) (decide (false=true)) (decide (true=true))) (Tm.mk (Dy.mk (2000:Int) (1:Int) (4:Int)) (0:Int) (0:Int) (0:Int) (decide (false=true)) (decide (true=true)))).snd.nr=(0:Int)->(↑(G9 (105:Nat) (F3.mk [(86:UInt8),(69:UInt8),(86:UInt8),(69:UInt8),(78:UInt8),(84:UInt8)] [(117:UInt8)] [] (Q4.mk (E6.mk (Tm.mk (Dy.mk (2000:Int) (1:Int) (1:Int)) (0:Int) (0:Int) (0:Int) (decide (true=true)) (decide (false=true))) []) [] [] [Rl.mk (3:Int) (1:Int) (0:Int) [] [] [] [] [] [] [] [] [] [] (0:Int)] [] [E6.mk (Tm.mk (Dy.mk (2000:Int) (1:Int) (2:Int)) (0:Int) (0:Int) (0:Int) (decide (true=true)) (decide (false=true))) []] [] [] []) [] []) (Tm.mk (Dy.mk (2000:Int) (1:Int) (1:Int)) (0:Int) (0:Int) (0:Int) (decide (false=true)) (decide (true=true))) (Tm.mk (Dy.mk (2000:Int) (1:Int) (4:Int)) (0:Int) (0:Int) (0:Int) (decide (false=true)) (decide (true=true)))).fst.length:Int)<=(1000000:Int)/\(bo ((G9 (105:Nat) (F3.mk [(86:UInt8),(69:UInt8),(86:UInt8),(69:UInt8),(78:UInt8),(84:UInt8)] [(117:UInt8)] [] (Q4.mk (E6.mk (Tm.mk (Dy.mk (2000:Int) (1:Int) (1:Int)) (0:Int) (0:Int) (0:Int) (decide (true=true)) (decide (false=true))) []) [] [] [Rl.mk (3:Int) (1:Int) (0:Int) [] [] [] [] [] [] [] [] [] [] (0:Int)] [] [E6.mk (Tm.mk (Dy.mk (2000:Int) (1:Int) (2:Int)) (0:Int) (0:Int) (0:Int) (decide (true=true)) (decide (false=true))) []] [] [] []) [] []) (Tm.mk (Dy.mk (2000:Int) (1:Int) (1:Int)) (0:Int) (0:Int) (0:Int) (decide (false=true)) (decide (true=true))) (Tm.mk (Dy.mk (2000:Int) (1:Int) (4:Int)) (0:Int) (0:Int) (0:Int) (decide (false=true)) (decide (true=true)))).fst=[Ins.mk (Tm.mk (Dy.mk (2000:Int) (1:Int) (1:Int)) (0:Int) (0:Int) (0:Int) (decide (false=true)) (decide (true=true))) (Tm.mk (Dy.mk (2000:Int) (1:Int) (2:Int)) (0:Int) (0:Int) (0:Int) (decide (false=true)) (decide (true=true))) (Tm.mk (Dy.mk (2000:Int) (1:Int) (1:Int)) (0:Int) (0:Int) (0:Int) (decide (true=true)) (decide (false=true))) false,Ins.mk (Tm.mk (Dy.mk (2000:Int) (1:Int) (3:Int)) (0:Int) (0:Int) (0:Int) (decide (false=true)) (decide (true=true))) (Tm.mk (Dy.mk (2000:Int) (1:Int) (4:Int)) (0:Int) (0:Int) (0:Int) (decide (false=true)) (decide (true=true))) (Tm.mk (Dy.mk (2000:Int) (1:Int) (3:Int)) (0:Int) (0:Int) (0:Int) (decide (true=true)) (decide (false=true))) false])=true->a11 (F3.mk [(86:UInt8),(69:UInt8),(86:UInt8),(69:UInt8),(78:UInt8),(84:UInt8)] [(117:UInt8)] [] (Q4.mk (E6.mk (Tm.mk (Dy.mk (2000:Int) (1:Int) (1:Int)) (0:Int) (0:Int) (0:Int) (decide (true=true)) (decide (false=true))) []) [] [] [Rl.mk (3:Int) (1:Int) (0:Int) [] [] [] [] [] [] [] [] [] [] (0:Int)] [] [E6.mk (Tm.mk (Dy.mk (2000:Int) (1:Int) (2:Int)) (0:Int) (0:Int) (0:Int) (decide (true=true)) (decide (false=true))) []] [] [] []) [] []))/\Q (decide (bo ((G9 (105:Nat) (F3.mk [(86:UInt8),(69:UInt8),(86:UInt8),(69:UInt8),(78:UInt8),(84:UInt8)] [(117:UInt8)] [] (Q4.mk (E6.mk (Tm.mk (Dy.mk (2000:Int) (1:Int) (1:Int)) (0:Int) (0:Int) (0:Int) (decide (true=true)) (decide (false=true))) []) [] [] [Rl.mk (3:Int) (1:Int) (0:Int) [] [] [] [] [] [] [] [] [] [] (0:Int)] [] [E6.mk (Tm.mk (Dy.mk (2000:Int) (1:Int) (2:Int)) (0:Int) (0:Int) (0:Int) (decide (true=true)) (decide (false=true))) []] [] [] []) [] []) (Tm.mk (Dy.mk (2000:Int) (1:Int) (1:Int)) (0:Int) (0:Int) (0:Int) (decide (false=true)) (decide (true=true))) (Tm.mk (Dy.mk (2000:Int) (1:Int) (4:Int)) (0:Int) (0:Int) (0:Int) (decide (false=true)) (decide (true=true)))).fst=[Ins.mk (Tm.mk (Dy.mk (2000:Int) (1:Int) (1:Int)) (0:Int) (0:Int) (0:Int) (decide (false=true)) (decide (true=true))) (Tm.mk (Dy.mk (2000:Int) (1:Int) (2:Int)) (0:Int) (0:Int) (0:Int) (decide (false=true)) (decide (true=true))) (Tm.mk (Dy.mk (2000:Int) (1:Int) (1:Int)) (0:Int) (0:Int) (0:Int) (decide (true=true)) (decide (false=true))) false,Ins.mk (Tm.mk (Dy.mk (2000:Int) (1:Int) (3:Int)) (0:Int) (0:Int) (0:Int) (decide (false=true)) (decide (true=true))) (Tm.mk (Dy.mk (2000:Int) (1:Int) (4:Int)) (0:Int) (0:Int) (0:Int) (decide (false=true)) (decide (true=true))) (Tm.mk (Dy.mk (2000:Int) (1:Int) (3:Int)) (0:Int) (0:Int) (0:Int) (decide (true=true)) (decide (false=true))) false])=true/\b7v (F3.mk [(86:UInt8),(69:UInt8),(86:UInt8),(69:UInt8),(78:UInt8),(84:UInt8)] [(117:UInt8)] [] (Q4.mk (E6.mk (Tm.mk (Dy.mk (2000:Int) (1:Int) (1:Int)) (0:Int) (0:Int) (0:Int) (decide (true=true)) (decide (false=true))) []) [] [] [Rl.mk (3:Int) (1:Int) (0:Int) [] [] [] [] [] [] [] [] [] [] (0:Int)] [] [E6.mk (Tm.mk (Dy.mk (2000:Int) (1:Int) (2:Int)) (0:Int) (0:Int) (0:Int) (decide (true=true)) (decide (false=true))) []] [] [] []) [] []) (Q4.mk (E6.mk (Tm.mk (Dy.mk (2000:Int) (1:Int) (1:Int)) (0:Int) (0:Int) (0:Int) (decide (true=true)) (decide (false=true))) []) [] [] [Rl.mk (3:Int) (1:Int) (0:Int) [] [] [] [] [] [] [] [] [] [] (0:Int)] [] [E6.mk (Tm.mk (Dy.mk (2000:Int) (1:Int) (2:Int)) (0:Int) (0:Int) (0:Int) (decide (true=true)) (decide (false=true))) []] [] [] [])=(86400:Int))))/\(¬(G9 (105:Nat) (F3.mk [(86:UInt8),(69:UInt8),(86:UInt8),(69:UInt8),(78:UInt8),(84:UInt8)] [(117:UInt8)] [] (Q4.mk (E6.mk (Tm.mk (Dy.mk (2000:Int) (1:Int) (1:Int)) (0:Int) (0:Int) (0:Int) (decide (true=true)) (decide (false=true))) []) [] [] [Rl.mk (3:Int) (1:Int) (0:Int) [] [] [] [] [] [] [] [] [] [] (0:Int)] [] [E6.mk (Tm.mk (Dy.mk (2000:Int) (1:Int) (2:Int)) (0:Int) (0:Int) (0:Int) (decide (true=true)) (decide (false=true))) []] [] [] []) [] []) (Tm.mk (Dy.mk (2000:Int) (1:Int) (1:Int)) (0:Int) (0:Int) (0:Int) (decide (false=true)) (decide (true=true))) (Tm.mk (Dy.mk (2000:Int) (1:Int) (4:Int)) (0:Int) (0:Int) (0:Int) (decide (false=true)) (decide (true=true)))).snd.nr=(0:Int)->Q false)
def d3D   : d0B  (fun y0=>y0=true):=by
 unfold d0B;refine⟨c1N,fun _=>⟨?_,fun _=>c1N,d5e ⟨?_,c3B⟩⟩,fun h=>absurd ?_ h⟩
 . show((G9 105 oEx (J8 1) (J8 4)).1.length:Int)<=1000000
   rw[b3I];decide
 . refine z8.2 ?_;show(G9 105 oEx (J8 1) (J8 4)).1=_
   rw[b3I];rfl
 . show(G9 105 oEx (J8 1) (J8 4)).2.nr=0
   rw[b3I];rfl
def d4p:Env:=Nqi.kL 8 AL.n (.bool) (fun _=>[]) (fun y=>true)
def Nl4v_ok:c8 d4p:=Nqi_ok.kL Tryz.call8 Tryz.func8 (inlHN_ok Nqi_ok H0_ok c5A 2) (an:=c5A 8) (fun _ _=>trivial) fun y ho=>kc (d3D  ) (by kernel_rfl)
end Go.Proofs.YtapnoejokajcoaaGreatDoor
namespace Go.Qu
open Go Go.Wk Go.Wl Go.Rx Go.Re Go.Li Go.Fo
noncomputable section
variable{qa:Nat}{o:F3}{a b:Int}
structure c8p(o:F3):Prop where
 ru:o.Main.b9=[]
 rd:o.Main.o5=[]
 ex:o.Main.l5=[]
 ov:o.Over=[]
end
noncomputable section
variable{qa:Nat}{o:F3}{a b:Int}
def c6y{l l':List Ins}(h:l.Pairwise ltI)(h':l'.Pairwise ltI)(hm:∀y,y∈l↔y∈l'):l=l':=by
 have nd:∀{l:List Ins},l.Pairwise ltI->l.Nodup:=fun h=>h.imp fun h e=>by subst e;unfold ltI at h;omega
 refine List.Perm.eq_of_pairwise (le:=ltI) (fun x y _ _ h1 h2=>?_) h h' ((List.perm_ext_iff_of_nodup (nd h) (nd h')).2 hm);unfold ltI at h1 h2;omega
def exI(m:E6):List E6->List E6
 |[]=>[m]
 |x::r=>if b8 m.Time<b8 x.Time then m::x::r else x::exI m r
def X3(o:F3)(m:E6):F3:={ o with Main:={ o.Main with l5:=exI m o.Main.l5 } }
def a2Q{m x:E6}:∀{l:List E6},x∈exI m l↔x=m∨x∈l
 |[]=>by simp[exI]
 |y::r=>by
  unfold exI;split
  . rw[d5k]
  . rw[d5k,d5k,a2Q];constructor
    . rintro(h|h|h)
      . exact .inr (.inl h)
      . exact .inl h
      . exact .inr (.inr h)
    . rintro(h|h|h)
      . exact .inr (.inl h)
      . exact .inl h
      . exact .inr (.inr h)
def b01{m:E6}:∀{l:List E6},(exI m l).length=l.length+1
 |[]=>rfl
 |y::r=>by
  unfold exI;split
  . rfl
  . rw[d5h,b01,d5h]
def c1s{m:E6}:∀{l:List E6},(l.Pairwise fun x y=>b8 x.Time<b8 y.Time)->(∀x∈l,b8 x.Time≠b8 m.Time)->(exI m l).Pairwise fun x y=>b8 x.Time<b8 y.Time
 |[],_,_=>d6X _ _
 |y::r,h,hn=>by
  obtain⟨h1,h2⟩:=d5I.1 h;have hy:=hn y d5P;unfold exI;split
  . rename_i hl;refine d5I.2 ⟨fun x hx=>?_,h⟩;rcases d5k.1 hx with rfl|hx
    . exact hl
    . have:=h1 x hx;omega
  . refine d5I.2 ⟨fun x hx=>?_,c1s h2 fun x hx=>hn x (d5v _ hx)⟩;rcases a2Q.1 hx with rfl|hx
    . omega
    . exact h1 x hx
def b4W{zs:List V7}{l:List E6}{like:E6}:a8J zs l like↔(∀m∈l,S0 zs m/\P5 m like=true)/\(l.Pairwise fun x y=>b8 x.Time<b8 y.Time)/\(l.length:Int)<=100:=by
 constructor
 . intro h;refine⟨(s6.list (p:=fun m=>S0 zs m/\P5 m like=true)).1 fun j j0 j1=>⟨(h.1 j j0 j1).1,(h.1 j j0 j1).2.1⟩,?_,h.2⟩;have up:∀n:Nat,∀i j:Int,0<=i->i<j->j=i+n->j<l.length->b8 (ix l i).Time<b8 (ix l j).Time:=by
    intro n
    induction n with
    |zero=>intro i j _ h e;omega
    |succ n ih =>
     intro i j i0 hij e hj;have h1:=(h.1 j (by omega) hj).2.2 (by omega);by_cases hn:n=0
     . rw[show j-1=i by omega]at h1;exact h1
     . have h2:=ih i (j-1) i0 (by omega) (by omega) (by omega);omega
   rw[d5H];intro i j hi hj hij;have:=up (j-i) i j (by omega) (by omega) (by omega) (by omega);rw[s8 (by omega),s8 (by omega)]at this;exact this
 . rintro⟨h1,h2,h3⟩;refine⟨fun j j0 j1=>?_,h3⟩;have hm:=h1 _ (w5 j0 j1);refine⟨hm.1,hm.2,fun hj=>?_⟩;have:=d5H.1 h2 (j-1).toNat j.toNat (by omega) (by omega) (by omega);rw[s8 (l:=l) (i:=j-1) (by omega),s8 (l:=l) (i:=j) (by omega)];exact this
section
variable{m:E6}
def c22{t:Tm}:L7 (X3 o m) t=true↔t=m.Time∨L7 o t=true:=by
 unfold L7;rw[d6P,d6P];constructor
 . rintro⟨x,hx,e⟩;rcases a2Q.1 hx with rfl|hx
   . exact .inl (d5Q e).symm
   . exact .inr ⟨x,hx,e⟩
 . rintro(rfl|⟨x,hx,e⟩)
   . exact⟨m,a2Q.2 (.inl rfl),d5e rfl⟩
   . exact⟨x,a2Q.2 (.inr hx),e⟩
def b98:∀{rs:List Rl}{l:List Tm},tmE qa (X3 o m) a b l rs=tmE qa o a b l rs
 |[],l=>rfl
 |r::rs,l=>by rw[tmE,tmE];have e:tmR (X3 o m) a b r=tmR o a b r:=rfl;rw[e,b98]
def b4r{t:Tm}:(N7 qa (X3 o m) t).2=(N7 qa o t).2/\((N7 qa o t).2=.nil->((N7 qa (X3 o m) t).1=true↔(N7 qa o t).1=true/\t≠m.Time)):=by
 obtain⟨H,e1,e2⟩:∃H:Bool×o6,N7 qa o t=(if H.2=.nil then((H.1 || o.Main.o5.any fun m=>decide (m.Time=t)) && !L7 o t,.nil)else(false,H.2))/\N7 qa (X3 o m) t=(if H.2=.nil then((H.1 || o.Main.o5.any fun m=>decide (m.Time=t)) && !L7 (X3 o m) t,.nil)else(false,H.2)):=⟨_,rfl,rfl⟩;rw[e1,e2];by_cases c:H.2=.nil
 . rw[if_pos c,if_pos c];refine⟨rfl,fun _=>?_⟩;have h:=c22 (o:=o) (m:=m) (t:=t);show(_ && !L7 (X3 o m) t)=true↔_
   generalize L7 (X3 o m) t=x at h ⊢;generalize L7 o t=y at h ⊢;rw[d4U,d4U,d6w,d6w];constructor
   . rintro⟨h1,h2⟩;refine⟨⟨h1,?_⟩,fun e=>?_⟩
     . cases y with
       |false=>rfl
       |true=>rw[h.2 (.inr rfl)]at h2;cases h2
     . rw[h.2 (.inl e)]at h2;cases h2
   . rintro⟨⟨h1,h2⟩,h3⟩;refine⟨h1,?_⟩;cases x with
     |false=>rfl
     |true =>
      rcases h.1 rfl with e|e
      . exact absurd e h3
      . rw[h2]at e;cases e
 . rw[if_neg c,if_neg c];exact⟨rfl,fun e=>absurd e c⟩
def d0F(hI:S2 o.c9 o.Main)(hI':S2 o.c9 (X3 o m).Main)(h:(N8 qa o a b).2=.nil):(N8 qa (X3 o m) a b).2=.nil/\∀t,t∈(N8 qa (X3 o m) a b).1↔t∈(N8 qa o a b).1/\t≠m.Time:=by
 have h2:(N8 qa (X3 o m) a b).2=.nil:=by
  unfold N8;rw[if_pos];show(tmE qa (X3 o m) a b [o.Main.Start.Time] o.Main.b9).2=.nil
  rw[b98];exact(a3Y h).1
 refine⟨h2,fun t=>?_⟩;rw[b18 hI' h2,b18 hI h];have hb:b4o (X3 o m) a b t↔b4o o a b t:=d7A;have ho:=c22 (o:=o) (m:=m) (t:=t);rw[hb];show(b4o o a b t∨∃m∈o.Main.o5,m.Time=t)/\L7 (X3 o m) t=false↔_
 rw[<- d5E,<- d5E,ho];constructor
 . rintro⟨h1,h2⟩;exact⟨⟨h1,fun e=>h2 (.inr e)⟩,fun e=>h2 (.inl e)⟩
 . rintro⟨⟨h1,h2⟩,h3⟩;exact⟨h1,fun e=>e.elim h3 h2⟩
end
def c0k:∀{l:List Q4}{mp:List (Tm×Bool)},(∀x∈l,(N7 qa o (J4 x)).2=.nil)->(ovM qa o mp l).2=.nil
 |[],_,_=>rfl
 |x::r,mp,h=>by unfold ovM;rw[if_pos (h x d5P)];exact c0k fun y hy=>h y (d5v _ hy)
def b09{mp:List (Tm×Bool)}:∀{l:List Tm}{w:Wn},(∀t∈l,¬getM mp t=true->(A2 qa o (moI o t)).2=.nil)->(ga1 qa o a b mp w l).2=.nil
 |[],_,_=>rfl
 |t::r,w,h=>by
  unfold ga1;split
  . exact b09 fun y hy=>h y (d5v _ hy)
  . rename_i hn;rw[if_pos (h t d5P hn)];exact b09 fun y hy=>h y (d5v _ hy)
def b0k{mp:List (Tm×Bool)}:∀{l:List Q4}{w:Wn},(∀x∈l,getM mp (J4 x)=true->(A2 qa o x.Start).2=.nil)->(ga2 qa o a b mp w l).2=.nil
 |[],_,_=>rfl
 |x::r,w,h=>by
  unfold ga2;split
  . exact b0k fun y hy=>h y (d5v _ hy)
  . rename_i hn;rw[if_pos (h x d5P (d4S.1 hn))];exact b0k fun y hy=>h y (d5v _ hy)
section
variable{m:E6}
def c7m(hO:V8 o)(hl:(o.Main.l5.length:Int)<100)(hf:FmP o.Main.Start.Time m.Time)(hz:m.D9=o.Main.Start.D9)(hn:L7 o m.Time=false):V8 (X3 o m):=by
 obtain⟨h1,h2,h3,hI,h5,h6⟩:=hO;refine⟨h1,h2,h3,?_,h5,h6⟩;obtain⟨i1,i2,i3,i4,i5,i6,i7,i8,i9,i10,i11,i12⟩:=hI;refine⟨i1,i2,i3,i4,i5,i6,i7,i8,i9,i10,b4W.2 ⟨fun x hx=>?_,c1s (b4W.1 i11).2.1 fun x hx e=>?_,?_⟩,i12⟩
 . rcases a2Q.1 hx with rfl|hx
   . refine⟨⟨hf.rt,fun hne=>?_⟩,a7I.2 ⟨hf.ba,hf.ut,hz⟩⟩;rw[hz]at hne;obtain⟨z1,z2,z3⟩:=i1.2 hne;rw[hz];exact⟨hf.ba.trans z1,hf.ut.trans z2,z3⟩
   . exact(b4W.1 i11).1 x hx
 . have:=a7y (b9K i11 x hx).1 hf e;have h:L7 o m.Time=true:=d6P.2 ⟨x,hx,d5e this⟩;rw[h]at hn;cases hn
 . show((exI m o.Main.l5).length:Int)<=100
   rw[b01];omega
def c98(hO:V8 o)(hO':V8 (X3 o m))(h:(W6 qa o a b).2=.nil):(W6 qa (X3 o m) a b).2=.nil/\((W6 qa (X3 o m) a b).1.2=true->(W6 qa o a b).1.2=true)/\∀y,b72 qa (X3 o m) a b y↔b72 qa o a b y/\y.l7≠m.Time:=by
 obtain⟨h1,h2,h3,h4,_⟩:=a2p h;have g3:=(ga1_ok h3).2;have g4:=(ga2_ok h4).2;have hh:∀x∈o.Over,(N7 qa o (J4 x)).2=.nil:=fun x hx=>(a7z (t:=J4 x) h1).2 x hx;have h1':(ovM qa (X3 o m) [] (X3 o m).Over).2=.nil:=c0k fun x hx=>by rw[b4r.1];exact hh x hx
 have gk:∀t,getM (ovM qa (X3 o m) [] (X3 o m).Over).1 t=true↔getM (ovM qa o [] o.Over).1 t=true/\t≠m.Time:=fun t=>by
  rw[b10 h1',b10 h1];constructor
  . rintro⟨⟨x,hx,rfl⟩,hg⟩;have:=(b4r.2 (hh x hx)).1 hg;exact⟨⟨⟨x,hx,rfl⟩,this.1⟩,this.2⟩
  . rintro⟨⟨⟨x,hx,rfl⟩,hg⟩,hne⟩;exact⟨⟨x,hx,rfl⟩,(b4r.2 (hh x hx)).2 ⟨hg,hne⟩⟩
 obtain⟨h2',ht⟩:=d0F hO.2.2.2.1 hO'.2.2.2.1 h2;have h3':(ga1 qa (X3 o m) a b (ovM qa (X3 o m) [] (X3 o m).Over).1 ([],false) (N8 qa (X3 o m) a b).1).2=.nil:=b09 fun t htt hn=>by obtain⟨t1,t2⟩:=(ht t).1 htt;exact g3 t t1 fun hg=>hn ((gk t).2 ⟨hg,t2⟩)
 have h4':(ga2 qa (X3 o m) a b (ovM qa (X3 o m) [] (X3 o m).Over).1 (ga1 qa (X3 o m) a b (ovM qa (X3 o m) [] (X3 o m).Over).1 ([],false) (N8 qa (X3 o m) a b).1).1 (X3 o m).Over).2=.nil:=b0k fun x hx hg=>g4 x hx ((gk _).1 hg).1;have h':(W6 qa (X3 o m) a b).2=.nil:=by rw[c4L h1' h2' h3'];exact h4'
 refine⟨h',fun hp=>?_,fun y=>?_⟩
 . rw[b6H h']at hp;rw[b6H h];rcases hp with⟨t,t1,t2,t3⟩|⟨x,x1,x2,x3⟩
   . obtain⟨t1,tn⟩:=(ht t).1 t1;exact .inl ⟨t,t1,fun hg=>t2 ((gk t).2 ⟨hg,tn⟩),t3⟩
   . exact .inr ⟨x,x1,((gk _).1 x2).1,x3⟩
 . constructor
   . rintro(⟨t,t1,t2,t3,t4,rfl⟩|⟨x,x1,x2,x3,x4,rfl⟩)
     . obtain⟨t1,tn⟩:=(ht t).1 t1;exact⟨.inl ⟨t,t1,fun hg=>t2 ((gk t).2 ⟨hg,tn⟩),t3,t4,rfl⟩,tn⟩
     . exact⟨.inr ⟨x,x1,((gk _).1 x2).1,x3,x4,rfl⟩,((gk _).1 x2).2⟩
   . rintro⟨⟨t,t1,t2,t3,t4,rfl⟩|⟨x,x1,x2,x3,x4,rfl⟩,hne⟩
     . exact .inl ⟨t,(ht t).2 ⟨t1,hne⟩,fun hg=>t2 ((gk t).1 hg).1,t3,t4,rfl⟩
     . exact .inr ⟨x,x1,(gk _).2 ⟨x2,hne⟩,x3,x4,rfl⟩
def b7Z(hO:V8 o)(h:(W6 qa o a b).2=.nil){y:Ins}(hy:b72 qa o a b y):L7 o y.l7=false:=by
 obtain⟨h1,h2,_⟩:=a2p h;rcases hy with⟨t,t1,_,_,_,rfl⟩|⟨x,x1,x2,_,_,rfl⟩
 . exact((b18 hO.2.2.2.1 h2).1 t1).2
 . have hg:=((b10 h1).1 x2).2;have hn:=(a7z (t:=J4 x) h1).2 x x1;show L7 o (J4 x)=false
   unfold N7 at hg;dsimp only at hg;split at hg
   . rw[d4U,d6w]at hg;exact hg.2
   . cases hg
end
def c7U{f t:Tm}(h:(G9 qa o f t).2=.nil)(hl:(o.Main.l5.length:Int)<100){k:Nat}(hk:k<(G9 qa o f t).1.length):G9 qa (X3 o ⟨(G9 qa o f t).1[k].l7,o.Main.Start.D9⟩) f t=((G9 qa o f t).1.eraseIdx k,.nil):=by
 obtain⟨hA,hg,hp,hn,he⟩:=b38 h;obtain⟨hup,hnd⟩:=d3N h;have hO:=hA.1;generalize hy:(G9 qa o f t).1[k]=y;have hyl:y∈(G9 qa o f t).1:=hy ▸ d6j hk;have hyI:=(c59 h).1 hyl;have hwf:=(c3O h hyl).wh;generalize hm:(⟨y.l7,o.Main.Start.D9⟩:E6)=m;have em:m.Time=y.l7:=by rw[<- hm]
 have hO':V8 (X3 o m):=c7m hO hl (by rw[em];exact hwf) (by rw[<- hm]) (by rw[em];exact b7Z hO hg hyI);obtain⟨g',p',m'⟩:=c98 hO hO' hg;have hA':b9R (X3 o m) f t:=⟨hO',hA.2⟩;have hs:a3C (W6 qa (X3 o m) (b8 f) (b8 t)).1.1=(G9 qa o f t).1.eraseIdx k:=by
  have nd':=b6f (b45 hO' g');refine c6y ?_ (hup.sublist (List.eraseIdx_sublist _ _)) fun z=>?_
  . refine List.Pairwise.imp_of_mem (fun{x z} hx hz hxz=>?_) ((b5A _).and nd');obtain⟨hle,hne⟩:=hxz;have fx:=a04 hO' g' (a00.1 hx);have fz:=a04 hO' g' (a00.1 hz);have:b8 x.l7≠b8 z.l7:=fun e=>hne (a7y fx fz e);unfold ltI;omega
  . rw[a00,a9V g',m',<- c59 h,List.mem_eraseIdx_iff_getElem,em];constructor
    . rintro⟨hz,hne⟩;obtain⟨i,hi,e⟩:=d5w hz;exact⟨i,hi,fun e'=>hne (by subst e';rw[<- e,hy]),e⟩
    . rintro⟨i,hi,hik,rfl⟩;refine⟨d6j hi,fun e=>?_⟩;rw[<- hy]at e;rcases Nat.lt_or_gt_of_ne hik with hlt|hlt
      . exact d5H.1 hnd i k hi hk hlt e
      . exact d5H.1 hnd k i hk hi hlt e.symm
 have hp':¬(W6 qa (X3 o m) (b8 f) (b8 t)).1.2=true:=fun e=>by rw[p' e]at hp;cases hp
 have hn':¬1000<(W6 qa (X3 o m) (b8 f) (b8 t)).1.1.length:=by have e1:(a3C (W6 qa (X3 o m) (b8 f) (b8 t)).1.1).length=_:=a7X _;have e2:(a3C (W6 qa o (b8 f) (b8 t)).1.1).length=_:=a7X _;rw[hs,List.length_eraseIdx_of_lt hk,he,e2]at e1;omega
 have eq:G9 qa (X3 o m) f t=(a3C (W6 qa (X3 o m) (b8 f) (b8 t)).1.1,.nil):=by unfold G9;rw[if_pos hA',if_pos (a2p g').2.1,if_pos g',if_neg hp',if_neg hn']
 rw[eq,hs]
end
noncomputable section
variable{qa:Nat}{o:F3}{s:E6}
def tE(a t:Tm):Prop:=(a.Day.Year=t.Day.Year/\a.Day.Month=t.Day.Month/\a.Day.Date=t.Day.Date/\True)/\a.Hour=t.Hour/\a.Min=t.Min/\a.D8=t.D8/\(a.o7=true↔t.o7=true)/\(a.UTC=true↔t.UTC=true)/\True
instance {a t:Tm}:Decidable (tE a t):=inferInstanceAs (Decidable ((a.Day.Year=t.Day.Year/\a.Day.Month=t.Day.Month/\a.Day.Date=t.Day.Date/\True)/\a.Hour=t.Hour/\a.Min=t.Min/\a.D8=t.D8/\(a.o7=true↔t.o7=true)/\(a.UTC=true↔t.UTC=true)/\True))
def wK(n:Int)(l:Nat):Int:=(n.tmod l+l).tmod l
def wE(s:E6)(o:F3)(X:List E6):F3:=F3.mk o.Kind o.UID o.c9 (Q4.mk s o.Main.End o.Main.Span o.Main.b9 o.Main.o5 X o.Main.p8 o.Main.w6 o.Main.Extra) o.Over o.Extra
def d1J{n:Int}{l:Nat}(h:(l:Int)≠0):(-(l:Int)<n.tmod l/\n.tmod l<l)/\0<=wK n l/\wK n l<l:=by
 have h0:0<(l:Int):=by omega
 have h1:=d7S n h0;have h2:-(l:Int)<n.tmod l:=d8A n h0;refine⟨⟨h2,h1⟩,?_,?_⟩
 . unfold wK;exact d8W _ (by omega)
 . unfold wK;exact d7S _ h0
def c0X{m:E6}(h:a11 o)(hx:(o.Main.l5.length:Int)<100):a11 (X3 o m):=by obtain⟨a1,a2,a3,a4,a5,a6,⟨b1,b2,b3,b4,b5,b6⟩,a7⟩:=h;exact⟨a1,a2,a3,a4,a5,a6,⟨b1,b2,b3,b4,by show(exI m o.Main.l5).length<=200;rw[b01];omega,b6⟩,a7⟩
def woR(m:E6)(l x:List E6)(p:Bool)(i:Int):Prop:=(0<=i/\i<=l.length/\(x.length:Int)=i+(if p=true then 1 else 0))/\exI m l=x++(if p=true then l.drop i.toNat else exI m (l.drop i.toNat))
def woR.put{m:E6}{l x:List E6}{p:Bool}{i:Int}(h:woR m l x p i)(hi:i<l.length)(hp:¬p=true/\b8 m.Time<b8 (ix l i).Time):woR m l (x++[m]++[ix l i]) true (i+1):=by obtain⟨⟨h0,h1,h2⟩,h3⟩:=h;rw[if_neg hp.1]at h2 h3;refine⟨⟨by omega,by omega,by rw[if_pos rfl,d4Y,d4Y,d6p,d6p];omega⟩,?_⟩;rw[h3,a2N h0 hi,exI,if_pos hp.2,if_pos rfl];simp
def woR.no{m:E6}{l x:List E6}{p:Bool}{i:Int}(h:woR m l x p i)(hi:i<l.length)(hp:¬(¬p=true/\b8 m.Time<b8 (ix l i).Time)):woR m l (x++[ix l i]) p (i+1):=by
 obtain⟨⟨h0,h1,h2⟩,h3⟩:=h;refine⟨⟨by omega,by omega,by rw[d4Y,d6p];omega⟩,?_⟩;rw[h3,a2N h0 hi];by_cases e:p=true
 . rw[if_pos e,if_pos e];simp
 . rw[if_neg e,if_neg e,exI,if_neg fun c=>hp ⟨e,c⟩];simp
end
end Go.Qu
namespace Go.Proofs.YtapnoejokajcoaaGreatDoor
open Go Go.Wk Go.Wl Go.Rx Go.Re Go.Li Go.Qu Go.Fo 
attribute [local irreducible] j4
def c4T:Nat->D3:=fun|4=>⟨132,fun|12=>some ⟨[4,5,6,9,11,12,69,70],[.slot 13 (.acc 28),.slot 14 .bool,.slot 71 (.int .i64)]⟩|_=>none,fun|2000003=>some ⟨[9],[]⟩|_=>none⟩|_=>⟨0,nn,nn⟩
def x6(o:F3)(f:Tm)(t:Tm):=G9 (105:Nat) (Y7 o) (j7 f) (j7 t)
def d1f(o:F3)(f:Tm)(t:Tm)(n:Int)(Q:Bool->Prop):Prop:=
(↑(a5J (Y7 o) (j7 t)).length:Int)<=1000000/\(↑o.Main.b9.length:Int)<=1000000/\(↑(List.length o.Kind):Int)<=140737488355328/\(↑(List.length o.UID):Int)<=140737488355328/\(bR (¬c2D (Y7 o) (j7 t)=true∨100<=(↑o.Main.l5.length:Int)) (Q (decide (true=true))) (a11 (Y7 o)/\(bR ((x6 o f t).snd.nr≠0∨(↑(x6 o f t).fst.length:Int)=0) (Q (decide (true=true))) ((↑(x6 o f t).fst.length:Int)≠0/\c6 (n.tmod (↑(x6 o f t).fst.length:Int)+(↑(x6 o f t).fst.length:Int))/\(↑(x6 o f t).fst.length:Int)≠0/\0<=wK n (x6 o f t).fst.length/\wK n (x6 o f t).fst.length<(↑(x6 o f t).fst.length:Int)/\∃(I:List E6->Bool->Int->Prop),∃(m:List E6->Bool->Int->Nat),I [] false 0/\∀(x:List E6)(x_1:Bool)(x_2:Int),I x x_1 x_2->(bR (x_2<(↑o.Main.l5.length:Int)) (0<=x_2/\x_2<(↑o.Main.l5.length:Int)/\(bR (¬x_1=true/\b8 (j7 (ix (x6 o f t).fst (wK n (x6 o f t).fst.length)).l7)<b8 (j7 (ix o.Main.l5 x_2).Time)) ((x.length+[E6.mk (j7 (ix (x6 o f t).fst (wK n (x6 o f t).fst.length)).l7) o.Main.Start.D9].length)*(some (72:Nat)).getD (0:Nat)<=140737488355328/\((x++[E6.mk (j7 (ix (x6 o f t).fst (wK n (x6 o f t).fst.length)).l7) o.Main.Start.D9]).length+[W5 (ix o.Main.l5 x_2)].length)*(some (72:Nat)).getD (0:Nat)<=140737488355328/\c6 (x_2+1)/\I (x++[E6.mk (j7 (ix (x6 o f t).fst (wK n (x6 o f t).fst.length)).l7) o.Main.Start.D9]++[W5 (ix o.Main.l5 x_2)]) true (x_2+1)/\m (x++[E6.mk (j7 (ix (x6 o f t).fst (wK n (x6 o f t).fst.length)).l7) o.Main.Start.D9]++[W5 (ix o.Main.l5 x_2)]) true (x_2+1)<m x x_1 x_2) ((x.length+[W5 (ix o.Main.l5 x_2)].length)*(some (72:Nat)).getD (0:Nat)<=140737488355328/\c6 (x_2+1)/\I (x++[W5 (ix o.Main.l5 x_2)]) (decide (x_1=true)) (x_2+1)/\m (x++[W5 (ix o.Main.l5 x_2)]) (decide (x_1=true)) (x_2+1)<m x x_1 x_2))) ((bR (¬x_1=true) ((x.length+[E6.mk (j7 (ix (x6 o f t).fst (wK n (x6 o f t).fst.length)).l7) o.Main.Start.D9].length)*(some (72:Nat)).getD (0:Nat)<=140737488355328/\a11 (wE (W5 o.Main.Start) o (x++[E6.mk (j7 (ix (x6 o f t).fst (wK n (x6 o f t).fst.length)).l7) o.Main.Start.D9]))/\(0<=wK n (x6 o f t).fst.length/\wK n (x6 o f t).fst.length<=(↑(x6 o f t).fst.length:Int))/\(([]:List UInt8).length+(List.take (wK n (x6 o f t).fst.length).toNat (x6 o f t).fst).length)*(some (176:Nat)).getD (0:Nat)<=140737488355328/\c6 (wK n (x6 o f t).fst.length+1)/\(0<=wK n (x6 o f t).fst.length+1/\wK n (x6 o f t).fst.length+1<=(↑(x6 o f t).fst.length:Int))/\(([]++List.take (wK n (x6 o f t).fst.length).toNat (x6 o f t).fst).length+(List.drop (wK n (x6 o f t).fst.length+1).toNat (x6 o f t).fst).length)*(some (176:Nat)).getD (0:Nat)<=140737488355328/\((G9 (105:Nat) (wE (W5 o.Main.Start) o (x++[E6.mk (j7 (ix (x6 o f t).fst (wK n (x6 o f t).fst.length)).l7) o.Main.Start.D9])) (j7 f) (j7 t)).snd.nr=0->(↑(G9 (105:Nat) (wE (W5 o.Main.Start) o (x++[E6.mk (j7 (ix (x6 o f t).fst (wK n (x6 o f t).fst.length)).l7) o.Main.Start.D9])) (j7 f) (j7 t)).fst.length:Int)<=1000000)/\Q (decide (((G9 (105:Nat) (wE (W5 o.Main.Start) o (x++[E6.mk (j7 (ix (x6 o f t).fst (wK n (x6 o f t).fst.length)).l7) o.Main.Start.D9])) (j7 f) (j7 t)).snd.nr=0/\bo ((G9 (105:Nat) (wE (W5 o.Main.Start) o (x++[E6.mk (j7 (ix (x6 o f t).fst (wK n (x6 o f t).fst.length)).l7) o.Main.Start.D9])) (j7 f) (j7 t)).fst=[]++List.take (wK n (x6 o f t).fst.length).toNat (x6 o f t).fst++List.drop (wK n (x6 o f t).fst.length+1).toNat (x6 o f t).fst)=true)/\true=true))) (a11 (wE (W5 o.Main.Start) o x)/\(0<=wK n (x6 o f t).fst.length/\wK n (x6 o f t).fst.length<=(↑(x6 o f t).fst.length:Int))/\(([]:List UInt8).length+(List.take (wK n (x6 o f t).fst.length).toNat (x6 o f t).fst).length)*(some (176:Nat)).getD (0:Nat)<=140737488355328/\c6 (wK n (x6 o f t).fst.length+1)/\(0<=wK n (x6 o f t).fst.length+1/\wK n (x6 o f t).fst.length+1<=(↑(x6 o f t).fst.length:Int))/\(([]++List.take (wK n (x6 o f t).fst.length).toNat (x6 o f t).fst).length+(List.drop (wK n (x6 o f t).fst.length+1).toNat (x6 o f t).fst).length)*(some (176:Nat)).getD (0:Nat)<=140737488355328/\((G9 (105:Nat) (wE (W5 o.Main.Start) o x) (j7 f) (j7 t)).snd.nr=0->(↑(G9 (105:Nat) (wE (W5 o.Main.Start) o x) (j7 f) (j7 t)).fst.length:Int)<=1000000)/\Q (decide (((G9 (105:Nat) (wE (W5 o.Main.Start) o x) (j7 f) (j7 t)).snd.nr=0/\bo ((G9 (105:Nat) (wE (W5 o.Main.Start) o x) (j7 f) (j7 t)).fst=[]++List.take (wK n (x6 o f t).fst.length).toNat (x6 o f t).fst++List.drop (wK n (x6 o f t).fst.length+1).toNat (x6 o f t).fst)=true)/\true=true))))))))))
def V6{l:List K8}(h:a3u l=true):(∀p∈l,A0 p)/\(l.length:Int)<=1000000:=by have r:=z8.1 h;exact⟨(s6.list (p:=A0)).1 (fun j j0 j1=>a9p (r.2.1 j j0 j1)),by have:=r.1;omega⟩
def b1n{x:Q4}(h:a8x x=true):a2l x:=by obtain⟨⟨a,b,c,d,e,f,g,p⟩,r,al⟩:=z8.1 h;exact⟨by omega,by omega,by omega,by omega,by omega,by omega,by omega,(s6.list (p:=fun r:Rl=>F9 r=true)).1 r,(s6.list (p:=fun a:Alm=>(∀p∈a.Extra,A0 p)/\(a.Extra.length:Int)<=1000000)).1 fun j j0 j1=>V6 (al j j0 j1).2.2,(V6 p).1,(V6 p).2⟩
def c7N{o:F3}(h:b0y o=true):a11 o:=by obtain⟨⟨k,z,v,p,m⟩,zr,ov,_⟩:=z8.1 h;exact⟨by omega,by omega,by omega,by omega,(V6 p).1,(V6 p).2,b1n m,(s6.list (p:=X9)).1 fun j j0 j1=>⟨by have:=(zr j j0 j1).1;omega,by have:=(zr j j0 j1).2.1;omega,(s6.list (p:=fun o:Obv=>0<(o.b9.length:Int)->F9 (ix o.b9 0)=true)).1 fun k k0 k1=>((zr j j0 j1).2.2 k k0 k1).2.2⟩,(s6.list (p:=a2l)).1 fun j j0 j1=>b1n (ov j j0 j1)⟩
def c7a{e:o6}(h:e.nr=0):e=.nil:=by
 cases e with
 |nil=>rfl
 |_ =>
  unfold o6.nr at h;simp only at h;split at h
  . split at h
    . omega
    . cases h
  . cases h
def d3H(o:F3)(f:Tm)(t:Tm)(n:Int)(hf:((a5J o t).length:Int)<=1000000)(hr:(o.Main.b9.length:Int)<=1000000)(hk:(o.Kind.length:Int)<=140737488355328)(hu:(o.UID.length:Int)<=140737488355328):d1f o f t n (fun y0=>y0=true):=by
 unfold d1f x6;simp only[y8,A9,B5,C7,C6,C8,D0,C5,C3,D2,B9,d4Z,d6a,d6b,d6I,d7C,d6p];refine⟨hf,hr,hk,hu,fun _=>by trivial,fun hc=>?_⟩;have hR:c2D o t=true:=d4S.1 fun e=>hc (.inl e);have hx:(o.Main.l5.length:Int)<100:=by have:¬(100:Int)<=o.Main.l5.length:=fun e=>hc (.inr e);omega
 have hfo:=c7N (z8.1 hR).2.1;refine⟨hfo,fun _=>by trivial,fun hd=>?_⟩;have e0:=c7a (d4S.1 fun e=>hd (.inl e));have hl:((G9 105 o f t).1.length:Int)≠0:=fun e=>hd (.inr e);have hq:=b38 e0;have n1:(G9 105 o f t).1.length<=1000:=by rw[hq.2.2.2.2,a7X];exact hq.2.2.2.1
 have hw:=fun(k:Nat) h=>c7U (k:=k) e0 hx h;clear hq hd hc e0;generalize (G9 105 o f t).1=A at *;obtain⟨hT,hK⟩:=d1J (n:=n) hl;have hw:=hw (wK n A.length).toNat (by omega);rw[<- s8 (by omega)]at hw;have he:A.eraseIdx (wK n A.length).toNat=List.take (wK n A.length).toNat A++List.drop (wK n A.length+1).toNat A:=by rw[List.eraseIdx_eq_take_drop_succ,show(wK n A.length+1).toNat=(wK n A.length).toNat+1 by omega]
 refine⟨hl,⟨by omega,by omega⟩,hl,hK.1,hK.2,?_⟩;generalize ix A (wK n A.length)=y at *;refine⟨woR ⟨y.l7,o.Main.Start.D9⟩ o.Main.l5,fun _ _ i=>((o.Main.l5.length:Int)-i).toNat,⟨⟨by omega,by omega,rfl⟩,rfl⟩,?_⟩;rintro x p i h;have hx2:=h.1.2.2;have hx3:(if p=true then(1:Int)else 0)<=1:=by split <;> omega
 have hx4:=h.1.1;have hx5:=h.1.2.1;refine⟨fun hi=>⟨h.1.1,hi,fun hp=>⟨by omega,by rw[d4Y,d6p];omega,⟨by omega,by omega⟩,h.put hi hp,by dsimp only;omega⟩,fun hp=>⟨by omega,⟨by omega,by omega⟩,h.no hi hp,by dsimp only;omega⟩⟩,fun hi=>?_⟩;have hd:o.Main.l5.drop i.toNat=[]:=d6t (by omega);have h2:=h.2;rw[hd]at h2;refine⟨fun hp=>?_,fun hp=>?_⟩
 . rw[if_neg hp]at h2;have h2:x++[⟨y.l7,o.Main.Start.D9⟩]=exI ⟨y.l7,o.Main.Start.D9⟩ o.Main.l5:=h2.symm;rw[h2];have e:wE o.Main.Start o (exI ⟨y.l7,o.Main.Start.D9⟩ o.Main.l5)=X3 o ⟨y.l7,o.Main.Start.D9⟩:=rfl;rw[e];exact⟨by omega,c0X hfo hx,⟨hK.1,by omega⟩,by rw[d5n];omega,⟨by omega,by omega⟩,⟨by omega,by omega⟩,by rw[d5n,d6N];omega,fun _=>by rw[hw];show((A.eraseIdx _).length:Int)<=1000000;have:=List.length_eraseIdx_le A (wK n A.length).toNat;omega,by rw[hw];exact d5e ⟨⟨rfl,(a1p he).symm⟩,trivial⟩⟩
 . rw[if_pos (d4S.1 hp),d5C]at h2;rw[<- h2];have e:wE o.Main.Start o (exI ⟨y.l7,o.Main.Start.D9⟩ o.Main.l5)=X3 o ⟨y.l7,o.Main.Start.D9⟩:=rfl;rw[e];exact⟨c0X hfo hx,⟨hK.1,by omega⟩,by rw[d5n];omega,⟨by omega,by omega⟩,⟨by omega,by omega⟩,by rw[d5n,d6N];omega,fun _=>by rw[hw];show((A.eraseIdx _).length:Int)<=1000000;have:=List.length_eraseIdx_le A (wK n A.length).toNat;omega,by rw[hw];exact d5e ⟨⟨rfl,(a1p he).symm⟩,trivial⟩⟩
open Go.ChangeShapes Go.RowKit Go.WideShapes
def c68:List (String×DataW Unit):=[("unicode/utf8.acceptRanges", Rows.laid_unicode_utf8_acceptRanges),("errors.errorType", Rows.laid_errors_errorType),("unicode/utf8.first", Rows.laid_unicode_utf8_first)]
def et0:Tryz.prog.globalNamed "errors.errorType" = some 0:=by kernel_rfl
def rt0:(Tryz.prog.cutTypes.find? (·.1 == "internal/reflectlite.rtype")).map (·.2)=some 177:=by kernel_rfl
def d1i:Tryz.prog.types.size=332:=by kernel_rfl
def c4y:((List.range 332).filter fun t=>Tryz.prog.rowNamed t [101,114,114,111,114])=[43]:=by kernel_rfl
def b7o{W:World} (h:handlesMet Tryz.prog [("errors.errorType", Rows.laid_errors_errorType)] W):W.cell? ⟨0,0,none⟩=some a2d:=by
 obtain⟨name,u,ty,e1,e2,e3,e4,e5⟩:=h _ (d5a.2 rfl);obtain rfl:name=[101,114,114,111,114]:=(d6g e1).symm;obtain rfl:=d6g (rt0.symm.trans e2);have hm:ty∈(List.range 332).filter fun t=>Tryz.prog.rowNamed t [101,114,114,111,114]:=d5u.2 ⟨d7z.2 (by rw[<- d1i];exact e3),e4⟩;rw[c4y]at hm;obtain rfl:=d5a.1 hm;have hh:typeHandle Tryz.prog 43=.pointer (some ⟨4,43,none⟩):=by kernel_rfl
 rw[hh]at e5;simpa[a2d]using World.var?_cell et0 e5 0
def b57{W:World}(h:laidMetH Tryz.prog c68 W)(ho:W.ShapedOpen Tryz.prog):Gl.is (fun b=>b<W.heap.size) W:=by
 obtain⟨m,hm⟩:=cell_of_shapedOpen_int (g:=1) (t:=3) (k:=.i64) (zero:=#[.int .i64 0]) ho (d5Q (by kernel_rfl)) (by kernel_rfl) (by kernel_rfl) (by kernel_rfl) (by kernel_rfl) Tryz.underlying3;have hs:1<W.heap.size:=by apply d6i;intro hn;unfold World.cell? at hm;rw[d6D (by show W.heap.size<=1;omega)]at hm;cases hm
 exact⟨⟨by omega,hs⟩,hs,b7o (show laidMet Tryz.prog [("unicode/utf8.acceptRanges", Rows.laid_unicode_utf8_acceptRanges),("unicode/utf8.first", Rows.laid_unicode_utf8_first)] W/\handlesMet Tryz.prog [("errors.errorType", Rows.laid_errors_errorType)] W from h).2,m,hm⟩
def b97(os:Os):World:=
 let w0:=World.laidAll Tryz.prog os [("unicode/utf8.acceptRanges", Rows.laid_unicode_utf8_acceptRanges),("unicode/utf8.first", Rows.laid_unicode_utf8_first)]
 { w0 with heap:=w0.heap.modify 0 fun
   |.cells _ t frozen=>.cells #[a2d] t frozen
   |o=>o }
def b8a(os:Os)(args:Array Value):laidMetH Tryz.prog c68 ((b97 os).forCall (fun _ _=>0) ⟨#[],args,[]⟩).memory:=
 laidMetH_of_parts (laidMet_of_run' 8 (by kernel_rfl) (by kernel_rfl)) (by kernel_rfl)
def d1g:laidOutB Tryz.prog=true:=by kernel_rfl
def d4a:ownKnob Tryz.prog.godebug=none:=by kernel_rfl
def c9F{P:Program}{ts:List TypeId}(h:(ts.all fun t=>P.readableRec t && decide (t<P.types.size))=true):∀t∈ts,P.readableRec t=true/\t<P.types.size:=fun t ht=>by have:=d5D.1 h t ht;rw[d4U,d6e]at this;exact this
def b7r{Z:Nat->Prop}{W:World}{v:Value}(h:e7 U eT (fun _=>none) Z W v (I4 true)):v=.bool true:=by cases h with|bl=>rfl
structure OB{α:Type}(t:TypeId)(r:Rd α) where
 m:α->Nat
 ok:∀{H:Type}{enc:TypeId×Value->H}{fuel:Nat}{w:World}{sp:Nat->Bool}{cs:List Value}{x:DataW H×List MemPlace},DataW.trod enc Tryz.prog w 0 sp true fuel t cs=some x->∃y,r.rd (fun _=>True) w cs y/\m y<Rows.uptoBulk x.1
structure FB{α:Type}(o:Nat)(fs:List Field)(r:Rd α) where
 m:α->Nat
 ok:∀{H:Type}{enc:TypeId×Value->H}{n:Nat}{w:World}{sp:Nat->Bool}{cs:List Value}{xs:List (DataW H×List MemPlace)},xs.length=fs.length ->
  (∀(i:Nat)(f:Field),fs[i]?=some f->DataW.trod enc Tryz.prog w 0 sp true n f.type ((cs.drop f.offset).take (Tryz.prog.cellsOf f.type))=xs[i]?)->∃y,r.rd (fun _=>True) w ((cs.drop o).take r.sz) y/\m y<=Rows.uptoBulkAll (xs.map (·.1))
def c9M{H:Type}(d:DataW H):0<Rows.uptoBulk d:=by
 cases d with
 |lit l=>cases l <;> simp[Rows.uptoBulk]
 |_=>simp[Rows.uptoBulk]
def OB.z{α:Type}{t:TypeId}{r:Rd α}(h:a7b Tryz.prog t r):OB t r:=⟨fun _=>0,fun k=>let⟨y,k⟩:=h k;⟨y,k,c9M _⟩⟩
def OB.s{t:TypeId}(ht:Tryz.prog.underlying t=some .string):OB t a0b:=⟨List.length,fun h=>by
 obtain⟨y,k⟩:=b4g ht h;obtain⟨s,rfl,rfl,_⟩:=DataW.trod_string ht h;have e:sv y=.string s:=by simpa using k.1.symm
 refine⟨y,k,?_⟩;show y.length<Rows.uptoBulk (.lit (.string s.data.toList))
 have e2:y=s.data.toList:=by unfold sv at e;simp only[Value.string.injEq]at e;rw[<- e]
 rw[e2];simp[Rows.uptoBulk]⟩
def b25{α H:Type}{m:α->Nat}:∀{l:List α}{es:List (DataW H×List MemPlace)},l.length=es.length->(∀i (h:i<l.length) (h':i<es.length),m l[i]<Rows.uptoBulk es[i].1)->l.length+(l.map m).sum<=Rows.uptoBulkAll (es.map (·.1))
 |[],_,_,_=>d6B _
 |a::r,[],e,_=>by cases e
 |a::r,x::es,e,h=>by have h0:=h 0 (Nat.succ_pos _) (Nat.succ_pos _);have ih:=b25 (m:=m) (l:=r) (es:=es) (Nat.succ.inj e) fun i h1 h2=>h (i+1) (Nat.succ_lt_succ h1) (Nat.succ_lt_succ h2);simp only[List.getElem_cons_zero]at h0;simp only[d6f,d8D,d5h,Rows.uptoBulkAll];omega
def OB.l{α:Type}{r:Rd α}{t e:TypeId}(ht:Tryz.prog.underlying t=some (.slice e))(hsz:Tryz.prog.cellsOf e=r.sz)(hp:0<r.sz)(ho:OB e r):OB t (p7 r):=⟨fun l=>l.length+(l.map ho.m).sum,fun{H enc fuel w sp cs x} h=>by
 rcases DataW.trod_slice ht h with⟨rfl,rfl⟩|⟨a,len,cap,elems,rest,n,_,rfl,rfl,_,hlc,hcm,hel,hget,_⟩
 . exact⟨[],a1w,by simp[Rows.uptoBulk]⟩
 . have each:∀i:Fin len,∃(y:α)(c:List Value),Cells w a.block (a.off+i*r.sz) c/\r.rd (fun _=>True) w c y/\a.spot=none/\ho.m y<Rows.uptoBulk (elems[i.1]'(by omega)).1:=fun⟨i,hi⟩=>by
     have h1:=hget i hi;rw[d5i (by omega)]at h1;simp only[d5j]at h1;obtain⟨c,hc,hx⟩:=h1;obtain⟨y,hy,hm⟩:=ho.ok hx;rw[hsz]at hc;have hc':=b2H hp hc;have hs0:a.spot=none:=by have h0:=hget 0 (by omega);rw[d5i (by omega)]at h0;simp only[d5j]at h0;obtain⟨c0,hc0,_⟩:=h0;rw[hsz]at hc0;simpa[Addr.add]using(b2H hp hc0).1
     refine⟨y,c,?_,hy,hs0,hm⟩;have:=hc'.2.2;unfold Addr.add at this;split at this
     . simp_all
     . exact this
   have⟨f,hf⟩:=Classical.axiomOfChoice each;refine⟨List.ofFn f,⟨?_,some a,cap,by simp,⟨fun h=>(by cases h),by simp_all⟩,fun i hi=>?_⟩,?_⟩
   . simp[maxLen]at hcm ⊢;omega
   . have hi':i<len:=by simpa using hi
     obtain⟨c,h1,h2,hs0,_⟩:=hf ⟨i,hi'⟩;refine⟨a.block,a.off,c,?_,trivial,h1,?_⟩
     . obtain⟨b,o,s⟩:=a;simp_all
     . simp_all
   . have:=b25 (m:=ho.m) (l:=List.ofFn f) (es:=elems) (by simp[hel]) fun i h1 h2=>by
       obtain⟨_,_,_,_,hb⟩:=hf ⟨i,by simpa using h1⟩;simpa using hb
     simp only[Rows.uptoBulk];omega⟩
section
variable{α β:Type}{r:Rd α}{s:Rd β}{o:Nat}{f:Field}{fs:List Field}{t:TypeId}
def FB.e(h:(f.offset,Tryz.prog.cellsOf f.type)=(o,r.sz))(a:OB f.type r):FB o [f] r:=⟨fun y=>a.m y+1,fun{H enc n w sp cs xs} hl hg=>by
 match xs,hl with
 |[x],_ =>
  have h0:=hg 0 f rfl;rw[(d8d h).1,(d8d h).2]at h0;obtain⟨y,k,b⟩:=a.ok h0;exact⟨y,k,by simp only[d6f,List.map_nil,Rows.uptoBulkAll];omega⟩⟩
def FB.c(h:(f.offset,Tryz.prog.cellsOf f.type)=(o,r.sz))(a:OB f.type r)(b:FB (o+r.sz) fs s):FB o (f::fs) (r.q s):=⟨fun y=>a.m y.1+1+b.m y.2,fun{H enc n w sp cs xs} hl hg=>by
 match xs,hl with
 |x::xs,hl =>
  have h0:=hg 0 f rfl;rw[(d8d h).1,(d8d h).2]at h0;obtain⟨y,k,bd⟩:=a.ok h0;obtain⟨z,k2,bd2⟩:=b.ok (xs:=xs) (Nat.succ.inj hl) fun i g e=>hg (i+1) g e;refine⟨(y,z),⟨_,_,?_,k,k2⟩,by simp only[d6f,Rows.uptoBulkAll];omega⟩;show(cs.drop o).take (r.sz+s.sz)=_
  rw[List.take_add,List.drop_drop]⟩
def OB.st{fs:Array Field}{p:α->β}(ht:Tryz.prog.underlying t=some (.struct fs))(hz:Tryz.prog.cellsOf t=s.sz)(b:FB 0 fs.toList s)(g:β->α)(hg:∀y,p (g y)=y):OB t (s.of p):=⟨fun x=>b.m (p x),fun h=>by
 obtain⟨xs,n,_,rfl,hlen,hxl,hget⟩:=DataW.trod_struct ht h;obtain⟨y,k,bd⟩:=b.ok (by rw[hxl,d7r]) fun i f e=>hget i f (by rw[<- d8i];exact e);refine⟨g y,?_,?_⟩
 . show s.rd _ _ _ (p (g y))
   rw[hg]
   rwa [List.drop_zero,d5z (by omega)]at k
 . rw[hg];simp only[Rows.uptoBulk];omega⟩
def b4t{t:Nat}{x:Rd α}(p:TQ U eT x)(o:OB t x)(hn:2<=x.sz){H:Type}{enc:TypeId×Value->H}{W:World}{sp:Nat->Bool}{v:Value}{d:DataW H}{ps:List MemPlace}(h:DataW.Trod enc Tryz.prog W 0 sp true t v d ps):∃y,e7 U eT (fun _=>none) (fun b=>b<W.heap.size) W v (.agg (p.sv y))/\o.m y<Rows.uptoBulk d/\∃D,x.rd D W v.cells.toList y:=by
 obtain⟨n,h⟩:=h;obtain⟨y,k,b⟩:=o.ok h;have k:=Rd.a3O (D':=fun b=>b<W.heap.size) _ k (fun _ _ hb=>hb);refine⟨y,?_,b,_,k⟩;cases v with
 |agg cs=>exact p.sv_ok k
 |_=>exact absurd (Rd.len _ k) (by simp[Value.cells];omega)
end
def d4K:OB 24 dDy:=.st Tryz.underlying24 (by kernel_rfl) (.c (by kernel_rfl) (.z (w7 Tryz.underlying3)) (.c (by kernel_rfl) (.z (w7 Tryz.underlying3)) (.e (by kernel_rfl) (.z (w7 Tryz.underlying3))))) (fun y=>⟨y.1,y.2.1,y.2.2⟩) fun _=>rfl
def c1y:OB 26 dTm:=.st Tryz.underlying26 (by kernel_rfl) (.c (by kernel_rfl) d4K (.c (by kernel_rfl) (.z (w7 Tryz.underlying3)) (.c (by kernel_rfl) (.z (w7 Tryz.underlying3)) (.c (by kernel_rfl) (.z (w7 Tryz.underlying3)) (.c (by kernel_rfl) (.z (a5z Tryz.underlying4)) (.e (by kernel_rfl) (.z (a5z Tryz.underlying4)))))))) (fun y=>⟨y.1,y.2.1,y.2.2.1,y.2.2.2.1,y.2.2.2.2.1,y.2.2.2.2.2⟩) fun _=>rfl
def d2f:OB 240 dNt:=.st Tryz.underlying240 (by kernel_rfl) (.c (by kernel_rfl) (.z (w7 Tryz.underlying3)) (.e (by kernel_rfl) (.z (w7 Tryz.underlying3)))) (fun y=>⟨y.1,y.2⟩) fun _=>rfl
def c0O:OB 64 dRl:=.st Tryz.underlying64 (by kernel_rfl) (.c (by kernel_rfl) (.z (w7 Tryz.underlying3)) (.c (by kernel_rfl) (.z (w7 Tryz.underlying3)) (.c (by kernel_rfl) (.z (w7 Tryz.underlying3)) (.c (by kernel_rfl) (.l Tryz.underlying61 (by kernel_rfl) (by decide) c1y) (.c (by kernel_rfl) (.l Tryz.underlying30 (by kernel_rfl) (by decide) (.z (w7 Tryz.underlying3))) (.c (by kernel_rfl) (.l Tryz.underlying30 (by kernel_rfl) (by decide) (.z (w7 Tryz.underlying3))) (.c (by kernel_rfl) (.l Tryz.underlying30 (by kernel_rfl) (by decide) (.z (w7 Tryz.underlying3))) (.c (by kernel_rfl) (.l Tryz.underlying30 (by kernel_rfl) (by decide) (.z (w7 Tryz.underlying3))) (.c (by kernel_rfl) (.l Tryz.underlying62 (by kernel_rfl) (by decide) d2f) (.c (by kernel_rfl) (.l Tryz.underlying30 (by kernel_rfl) (by decide) (.z (w7 Tryz.underlying3))) (.c (by kernel_rfl) (.l Tryz.underlying30 (by kernel_rfl) (by decide) (.z (w7 Tryz.underlying3))) (.c (by kernel_rfl) (.l Tryz.underlying30 (by kernel_rfl) (by decide) (.z (w7 Tryz.underlying3))) (.c (by kernel_rfl) (.l Tryz.underlying30 (by kernel_rfl) (by decide) (.z (w7 Tryz.underlying3))) (.e (by kernel_rfl) (.z (w7 Tryz.underlying3)))))))))))))))) (fun y=>⟨y.1,y.2.1,y.2.2.1,y.2.2.2.1,y.2.2.2.2.1,y.2.2.2.2.2.1,y.2.2.2.2.2.2.1,y.2.2.2.2.2.2.2.1,y.2.2.2.2.2.2.2.2.1,y.2.2.2.2.2.2.2.2.2.1,y.2.2.2.2.2.2.2.2.2.2.1,y.2.2.2.2.2.2.2.2.2.2.2.1,y.2.2.2.2.2.2.2.2.2.2.2.2.1,y.2.2.2.2.2.2.2.2.2.2.2.2.2⟩) fun _=>rfl
def c9f:OB 101 b9t:=.st Tryz.underlying101 (by kernel_rfl) (.c (by kernel_rfl) (.s Tryz.underlying9) (.c (by kernel_rfl) c1y (.c (by kernel_rfl) (.z (w7 Tryz.underlying3)) (.c (by kernel_rfl) (.z (w7 Tryz.underlying3)) (.e (by kernel_rfl) (.l Tryz.underlying31 (by kernel_rfl) (by decide) c0O)))))) (fun y=>⟨y.1,y.2.1,y.2.2.1,y.2.2.2.1,y.2.2.2.2⟩) fun _=>rfl
def d1I:OB 92 b9Z:=.st Tryz.underlying92 (by kernel_rfl) (.c (by kernel_rfl) (.s Tryz.underlying9) (.e (by kernel_rfl) (.l Tryz.underlying90 (by kernel_rfl) (by decide) c9f))) (fun y=>⟨y.1,y.2⟩) fun _=>rfl
def b0x:OB 28 b0e:=.st Tryz.underlying28 (by kernel_rfl) (.c (by kernel_rfl) c1y (.e (by kernel_rfl) (.s Tryz.underlying9))) (fun y=>⟨y.1,y.2⟩) fun _=>rfl
def c91:OB 130 a8k:=.st Tryz.underlying130 (by kernel_rfl) (.c (by kernel_rfl) (.s Tryz.underlying9) (.e (by kernel_rfl) (.l Tryz.underlying128 (by kernel_rfl) (by decide) (.s Tryz.underlying9)))) (fun y=>⟨y.1,y.2⟩) fun _=>rfl
def c3m:OB 86 b4H:=.st Tryz.underlying86 (by kernel_rfl) (.c (by kernel_rfl) (.s Tryz.underlying9) (.c (by kernel_rfl) (.s Tryz.underlying9) (.c (by kernel_rfl) (.l Tryz.underlying84 (by kernel_rfl) (by decide) c91) (.e (by kernel_rfl) (.s Tryz.underlying9))))) (fun y=>⟨y.1,y.2.1,y.2.2.1,y.2.2.2⟩) fun _=>rfl
def c9P:OB 136 c04:=.st Tryz.underlying136 (by kernel_rfl) (.c (by kernel_rfl) (.s Tryz.underlying9) (.c (by kernel_rfl) (.z (w7 Tryz.underlying3)) (.e (by kernel_rfl) (.l Tryz.underlying33 (by kernel_rfl) (by decide) c3m)))) (fun y=>⟨y.1,y.2.1,y.2.2⟩) fun _=>rfl
def b7I:OB 35 b7c:=.st Tryz.underlying35 (by kernel_rfl) (.c (by kernel_rfl) b0x (.c (by kernel_rfl) (.l Tryz.underlying29 (by kernel_rfl) (by decide) b0x) (.c (by kernel_rfl) (.l Tryz.underlying30 (by kernel_rfl) (by decide) (.z (w7 Tryz.underlying3))) (.c (by kernel_rfl) (.l Tryz.underlying31 (by kernel_rfl) (by decide) c0O) (.c (by kernel_rfl) (.l Tryz.underlying29 (by kernel_rfl) (by decide) b0x) (.c (by kernel_rfl) (.l Tryz.underlying29 (by kernel_rfl) (by decide) b0x) (.c (by kernel_rfl) (.l Tryz.underlying29 (by kernel_rfl) (by decide) b0x) (.c (by kernel_rfl) (.l Tryz.underlying32 (by kernel_rfl) (by decide) c9P) (.e (by kernel_rfl) (.l Tryz.underlying33 (by kernel_rfl) (by decide) c3m)))))))))) (fun y=>⟨y.1,y.2.1,y.2.2.1,y.2.2.2.1,y.2.2.2.2.1,y.2.2.2.2.2.1,y.2.2.2.2.2.2.1,y.2.2.2.2.2.2.2.1,y.2.2.2.2.2.2.2.2⟩) fun _=>rfl
def b7W:OB 38 c6V:=.st Tryz.underlying38 (by kernel_rfl) (.c (by kernel_rfl) (.s Tryz.underlying9) (.c (by kernel_rfl) (.s Tryz.underlying9) (.c (by kernel_rfl) (.l Tryz.underlying22 (by kernel_rfl) (by decide) d1I) (.c (by kernel_rfl) b7I (.c (by kernel_rfl) (.l Tryz.underlying36 (by kernel_rfl) (by decide) b7I) (.e (by kernel_rfl) (.l Tryz.underlying33 (by kernel_rfl) (by decide) c3m))))))) (fun y=>⟨y.1,y.2.1,y.2.2.1,y.2.2.2.1,y.2.2.2.2.1,y.2.2.2.2.2⟩) fun _=>rfl
def a9T{α:Type}{k m:α->Nat}(h:∀x,k x<=m x):∀l:List α,(l.map k).sum<=(l.map m).sum
 |[]=>d5m _
 |a::r=>by have:=h a;have:=a9T h r;simp only[d6f,d8D];omega
def b5I{α:Type}(l:List α):(l.map fun _=>1).sum=l.length:=by
 induction l with
 |nil=>rfl
 |cons a r ih=>simp only[d6f,d8D,d5h];omega
def c7H(o:Go.Qu.F3)(t:Tm):2*(Go.Qu.a5J o t).length<=b7W.m o+4/\2*o.Main.b9.length<=b7W.m o/\o.Kind.length<=b7W.m o/\o.UID.length<=b7W.m o:=by
 have e:b7W.m o=o.Kind.length+1+(o.UID.length+1+(o.c9.length+(o.c9.map d1I.m).sum+1+(b7I.m o.Main+1+(o.Over.length+(o.Over.map b7I.m).sum+1+(o.Extra.length+(o.Extra.map c3m.m).sum+1))))):=rfl;have hl:∀l:List Go.Qu.E6,l.length<=(l.map b0x.m).sum:=fun l=>by
  have:=a9T (k:=fun _=>1) (m:=b0x.m) (fun x=>by show 1<=_+1+_;omega) l
  rwa [b5I]at this
 have hr:∀l:List Rl,l.length<=(l.map c0O.m).sum:=fun l=>by
  have:=a9T (k:=fun _=>1) (m:=c0O.m) (fun x=>by show 1<=_+1+_;omega) l
  rwa [b5I]at this
 have hi:∀x:Go.Qu.Q4,2*x.b9.length+2*x.o5.length+2*x.p8.length+1<=b7I.m x:=fun x=>by
  have h1:=hl x.o5;have h2:=hl x.p8;have h3:=hr x.b9;show _<=_+1+(_+1+(_+1+(x.b9.length+(x.b9.map c0O.m).sum+1+(x.o5.length+(x.o5.map b0x.m).sum+1+(_+1+(x.p8.length+(x.p8.map b0x.m).sum+1+_))))))
  omega
 have h0:=hi o.Main;have h1:=a9T (k:=fun x:Go.Qu.Q4=>1+2*x.p8.length) (m:=b7I.m) (fun x=>by have:=hi x;omega) o.Over;have h2:2*(o.Over.flatMap Go.Qu.a4s).length<=o.Over.length+(o.Over.map fun x:Go.Qu.Q4=>1+2*x.p8.length).sum:=by
  induction o.Over with
  |nil=>exact d5m _
  |cons a r ih =>
   have:(Go.Qu.a4s a).length=1+a.p8.length:=by unfold Go.Qu.a4s;simp;omega
   simp only[d7l,d4Y,d6f,d8D,d5h];omega
 have h3:=Go.Qu.b6q o t;omega
def lc1:(Rows.queryWithoutUptoRow.inPlace == Tryz.pinned.checked.prog.inPlace 4)=true:=by kernel_rfl
def lc2:(Rows.queryWithoutUptoRow.unfollowed == Tryz.pinned.checked.prog.unfollowed 4)=true:=by kernel_rfl
def lc3:(Rows.queryWithoutUptoRow.recurses == Tryz.pinned.checked.prog.recurses 4)=true:=by kernel_rfl
def lc4:(Rows.queryWithoutUptoRow.named == Tryz.pinned.checked.prog.varsNamed 4)=true:=by kernel_rfl
def lc5:joinedFacts Tryz.pinned.checked.prog 4 Tryz.f4 (Rows.OpenSpec.upto Rows.queryWithoutSpec).bare Rows.queryWithoutUptoRow=true:=by unfold joinedFacts;rw[lc1,lc2,lc3,lc4];kernel_rfl
end Go.Proofs.YtapnoejokajcoaaGreatDoor
