/- 18 texts, one behind the other. -/
import Derived.Test.YtapnoejokajcoaaGreatDoorX6
import Derived.Test.YtapnoejokajcoaaGreatDoorX3
import Derived.Test.YtapnoejokajcoaaGreatDoorX8
import Derived.Test.YtapnoejokajcoaaGreatDoorRows
import Derived.Test.YtapnoejokajcoaaGreatDoorX1
import Derived.ChangeSame
import Derived.ChangeVars
import Derived.JoinedOf
import Derived.RowKit
import Derived.RowKit2
import Derived.Carry
import Derived.ProofKit
import Derived.RowKitTokens
import Derived.LaidLaws
import Derived.LaidHandle
import Derived.Lay
import Derived.LaidMore
import Derived.Lib.LaidU8
import Derived.Stop.Joined
import Derived.Shelf.Vars
import Derived.Deep.DeepHandedRow
import Derived.Deep.DeepWitnessRowRef
import Derived.JoinedCond
set_option linter.defProp false
set_option linter.unusedVariables false
set_option linter.unusedSimpArgs false
set_option maxRecDepth 100000
noncomputable section
def d7i:=@exists_eq_or_imp
def d8f:=@List.sum_cons
namespace Go.Proofs.YtapnoejokajcoaaGreatDoor
open Go Go.Wk Go.Wl Go.Rx Go.Re Go.Li Go.Qu Go.Fo Go.Proofs Go.RowKit
def rd_ok{Z:Nat->Prop}{w:World}{cs:List Value}{x:Tm}(h:dTm.rd Z w cs x):cs=a1y x/\okT x:=by obtain⟨c0,_,rfl,⟨d0,_,rfl,g0,d1,d2,rfl,g1,g2⟩,c1,_,rfl,h1,c2,_,rfl,h2,c3,_,rfl,h3,c4,c5,rfl,h4,h5⟩:=h;have k0:=g0.1;have k1:=g1.1;have k2:=g2.1;have e1:=h1.1;have e2:=h2.1;have e3:=h3.1;have e4:c4=_:=h4;have e5:c5=_:=h5;subst k0 k1 k2 e1 e2 e3 e4 e5;exact⟨rfl,g0.2,g1.2,g2.2,h1.2,h2.2,h3.2⟩
def c51{x:Tm}(h:okT x)(Z:Nat->Prop)(w:World):dTm.rd Z w (a1y x) x:=by obtain⟨a,b,c,d,e,f⟩:=h;exact⟨_,_,rfl,⟨_,_,rfl,⟨rfl,a⟩,_,_,rfl,⟨rfl,b⟩,⟨rfl,c⟩⟩,_,_,rfl,⟨rfl,d⟩,_,_,rfl,⟨rfl,e⟩,_,_,rfl,⟨rfl,f⟩,_,_,rfl,rfl,rfl⟩
def c6T(emp:Bool)(t:Tm)(w:World):(Instr.checkKey emp 10000 26 (P3 t)).run Tryz.prog w=.ok () w:=by kernel_rfl
def b9k(w:World):(underlying 114).run Tryz.prog w=.ok (.map 26 4) w:=by kernel_rfl
def c6m(t:Tm):Instr.sameBits 10000 (P3 t) (P3 t)=true:=by
 have h:∀n,Instr.sameBits (n+1) (P3 t) (P3 t)=true:=fun n=>by simp[P3,a1y,Instr.sameBits]
 exact h 9999
def d2N{a b:Tm}(ha:okT a)(hb:okT b)(w:World):(Op.equal 26 (P3 a) (P3 b)).run Tryz.prog w=.ok (decide (a=b)) w:=by
 have hv:b36 E0 4 26 (y26.sv a) (y26.sv b)=some ⟨(a.Day.Year=b.Day.Year/\a.Day.Month=b.Day.Month/\a.Day.Date=b.Day.Date/\True)/\a.Hour=b.Hour/\a.Min=b.Min/\a.D6=b.D6/\(a.n5=true↔b.n5=true)/\(a.UTC=true↔b.UTC=true)/\True,inferInstance⟩:=by kernel_rfl
 have h:=eqVal_ok (E:=E0) (ρ:=fun _=>none) (Z:=fun _=>False) (w:=w) 4 26 (y26.sv a) (y26.sv b) _ _ (P3 a) (P3 b) hv (y26.sv_ok (c51 ha _ w)) (y26.sv_ok (c51 hb _ w)) 9996 w;refine Eq.trans h ?_;congr 1;exact d5r.2 teq
def a1s:List (Tm×Bool)->Tm->Nat->Option (Nat×Value)
 |[],_,_=>none
 |p::r,t,i=>if t=p.1 then some (i,.bool p.2)else a1s r t (i+1)
def c4F{t:Tm}(ht:okT t)(w:World):∀(es:List MapEntry) (x:List (Tm×Bool)) (i:Nat),es.map prM=(x.map fun p=>(P3 p.1,Value.bool p.2))->(∀p∈x,okT p.1)->(Instr.findAsking 26 (P3 t) es i).run Tryz.prog w=.ok (a1s x t i) w
 |[],x,i,h,_=>by
  cases x with
  |nil=>rfl
  |cons p r=>simp at h
 |e::es,x,i,h,hx=>by
  cases x with
  |nil=>simp at h
  |cons p r =>
   simp only[d5K,d6A,prM,d5f]at h;obtain⟨⟨h1,h2⟩,h3⟩:=h;simp only[Instr.findAsking,d4D,h1,d2N ht (hx p (by simp)),d4B,a1s];by_cases e:t=p.1
   . rw[d4K e,if_pos rfl,if_pos e,h2];rfl
   . rw[d4V e,if_neg d5u,if_neg e];exact c4F ht w es r (i+1) h3 fun q hq=>hx q (by simp[hq])
def c7o(w:World):∃fs,(underlying 26).run Tryz.prog w=.ok (.struct fs) w:=by
 have h:(match Tryz.prog.underlying 26 with|some (.struct _)=>true|_=>false)=true:=by kernel_rfl
 cases hu:Tryz.prog.underlying 26 with
 |none=>rw[hu]at h;cases h
 |some d =>
  rw[hu]at h;cases d <;> first|cases h;done|exact⟨_,J8 hu w⟩
def c1G{t:Tm}(ht:okT t)(w:World){es:List MapEntry}{x:List (Tm×Bool)}(h:es.map prM=(x.map fun p=>(P3 p.1,Value.bool p.2)))(hx:∀p∈x,okT p.1):(Instr.findKey 26 (P3 t) es).run Tryz.prog w=.ok (a1s x t 0) w:=by
 obtain⟨fs,hf⟩:=c7o w;simp only[Instr.findKey,d4D,hf,d4B];cases es with
 |nil =>
  cases x with
  |nil=>rfl
  |cons p r=>simp at h
 |cons e es=>exact c4F ht w (e::es) x 0 h hx
def b2K(t:Tm):∀(x:List (Tm×Bool)) (i:Nat),(match a1s x t i with|some (_,v)=>v|none=>.bool false)=Value.bool (getM x t)
 |[],_=>rfl
 |p::r,i=>by
  rw[a1s,getM];by_cases e:t=p.1
  . rw[if_pos e,if_pos e]
  . rw[if_neg e,if_neg e];exact b2K t r (i+1)
def c9d(w:World):(zeroValue 4).run Tryz.prog w=.ok (.bool false) w:=by kernel_rfl
def c6G{w w1:World}{b:Nat}{x:List (Tm×Bool)}{t:Tm}(h:b6E w b x)(ht:okT t)(hs:F1 w w1):(Instr.lookup 114 (.map (some b)) (P3 t) false).run Tryz.prog w1=.ok (.bool (getM x t)) w1:=by
 obtain⟨es,clk,hh,hp,hx⟩:=h;have hh1:w1.heap[b]?=some (.map es clk):=by rw[F1.heap hs];exact hh
 simp only[Instr.lookup,d4D,b9k,d4B,a3L hh1 (by simp),d5s,c6T,c1G ht w1 hp hx];have e:=b2K t x 0;cases hf:a1s x t 0 with
 |none =>
  rw[hf]at e;simp only[d4D,c9d,d4B,d5s,d5D,if_false,<- e]
 |some q =>
  rw[hf]at e;simp only[d4D,d5s,d4B,d5D,if_false,<- e]
def b3s{t:Tm}{v:Bool}:∀{es:List MapEntry}{x:List (Tm×Bool)}{i:Nat}{q:Nat×Value},es.map prM=(x.map fun p=>(P3 p.1,Value.bool p.2))->a1s x t i=some q->∃j,q.1=i+j/\((es[j]?).map (·.key)).getD (P3 t)=P3 t/\((es.modify j fun e=>{ e with key:=P3 t,val:=.bool v }).map prM)=((a36 x t v).map fun p=>(P3 p.1,Value.bool p.2))
 |es,[],i,q,h,hf=>by cases hf
 |[],p::r,i,q,h,hf=>by simp at h
 |e::es,p::r,i,q,h,hf=>by
  simp only[d5K,d6A,prM,d5f]at h;obtain⟨⟨h1,h2⟩,h3⟩:=h;rw[a1s]at hf;rw[a36];by_cases e0:t=p.1
  . rw[if_pos e0]at hf;cases hf;refine⟨0,rfl,by simp[h1,e0],?_⟩;rw[if_pos e0];simp only[List.modify_zero_cons,d5K,prM];exact congrArg _ h3
  . rw[if_neg e0]at hf;obtain⟨j,g1,g2,g3⟩:=b3s h3 hf;refine⟨j+1,by omega,by simpa using g2,?_⟩;rw[if_neg e0];simp only[List.modify_succ_cons,d5K,prM,h1,h2];exact congrArg _ g3
def b2u{t:Tm}{v:Bool}:∀{x:List (Tm×Bool)}{i:Nat},a1s x t i=none->a36 x t v=x++[(t,v)]
 |[],_,_=>rfl
 |p::r,i,h=>by
  rw[a1s]at h;by_cases e:t=p.1
  . rw[if_pos e]at h;cases h
  . rw[if_neg e]at h;rw[a36,if_neg e,b2u h];rfl
def put_ok{t:Tm}{v:Bool}(ht:okT t):∀{x:List (Tm×Bool)},(∀p∈x,okT p.1)->∀p∈a36 x t v,okT p.1
 |[],_,p,hp=>by rw[a36,d4G]at hp;rw[hp];exact ht
 |q::r,hx,p,hp=>by
  rw[a36]at hp;split at hp
  . rcases d4S.1 hp with e|e
    . rw[e];exact ht
    . exact hx p (by simp[e])
  . rcases d4S.1 hp with e|e
    . rw[e];exact hx q (by simp)
    . exact put_ok ht (fun p hp=>hx p (by simp[hp])) p e
def d1F{w:World}{b:Nat}{x:List (Tm×Bool)}{t:Tm}{v:Bool}(h:b6E w b x)(ht:okT t):∃w',Ext [b] w w'/\b6E w' b (a36 x t v)/\∀k,(Instr.mapUpdate 114 (.map (some b)) (P3 t) (.bool v)).run Tryz.prog { w with drawn:=k }=.ok () { w' with drawn:=k }:=by
 obtain⟨es,clk,hh,hp,hx⟩:=h;have hstay:∀w,(Instr.keyThatStays (P3 t) (P3 t)).run Tryz.prog w=.ok (P3 t) w:=fun w=>by simp only[Instr.keyThatStays,c6m,if_true];rfl
 cases hf:a1s x t 0 with
 |some q =>
  obtain⟨j,g1,g2,g3⟩:=b3s (v:=v) hp hf;have hq:q=(j,q.2):=by rw[<- show q.1=j by omega]
  refine⟨{ w with heap:=w.heap.setIfInBounds b (.map (es.modify j fun e=>{ e with key:=P3 t,val:=.bool v }) clk) },Ext.setObj w b _,⟨_,clk,a71 hh,by simpa using g3,put_ok ht hx⟩,fun k=>?_⟩;have g2':((es[j]?).map (·.key)).getD (P3 t)=P3 t:=by simpa using g2
  simp only[Instr.mapUpdate,d4D,b9k,d4B,a3L (w:={ w with drawn:=k }) hh (by simp),c6T,c1G ht { w with drawn:=k } hp hx,hf];rw[hq];simp only[d4D,g2',hstay,d4B,a8e (w:={ w with drawn:=k }) hh (by simp)]
 |none =>
  refine⟨{ w with heap:=w.heap.setIfInBounds b (.map (es.push { key:=P3 t,val:=.bool v,born:=clk }) (clk+1)) },Ext.setObj w b _,⟨_,clk+1,a71 hh,?_,put_ok ht hx⟩,fun k=>?_⟩
  . rw[b2u hf];simp[hp,prM]
  . simp only[Instr.mapUpdate,d4D,b9k,d4B,a3L (w:={ w with drawn:=k }) hh (by simp),c6T,c1G ht { w with drawn:=k } hp hx,hf,a8e (w:={ w with drawn:=k }) hh (by simp)]
def keyOf(sk:SV U):Option Tm:=match sk with
 |.agg ls=>y26.bk (.agg ls)
 |_=>none
def b6J{ρ:o5}{Z:Nat->Prop}{w:World}{vk:Value}{sk:SV U}{t:Tm}(h:e7 U eT ρ Z w vk sk)(hb:keyOf sk=some t):vk=P3 t/\okT t:=by
 cases sk with
 |agg ls =>
  obtain⟨cs,rfl,hl⟩:=e7.E1 h;obtain⟨e,ho⟩:=rd_ok (y26.bk_ok (s:=.agg ls) hl hb);exact⟨by rw[e];rfl,ho⟩
 |_=>cases hb
def b9U{ρ:o5}{Z:Nat->Prop}{w:World}{v:Value}{s:SV U}{p:Prop}{d:Decidable p}(h:e7 U eT ρ Z w v s)(hp:prop s=some ⟨p,d⟩):v=.bool (@decide p d):=by cases h <;> first|(cases hp;done)|(cases hp;rfl)
def moT:MO Tryz.prog U eT 114 where
 k:=2
 emp:=([]:List (Tm×Bool))
 get:=fun(x:List (Tm×Bool)) sk=>(keyOf sk).map fun t=>H9 (getM x t)
 put:=fun(x:List (Tm×Bool)) sk s=>(keyOf sk).bind fun t=>(match prop s with|some ⟨p,d⟩=>some (a36 x t (@decide p d))|none=>none)
 new:=fun Z w b h=>⟨rfl,#[],0,h,rfl,fun _ h=>by cases h⟩
 look:=fun{ρ Z w b x F vk sk v'} h hk hg=>by obtain⟨t,hb,rfl⟩:=d4M.1 hg;obtain⟨rfl,ht⟩:=b6J hk hb;exact⟨.bool (getM x t),ClX.bl,fun w1 hs=>c6G h.2 ht hs⟩
 D2:=fun{ρ Z w b x x' F vk v sk s} h hk hv hg=>by
  obtain⟨t,hb,hg⟩:=d4O.1 hg;obtain⟨rfl,ht⟩:=b6J hk hb;split at hg
  . rename_i p d hp;cases hg;rw[b9U hv hp];obtain⟨hF,hm⟩:=h;subst hF;obtain⟨w',hx,hm',hr⟩:=d1F (v:=@decide p d) hm ht;exact⟨w',[b],⟨hx,fun b hb=>.inl hb⟩,⟨rfl,hm'⟩,fun w1 hs=>by obtain⟨k,rfl⟩:=hs;exact⟨_,hr k,⟨k,rfl⟩⟩⟩
  . cases hg
def N61:Env:=(Nti).c2d 114 moT
def N61_ok:c8 N61:=Nti_ok.c2d moT
end Go.Proofs.YtapnoejokajcoaaGreatDoor
namespace Go.Qu
open Go Go.Wk Go.Wl Go.Rx Go.Re Go.Li Go.Fo
noncomputable section
def K4(x:R1):Tm:=(ix x.p5 0).Time
def ovM(qa:Nat)(o:F3):List (Tm×Bool)->List R1->List (Tm×Bool)×l8
 |m,[]=>(m,.nil)
 |m,x::r=>if(Y5 qa o (K4 x)).2=.nil then ovM qa o (a36 m (K4 x) (Y5 qa o (K4 x)).1) r else(m,(Y5 qa o (K4 x)).2)
abbrev Wn:=List Ins×Bool
def mkI(s:Tm)(n:Int)(k:Tm)(v:Bool):Ins:=⟨s,K8 (b8 s+n) s,k,v⟩
def J0(a b:Int)(w:Wn)(s:Tm)(n:Int)(k:Tm)(v:Bool):Wn:=
 if b<=b8 s∨(b8 s+n<=a/\(0<n∨b8 s<a))then w else
 if(K8 (b8 s+n) s).Day.Year=0 then(w.1,true)else(w.1++[mkI s n k v],w.2)
def moI(o:F3)(t:Tm):I8:=⟨t,o.Main.Start.I3⟩
def ga1(qa:Nat)(o:F3)(a b:Int)(mp:List (Tm×Bool)):Wn->List Tm->Wn×l8
 |w,[]=>(w,.nil)
 |w,t::r=>if getM mp t=true then ga1 qa o a b mp w r else
  if(w6 qa o (moI o t)).2=.nil then ga1 qa o a b mp (J0 a b w (w6 qa o (moI o t)).1 (A8 o.Main) t false) r else(w,(w6 qa o (moI o t)).2)
def ga2(qa:Nat)(o:F3)(a b:Int)(mp:List (Tm×Bool)):Wn->List R1->Wn×l8
 |w,[]=>(w,.nil)
 |w,x::r=>if ¬getM mp (K4 x)=true then ga2 qa o a b mp w r else
  if(w6 qa o x.Start).2=.nil then ga2 qa o a b mp (J0 a b w (w6 qa o x.Start).1 (A8 x) (K4 x) true) r else(w,(w6 qa o x.Start).2)
def gaS(qa:Nat)(o:F3)(a b:Int):Wn×l8:=
 if(ovM qa o [] o.Over).2=.nil then
  if(P4 qa o a b).2=.nil then
   if(ga1 qa o a b (ovM qa o [] o.Over).1 ([],false) (P4 qa o a b).1).2=.nil then ga2 qa o a b (ovM qa o [] o.Over).1 (ga1 qa o a b (ovM qa o [] o.Over).1 ([],false) (P4 qa o a b).1).1 o.Over
   else ga1 qa o a b (ovM qa o [] o.Over).1 ([],false) (P4 qa o a b).1
  else(([],false),(P4 qa o a b).2)
 else(([],false),(ovM qa o [] o.Over).2)
def c2M(o:F3)(f t:Tm):Prop:=a0s o/\o7 f=true/\o7 t=true/\f.UTC=true/\t.UTC=true/\b8 f<=b8 t
open Classical in
def J5(qa:Nat)(o:F3)(f t:Tm):List Ins×l8:=
 if c2M o f t then
  if(P4 qa o (b8 f) (b8 t)).2=.nil then
   if(gaS qa o (b8 f) (b8 t)).2=.nil then
    if(gaS qa o (b8 f) (b8 t)).1.2=true then([],.no 3)else
    if 1000<(gaS qa o (b8 f) (b8 t)).1.1.length then([],.no 16)else
    (a9T (gaS qa o (b8 f) (b8 t)).1.1,.nil)
   else([],U6 (gaS qa o (b8 f) (b8 t)).2)
  else([],U6 (P4 qa o (b8 f) (b8 t)).2)
 else([],.no 2)
def d3m(l:List Ins):Prop:=∀x∈l,∀y∈l,b8 x.Start=b8 y.Start->b8 x.u9=b8 y.u9->x=y
def b2t(a b:Int)(w:Wn)(s:Tm)(n:Int)(k:Tm)(v:Bool):(J0 a b w s n k v).1.length<=w.1.length+1:=by
 unfold J0;split
 . omega
 . split
   . dsimp only;omega
   . rw[d4E];exact d4R _
def a7F(l:List Ins):(a9T l).length=l.length:=(d6i l _).length_eq
def b1n{l:List Ins}{x:Ins}:x∈a9T l↔x∈l:=(d6i l _).mem_iff
end
end Go.Qu
namespace Go.Proofs.YtapnoejokajcoaaGreatDoor
open Go Go.Wk Go.Wl Go.Rx Go.Re Go.Li Go.Qu Go.Fo 
attribute [local irreducible] i7
def c5k:Nat->D1:=fun|65=>⟨68,nn,nn⟩|_=>⟨0,nn,nn⟩
def d2m(sy:Int)(sm:Int)(sd:Int)(sh:Int)(si:Int)(ss:Int)(sb:Prop)(sB:Decidable sb)(su:Prop)(sV:Decidable su)(n:Int)(ky:Int)(km:Int)(kd:Int)(kh:Int)(ki:Int)(ks:Int)(kb:Prop)(kB:Decidable kb)(ku:Prop)(kV:Decidable ku)(a:Int)(b:Int)(pc:Prop)(dc:Decidable pc)(l:List Ins)(Q:Int->Int->List Ins->Bool->Prop):Prop:=
(¬b<=b8 (Tm.mk (Dy.mk sy sm sd) sh si ss (decide sb) (decide su))->c6 (b8 (Tm.mk (Dy.mk sy sm sd) sh si ss (decide sb) (decide su))+n))/\(bR (b<=b8 (Tm.mk (Dy.mk sy sm sd) sh si ss (decide sb) (decide su))∨b8 (Tm.mk (Dy.mk sy sm sd) sh si ss (decide sb) (decide su))+n<=a/\(0<n∨b8 (Tm.mk (Dy.mk sy sm sd) sh si ss (decide sb) (decide su))<a)) (Q a b l (decide pc)) (c6 (b8 (Tm.mk (Dy.mk sy sm sd) sh si ss (decide sb) (decide su))+n)/\b8 (Tm.mk (Dy.mk sy sm sd) sh si ss (decide sb) (decide su))+n<=9000000000000000000/\(bR ((K8 (b8 (Tm.mk (Dy.mk sy sm sd) sh si ss (decide sb) (decide su))+n) (Tm.mk (Dy.mk sy sm sd) sh si ss (decide sb) (decide su))).Day.Year=0) (Q a b l true) ((l.length+[Ins.mk (Tm.mk (Dy.mk sy sm sd) sh si ss (decide sb) (decide su)) (j6 (K8 (b8 (Tm.mk (Dy.mk sy sm sd) sh si ss (decide sb) (decide su))+n) (Tm.mk (Dy.mk sy sm sd) sh si ss (decide sb) (decide su)))) (Tm.mk (Dy.mk ky km kd) kh ki ks (decide kb) (decide ku)) false].length)*(some (176:Nat)).getD (0:Nat)<=140737488355328/\Q a b (l++[Ins.mk (Tm.mk (Dy.mk sy sm sd) sh si ss (decide sb) (decide su)) (j6 (K8 (b8 (Tm.mk (Dy.mk sy sm sd) sh si ss (decide sb) (decide su))+n) (Tm.mk (Dy.mk sy sm sd) sh si ss (decide sb) (decide su)))) (Tm.mk (Dy.mk ky km kd) kh ki ks (decide kb) (decide ku)) false]) (decide pc)))))
def d2S(sy:Int)(sm:Int)(sd:Int)(sh:Int)(si:Int)(ss:Int)(sb:Prop)(sB:Decidable sb)(su:Prop)(sV:Decidable su)(n:Int)(ky:Int)(km:Int)(kd:Int)(kh:Int)(ki:Int)(ks:Int)(kb:Prop)(kB:Decidable kb)(ku:Prop)(kV:Decidable ku)(a:Int)(b:Int)(pc:Prop)(dc:Decidable pc)(l:List Ins)(h1:-1000000000000000<=b8 (Tm.mk (Dy.mk sy sm sd) sh si ss (decide sb) (decide su))+n)(h2:b8 (Tm.mk (Dy.mk sy sm sd) sh si ss (decide sb) (decide su))+n<=1000000000000000)(h3:List.length (α:=Ins) l<=100000):d2m sy sm sd sh si ss sb sB su sV n ky km kd kh ki ks kb kB ku kV a b pc dc l (fun y0 y1 y2 y3=>y0=a/\y1=b/\y2=(J0 a b (l,decide pc) (Tm.mk (Dy.mk sy sm sd) sh si ss (decide sb) (decide su)) n (Tm.mk (Dy.mk ky km kd) kh ki ks (decide kb) (decide ku)) false).1/\y3=(J0 a b (l,decide pc) (Tm.mk (Dy.mk sy sm sd) sh si ss (decide sb) (decide su)) n (Tm.mk (Dy.mk ky km kd) kh ki ks (decide kb) (decide ku)) false).2):=by
 unfold d2m;simp only[y6,A7,B3,C9,C6,C5,C4,C3,C2,D0,B7,d4F];generalize Tm.mk (Dy.mk sy sm sd) sh si ss (decide sb) (decide su)=s at *;generalize Tm.mk (Dy.mk ky km kd) kh ki ks (decide kb) (decide ku)=k at *;have hi:c6 (b8 s+n):=by unfold c6;omega
 refine⟨fun _=>hi,fun h=>?_,fun h=>⟨hi,by omega,fun z=>?_,fun z=>⟨?_,?_⟩⟩⟩
 . have e:J0 a b (l,decide pc) s n k false=(l,decide pc):=by unfold J0;rw[if_pos h]
   rw[e];exact⟨trivial,trivial,rfl,rfl⟩
 . have e:J0 a b (l,decide pc) s n k false=(l,true):=by unfold J0;rw[if_neg h,if_pos z]
   rw[e];exact⟨trivial,trivial,rfl,rfl⟩
 . show(l.length+1)*176<=_;omega
 . have e:J0 a b (l,decide pc) s n k false=(l++[mkI s n k false],decide pc):=by unfold J0;rw[if_neg h,if_neg z]
   rw[e];exact⟨trivial,trivial,rfl,rfl⟩
def d1v(sy:Int)(sm:Int)(sd:Int)(sh:Int)(si:Int)(ss:Int)(sb:Prop)(sB:Decidable sb)(su:Prop)(sV:Decidable su)(n:Int)(ky:Int)(km:Int)(kd:Int)(kh:Int)(ki:Int)(ks:Int)(kb:Prop)(kB:Decidable kb)(ku:Prop)(kV:Decidable ku)(a:Int)(b:Int)(pc:Prop)(dc:Decidable pc)(l:List Ins):FR U:=b51 N61 [-1000000000000000<=b8 (Tm.mk (Dy.mk sy sm sd) sh si ss (decide sb) (decide su))+n,b8 (Tm.mk (Dy.mk sy sm sd) sh si ss (decide sb) (decide su))+n<=1000000000000000,List.length (α:=Ins) l<=100000] [(0,.own 70 [.int .i64 a,.int .i64 b,.acc 1,.bl pc dc]),(1,.ac (N:=U) 48 l)] 4 0 [.tree [] [.own (some 200) 70 [.v (.int .i64),.v (.int .i64),.v (.acc 48),.v (.bool)]]] (((a,b,(J0 a b (l,decide pc) (Tm.mk (Dy.mk sy sm sd) sh si ss (decide sb) (decide su)) n (Tm.mk (Dy.mk ky km kd) kh ki ks (decide kb) (decide ku)) false).1,(J0 a b (l,decide pc) (Tm.mk (Dy.mk sy sm sd) sh si ss (decide sb) (decide su)) n (Tm.mk (Dy.mk ky km kd) kh ki ks (decide kb) (decide ku)) false).2,()),()),())
def c0F:FC U:=⟨[],[],fun a its=>match a,its with|[.ref 0 0,.agg [.int .i64 sy,.int .i64 sm,.int .i64 sd,.int .i64 sh,.int .i64 si,.int .i64 ss,.bl sb sB,.bl su sV],.int .i64 n,.agg [.int .i64 ky,.int .i64 km,.int .i64 kd,.int .i64 kh,.int .i64 ki,.int .i64 ks,.bl kb kB,.bl ku kV],.ff],[(0,.own 70 [.int .i64 a,.int .i64 b,.acc 1,.bl pc dc]),(1,.ac 48 l)]=>some (d1v sy sm sd sh si ss sb sB su sV n ky km kd kh ki ks kb kB ku kV a b pc dc l)|_,_=>none⟩
def fptf_ok(args:List (SV U))(its:c7 U)(r:FR U)(h:c0F.C args its=some r)(ho:p9 r.ob):M4 Tryz.prog U eT Gl 65 args its (2*its.length) (fun k=>p9 r.hy->k r.v r.its r.n):=by
 unfold c0F at h;simp only at h;split at h
 . rename_i sy sm sd sh si ss sb sB su sV n ky km kd kh ki ks kb kB ku kV a b pc dc l;cases h;exact fc_ok (an:=c5k 65) N61_ok (inlHN_ok N61_ok H0_ok c5k 3) Tryz.func65 (n:=0) rfl (vs:=[.tree [] [.own (some 200) 70 [.v (.int .i64),.v (.int .i64),.v (.acc 48),.v (.bool)]]]) (X:=(((a,b,(J0 a b (l,decide pc) (Tm.mk (Dy.mk sy sm sd) sh si ss (decide sb) (decide su)) n (Tm.mk (Dy.mk ky km kd) kh ki ks (decide kb) (decide ku)) false).1,(J0 a b (l,decide pc) (Tm.mk (Dy.mk sy sm sd) sh si ss (decide sb) (decide su)) n (Tm.mk (Dy.mk ky km kd) kh ki ks (decide kb) (decide ku)) false).2,()),()),())) rfl (kc (d2S sy sm sd sh si ss sb sB su sV n ky km kd kh ki ks kb kB ku kV a b pc dc l ho.1 ho.2.1 ho.2.2.1) (by kernel_rfl))
 . cases h
def c72:Env:=(N61.y7 65 Tryz.f65).a1C 65 c0F
def Nptf_ok:c8 c72:=(N61_ok.y7 Tryz.call65 Tryz.func65).a1C Tryz.call65 fptf_ok
def c5s:Nat->D1:=fun|65=>⟨68,nn,nn⟩|_=>⟨0,nn,nn⟩
def d00(sy:Int)(sm:Int)(sd:Int)(sh:Int)(si:Int)(ss:Int)(sb:Prop)(sB:Decidable sb)(su:Prop)(sV:Decidable su)(n:Int)(ky:Int)(km:Int)(kd:Int)(kh:Int)(ki:Int)(ks:Int)(kb:Prop)(kB:Decidable kb)(ku:Prop)(kV:Decidable ku)(a:Int)(b:Int)(pc:Prop)(dc:Decidable pc)(l:List Ins)(Q:Int->Int->List Ins->Bool->Prop):Prop:=
(¬b<=b8 (Tm.mk (Dy.mk sy sm sd) sh si ss (decide sb) (decide su))->c6 (b8 (Tm.mk (Dy.mk sy sm sd) sh si ss (decide sb) (decide su))+n))/\(bR (b<=b8 (Tm.mk (Dy.mk sy sm sd) sh si ss (decide sb) (decide su))∨b8 (Tm.mk (Dy.mk sy sm sd) sh si ss (decide sb) (decide su))+n<=a/\(0<n∨b8 (Tm.mk (Dy.mk sy sm sd) sh si ss (decide sb) (decide su))<a)) (Q a b l (decide pc)) (c6 (b8 (Tm.mk (Dy.mk sy sm sd) sh si ss (decide sb) (decide su))+n)/\b8 (Tm.mk (Dy.mk sy sm sd) sh si ss (decide sb) (decide su))+n<=9000000000000000000/\(bR ((K8 (b8 (Tm.mk (Dy.mk sy sm sd) sh si ss (decide sb) (decide su))+n) (Tm.mk (Dy.mk sy sm sd) sh si ss (decide sb) (decide su))).Day.Year=0) (Q a b l true) ((l.length+[Ins.mk (Tm.mk (Dy.mk sy sm sd) sh si ss (decide sb) (decide su)) (j6 (K8 (b8 (Tm.mk (Dy.mk sy sm sd) sh si ss (decide sb) (decide su))+n) (Tm.mk (Dy.mk sy sm sd) sh si ss (decide sb) (decide su)))) (Tm.mk (Dy.mk ky km kd) kh ki ks (decide kb) (decide ku)) true].length)*(some (176:Nat)).getD (0:Nat)<=140737488355328/\Q a b (l++[Ins.mk (Tm.mk (Dy.mk sy sm sd) sh si ss (decide sb) (decide su)) (j6 (K8 (b8 (Tm.mk (Dy.mk sy sm sd) sh si ss (decide sb) (decide su))+n) (Tm.mk (Dy.mk sy sm sd) sh si ss (decide sb) (decide su)))) (Tm.mk (Dy.mk ky km kd) kh ki ks (decide kb) (decide ku)) true]) (decide pc)))))
def d4n(sy:Int)(sm:Int)(sd:Int)(sh:Int)(si:Int)(ss:Int)(sb:Prop)(sB:Decidable sb)(su:Prop)(sV:Decidable su)(n:Int)(ky:Int)(km:Int)(kd:Int)(kh:Int)(ki:Int)(ks:Int)(kb:Prop)(kB:Decidable kb)(ku:Prop)(kV:Decidable ku)(a:Int)(b:Int)(pc:Prop)(dc:Decidable pc)(l:List Ins)(h1:-1000000000000000<=b8 (Tm.mk (Dy.mk sy sm sd) sh si ss (decide sb) (decide su))+n)(h2:b8 (Tm.mk (Dy.mk sy sm sd) sh si ss (decide sb) (decide su))+n<=1000000000000000)(h3:List.length (α:=Ins) l<=100000):d00 sy sm sd sh si ss sb sB su sV n ky km kd kh ki ks kb kB ku kV a b pc dc l (fun y0 y1 y2 y3=>y0=a/\y1=b/\y2=(J0 a b (l,decide pc) (Tm.mk (Dy.mk sy sm sd) sh si ss (decide sb) (decide su)) n (Tm.mk (Dy.mk ky km kd) kh ki ks (decide kb) (decide ku)) true).1/\y3=(J0 a b (l,decide pc) (Tm.mk (Dy.mk sy sm sd) sh si ss (decide sb) (decide su)) n (Tm.mk (Dy.mk ky km kd) kh ki ks (decide kb) (decide ku)) true).2):=by
 unfold d00;simp only[y6,A7,B3,C9,C6,C5,C4,C3,C2,D0,B7,d4F];generalize Tm.mk (Dy.mk sy sm sd) sh si ss (decide sb) (decide su)=s at *;generalize Tm.mk (Dy.mk ky km kd) kh ki ks (decide kb) (decide ku)=k at *;have hi:c6 (b8 s+n):=by unfold c6;omega
 refine⟨fun _=>hi,fun h=>?_,fun h=>⟨hi,by omega,fun z=>?_,fun z=>⟨?_,?_⟩⟩⟩
 . have e:J0 a b (l,decide pc) s n k true=(l,decide pc):=by unfold J0;rw[if_pos h]
   rw[e];exact⟨trivial,trivial,rfl,rfl⟩
 . have e:J0 a b (l,decide pc) s n k true=(l,true):=by unfold J0;rw[if_neg h,if_pos z]
   rw[e];exact⟨trivial,trivial,rfl,rfl⟩
 . show(l.length+1)*176<=_;omega
 . have e:J0 a b (l,decide pc) s n k true=(l++[mkI s n k true],decide pc):=by unfold J0;rw[if_neg h,if_neg z]
   rw[e];exact⟨trivial,trivial,rfl,rfl⟩
def d0y(sy:Int)(sm:Int)(sd:Int)(sh:Int)(si:Int)(ss:Int)(sb:Prop)(sB:Decidable sb)(su:Prop)(sV:Decidable su)(n:Int)(ky:Int)(km:Int)(kd:Int)(kh:Int)(ki:Int)(ks:Int)(kb:Prop)(kB:Decidable kb)(ku:Prop)(kV:Decidable ku)(a:Int)(b:Int)(pc:Prop)(dc:Decidable pc)(l:List Ins):FR U:=b51 c72 [-1000000000000000<=b8 (Tm.mk (Dy.mk sy sm sd) sh si ss (decide sb) (decide su))+n,b8 (Tm.mk (Dy.mk sy sm sd) sh si ss (decide sb) (decide su))+n<=1000000000000000,List.length (α:=Ins) l<=100000] [(0,.own 70 [.int .i64 a,.int .i64 b,.acc 1,.bl pc dc]),(1,.ac (N:=U) 48 l)] 4 0 [.tree [] [.own (some 200) 70 [.v (.int .i64),.v (.int .i64),.v (.acc 48),.v (.bool)]]] (((a,b,(J0 a b (l,decide pc) (Tm.mk (Dy.mk sy sm sd) sh si ss (decide sb) (decide su)) n (Tm.mk (Dy.mk ky km kd) kh ki ks (decide kb) (decide ku)) true).1,(J0 a b (l,decide pc) (Tm.mk (Dy.mk sy sm sd) sh si ss (decide sb) (decide su)) n (Tm.mk (Dy.mk ky km kd) kh ki ks (decide kb) (decide ku)) true).2,()),()),())
def c1y:FC U:=⟨[],[],fun a its=>match a,its with|[.ref 0 0,.agg [.int .i64 sy,.int .i64 sm,.int .i64 sd,.int .i64 sh,.int .i64 si,.int .i64 ss,.bl sb sB,.bl su sV],.int .i64 n,.agg [.int .i64 ky,.int .i64 km,.int .i64 kd,.int .i64 kh,.int .i64 ki,.int .i64 ks,.bl kb kB,.bl ku kV],.tt],[(0,.own 70 [.int .i64 a,.int .i64 b,.acc 1,.bl pc dc]),(1,.ac 48 l)]=>some (d0y sy sm sd sh si ss sb sB su sV n ky km kd kh ki ks kb kB ku kV a b pc dc l)|_,_=>none⟩
def fptt_ok(args:List (SV U))(its:c7 U)(r:FR U)(h:c1y.C args its=some r)(ho:p9 r.ob):M4 Tryz.prog U eT Gl 65 args its (2*its.length) (fun k=>p9 r.hy->k r.v r.its r.n):=by
 unfold c1y at h;simp only at h;split at h
 . rename_i sy sm sd sh si ss sb sB su sV n ky km kd kh ki ks kb kB ku kV a b pc dc l;cases h;exact fc_ok (an:=c5s 65) Nptf_ok (inlHN_ok Nptf_ok H0_ok c5s 3) Tryz.func65 (n:=0) rfl (vs:=[.tree [] [.own (some 200) 70 [.v (.int .i64),.v (.int .i64),.v (.acc 48),.v (.bool)]]]) (X:=(((a,b,(J0 a b (l,decide pc) (Tm.mk (Dy.mk sy sm sd) sh si ss (decide sb) (decide su)) n (Tm.mk (Dy.mk ky km kd) kh ki ks (decide kb) (decide ku)) true).1,(J0 a b (l,decide pc) (Tm.mk (Dy.mk sy sm sd) sh si ss (decide sb) (decide su)) n (Tm.mk (Dy.mk ky km kd) kh ki ks (decide kb) (decide ku)) true).2,()),()),())) rfl (kc (d4n sy sm sd sh si ss sb sB su sV n ky km kd kh ki ks kb kB ku kV a b pc dc l ho.1 ho.2.1 ho.2.2.1) (by kernel_rfl))
 . cases h
def c90:Env:=(c72.y7 65 Tryz.f65).a1C 65 c1y
def Nptt_ok:c8 c90:=(Nptf_ok.y7 Tryz.call65 Tryz.func65).a1C Tryz.call65 fptt_ok
def orF(f g:FC U):FC U:=⟨[],[],fun a its=>match f.C a its with|some r=>some r|none=>g.C a its⟩
def fpt:FC U:=orF c0F c1y
def fpt_ok(args:List (SV U))(its:c7 U)(r:FR U)(h:fpt.C args its=some r)(ho:p9 r.ob):M4 Tryz.prog U eT Gl 65 args its (2*its.length) (fun k=>p9 r.hy->k r.v r.its r.n):=by
 have h:(match c0F.C args its with|some r=>some r|none=>c1y.C args its)=some r:=h;split at h
 . rename_i x hx;cases h;exact fptf_ok args its _ hx ho
 . exact fptt_ok args its r h ho
def Npt:Env:=c90.a1C 65 fpt
def Npt_ok:c8 Npt:=Nptt_ok.a1C Tryz.call65 fpt_ok
def d2H:Env:=Npt.y7 28 Tryz.f28
def NI28_ok:c8 d2H:=Npt_ok.y7 Tryz.call28 Tryz.func28
end Go.Proofs.YtapnoejokajcoaaGreatDoor
namespace Go.Qu
open Go Go.Wk Go.Wl Go.Rx Go.Re Go.Li Go.Fo
noncomputable section
def BIG:Int:=315537897600
def c2s(s:Tm)(r:Rl)(u:Int):Prop:=u∈(H8 s r (u4 s.Day) 0 BIG).1
def c49{s:Tm}{r:Rl}{a b x:Tm}(h:(J3 s r a b).2=.nil):x∈(J3 s r a b).1↔∃u,c2s s r u/\b8 a<=u/\u<b8 b/\x=K8 u s:=by
 have hx:b5u s r a b:=exp_ok (by rw[h];rfl);obtain⟨hF,ha,hb⟩:=a9A hx.bad;have a0:=(x9 ha).1;have b1:=(x9 hb).2;have e1:=(b9A (day:=u4 s.Day) (fr:=0) (m:=b8 a) (tw:=b8 b) hF (d4T 0) a0).1;have e2:=(c06 (day:=u4 s.Day) (fr:=0) (m:=b8 b) (tw:=BIG) hF (d4T 0) (by unfold BIG;omega)).1;rw[b5f hx];dsimp only;rw[a5X,d6c];have e3:(a2U s r a b).1=(H8 s r (u4 s.Day) (b8 a) (b8 b)).1:=rfl;rw[e3,e1,e2];unfold c2s;constructor
 . rintro⟨u,hu,rfl⟩;obtain⟨h1,h2⟩:=d5a.1 hu;obtain⟨h3,h4⟩:=d5a.1 h1;exact⟨u,h3,a1P.1 h2,lt_iff.1 h4,rfl⟩
 . rintro⟨u,hu,h1,h2,rfl⟩;exact⟨u,d5a.2 ⟨d5a.2 ⟨hu,lt_iff.2 h2⟩,a1P.2 h1⟩,rfl⟩
def c1I{s:Tm}{r:Rl}{u:Int}(hF:A1 s r)(h:c2s s r u):AtP s u:=(b9d hF (d4T 0) h).a
def c6p{s:Tm}{r:Rl}{a b x:Tm}(h:(J3 s r a b).2=.nil)(hx:x∈(J3 s r a b).1):isP s r x=(true,.nil):=by obtain⟨i,hi,rfl⟩:=d5d hx;have:=(c0P (x:=i) (by rw[h];rfl) (by omega) (by omega)).is;rw[u6 (by omega)]at this;exact this
structure FmP(s t:Tm):Prop where
 rt:o7 t=true
 ba:t.n5=s.n5
 ut:t.UTC=s.UTC
def c38{a b:Tm}{u:Int}(h1:a.n5=b.n5)(h2:a.UTC=b.UTC):K8 u a=K8 u b:=by unfold K8;rw[h1,h2]
def b9m{s t t':Tm}(h:FmP s t)(h':FmP s t')(e:b8 t=b8 t'):t=t':=by have e1:=a6j (A0.1 h.rt);have e2:=a6j (A0.1 h'.rt);rw[<- e1,<- e2,e];exact c38 (h.ba.trans h'.ba.symm) (h.ut.trans h'.ut.symm)
def c4I{s:Tm}{u:Int}(h:AtP s u):FmP s (K8 u s)/\b8 (K8 u s)=u:=⟨⟨(atS_ok h).rt,(atS_ok h).ba,(atS_ok h).ut⟩,(atS_ok h).se⟩
def b3o{a b:I8}:R5 a b=true↔a.Time.n5=b.Time.n5/\a.Time.UTC=b.Time.UTC/\a.I3=b.I3:=d5p
def c6r{zs:List V8}{l:List I8}{like:I8}(h:b0S zs l like):∀m∈l,FmP like.Time m.Time/\m.I3=like.I3:=by have h1:=(q7.list (p:=fun m=>V0 zs m/\R5 m like=true)).1 fun j j0 j1=>⟨(h.1 j j0 j1).1,(h.1 j j0 j1).2.1⟩;intro m hm;obtain⟨a,b⟩:=h1 m hm;obtain⟨b1,b2,b3⟩:=b3o.1 b;exact⟨⟨a.1,b1,b2⟩,b3⟩
def leT{x y:Tm}:(!decide (a0R y x<0))=true↔b8 x<=b8 y:=by have h:a0R y x<0↔b8 y<b8 x:=a4n;simp[h]
def c2z(l:List Tm):(a7z l).Pairwise fun x y=>b8 x<=b8 y:=by
 have h:=List.pairwise_mergeSort (le:=fun x y:Tm=>!decide (a0R y x<0)) (fun a b c h1 h2=>leT.2 (by have:=leT.1 h1;have:=leT.1 h2;omega)) (fun a b=>by rw[d5C,leT,leT];omega) l
 exact h.imp fun h=>leT.1 h
def a7h{α:Type}[DecidableEq α]{z:α}:∀{r:List α}{x:α},z∈x::a2v x r↔z∈x::r
 |[],x=>d7m
 |y::r,x=>by
  rw[a2v];split
  . rename_i e;have h:=a7h (z:=z) (r:=r) (x:=x);simp only[d4S]at h ⊢;rw[e,h];exact⟨fun h=>h.elim .inl fun h=>.inr (.inr h),fun h=>h.elim .inl id⟩
  . have h:=a7h (z:=z) (r:=r) (x:=y);simp only[d4S]at h ⊢;rw[h]
def b6Q{α:Type}[DecidableEq α]{z:α}{l:List α}:z∈ded l↔z∈l:=by
 cases l with
 |nil=>exact d7m
 |cons x r=>exact a7h
def b13:∀{r:List Tm}{x:Tm},(x::r).Pairwise (fun x y=>b8 x<=b8 y)->b1v (x::r)->(x::a2v x r).Pairwise fun x y=>b8 x<b8 y
 |[],x,_,_=>by rw[a2v];exact d6J _ _
 |y::r,x,h,ht=>by
  obtain⟨h1,h2⟩:=d5v.1 h;rw[a2v];split
  . rename_i e;exact b13 (r:=r) (x:=x) (d5v.2 ⟨fun z hz=>h1 z (by simp[hz]),(d5v.1 h2).2⟩) fun a ha b hb=>ht a (by simp at ha ⊢;rcases ha with e|e <;> simp[e]) b (by simp at hb ⊢;rcases hb with e|e <;> simp[e])
  . rename_i e;have ih:=b13 (r:=r) (x:=y) h2 fun a ha b hb=>ht a (d5q _ ha) b (d5q _ hb);have hxy:b8 x<b8 y:=by
     have l1:=h1 y (by simp);have l2:b8 x≠b8 y:=fun e2=>e (ht x (by simp) y (by simp) e2).symm;omega
    refine d5v.2 ⟨fun z hz=>?_,ih⟩;rcases d4S.1 hz with e|e
    . rw[e];exact hxy
    . have:=(d5v.1 ih).1 z e;omega
def c82{l:List Tm}(h:l.Pairwise fun x y=>b8 x<=b8 y)(ht:b1v l):(ded l).Pairwise fun x y=>b8 x<b8 y:=by
 cases l with
 |nil=>exact List.Pairwise.nil
 |cons x r=>exact b13 h ht
def a4w{zs:List V8}{x:R1}(h:R8 zs x):x.b9=[]∨∃r,x.b9=[r]/\F8 x.Start.Time r=true:=by
 have hl:=h.2.2.1
 match hr:x.b9 with
 |[]=>exact .inl rfl
 |[r]=>exact .inr ⟨r,rfl,(q7.list (p:=fun r=>F8 x.Start.Time r=true)).1 h.2.2.2.2.2.2.1 r (by rw[hr];simp)⟩
 |_::_::_=>rw[hr]at hl;simp at hl;omega
def c4e(o:F3)(a b:Int)(t:Tm):Prop:=(o.Main.b9=[]/\t=o.Main.Start.Time)∨∃r,o.Main.b9=[r]/\∃u,c2s o.Main.Start.Time r u/\b8 (P8 (a-172800-A8 o.Main) o.Main.Start.Time)<=u/\u<b8 (P8 (b+172800) o.Main.Start.Time)/\t=K8 u o.Main.Start.Time
variable{qa:Nat}{o:F3}{a b:Int}{t:Tm}
def b04(hI:R8 o.c9 o.Main)(h:(tmE qa o a b [o.Main.Start.Time] o.Main.b9).2=.nil):t∈(tmE qa o a b [o.Main.Start.Time] o.Main.b9).1↔c4e o a b t:=by
 unfold c4e;rcases a4w hI with e|⟨r,e,hf⟩
 . rw[e,tmE];simp
 . rw[e]at h ⊢;rw[tmE]at h ⊢;by_cases h2:(tmR o a b r).2=.nil
   . rw[if_pos h2,tmE];unfold tmR at h2 ⊢;rw[c49 h2];constructor
     . rintro⟨u,hu⟩;exact .inr ⟨r,rfl,u,hu⟩
     . rintro(⟨h,_⟩|⟨r',h,hu⟩)
       . cases h
       . cases h;exact hu
   . rw[if_neg h2]at h;cases h
def a62(h:(P4 qa o a b).2=.nil):(tmE qa o a b [o.Main.Start.Time] o.Main.b9).2=.nil/\(P4 qa o a b).1=ded (a7z (tmA qa o a b)):=by
 unfold P4 at h ⊢;split at h
 . rename_i e;rw[if_pos e];exact⟨e,rfl⟩
 . rename_i e;exact absurd h e
def b5e(hI:R8 o.c9 o.Main)(h:(P4 qa o a b).2=.nil):t∈(P4 qa o a b).1↔(c4e o a b t∨∃m∈o.Main.o6,m.Time=t)/\X7 o t=false:=by obtain⟨h1,h2⟩:=a62 h;rw[h2,b6Q,a4z];unfold tmA;rw[d5a,d4Z,b04 hI h1,d6c];simp
def c74(hI:R8 o.c9 o.Main)(h:c4e o a b t):FmP o.Main.Start.Time t:=by
 rcases h with⟨_,rfl⟩|⟨r,e,u,hu,_,_,rfl⟩
 . exact⟨hI.1.1,rfl,rfl⟩
 . rcases a4w hI with e'|⟨r',e',hf⟩
   . rw[e]at e';cases e'
   . rw[e]at e';cases e';exact(c4I (c1I (I4.1 hf) hu)).1
def d2v(hI:R8 o.c9 o.Main)(h:∃m∈o.Main.o6,m.Time=t):FmP o.Main.Start.Time t:=by obtain⟨m,hm,rfl⟩:=h;exact(c6r hI.2.2.2.2.2.2.2.2.2.1 m hm).1
def c6j(hI:R8 o.c9 o.Main)(ht:t∈(tmE qa o a b [o.Main.Start.Time] o.Main.b9).1):FmP o.Main.Start.Time t:=by
 by_cases h:(tmE qa o a b [o.Main.Start.Time] o.Main.b9).2=.nil
 . exact c74 hI ((b04 hI h).1 ht)
 . rcases a4w hI with e|⟨r,e,hf⟩
   . rw[e,tmE]at h;exact absurd rfl h
   . rw[e,tmE]at h ht;split at h
     . exact absurd rfl h
     . rename_i h2;rw[if_neg h2]at ht;cases ht
def b3H(hI:R8 o.c9 o.Main)(h:t∈tmA qa o a b):FmP o.Main.Start.Time t:=by
 unfold tmA at h;rcases d4Z.1 (d5a.1 h).1 with h|h
 . exact c6j hI h
 . obtain⟨m,hm,e⟩:=d6c.1 h;exact d2v hI ⟨m,hm,e⟩
def b6v(hI:R8 o.c9 o.Main):b1v (tmA qa o a b):=fun x hx y hy e=>b9m (b3H hI hx) (b3H hI hy) e
def b2Q(hI:R8 o.c9 o.Main)(h:(P4 qa o a b).2=.nil)(ht:t∈(P4 qa o a b).1):FmP o.Main.Start.Time t:=by rw[(a62 h).2,b6Q,a4z]at ht;exact b3H hI ht
def d2C(hI:R8 o.c9 o.Main)(h:(P4 qa o a b).2=.nil):(P4 qa o a b).1.Pairwise fun x y=>b8 x<b8 y:=by rw[(a62 h).2];exact c82 (c2z _) fun x hx y hy=>b6v hI x (a4z.1 hx) y (a4z.1 hy)
def c7R(hI:R8 o.c9 o.Main)(h:(P4 qa o a b).2=.nil)(ht:t∈(P4 qa o a b).1)(hh:(Y5 qa o t).2=.nil):(Y5 qa o t).1=true:=by
 have hm:=(b5e hI h).1 ht;have h1:=(a62 h).1;unfold Y5 at hh ⊢;dsimp only at hh ⊢;split at hh
 . rename_i e;rw[if_pos e];rw[hm.2,d7X,Bool.and_true];rcases hm.1 with hb|⟨m,hm',e'⟩
   . have:(a4e qa o.Main.Start.Time t (decide ((o.Main.b9.length:Int)=0/\t=o.Main.Start.Time)) o.Main.b9).1=true:=by
       rcases hb with⟨e1,e2⟩|⟨r,e1,u,hu⟩
       . rw[e1,a4e];simp[e2]
       . have hx:t∈(tmR o a b r).1:=by
           have:=(b04 (qa:=qa) (t:=t) hI h1).2 (.inr ⟨r,e1,u,hu⟩);rw[e1,tmE]at this h1;split at h1
           . rename_i e3;rw[if_pos e3,tmE]at this;exact this
           . cases h1
         have h3:(tmR o a b r).2=.nil:=by
          rw[e1,tmE]at h1;split at h1
          . assumption
          . cases h1
         have h4:=c6p h3 hx;rw[e1,a4e,h4,if_pos rfl,a4e]
     rw[this];rfl
   . have:(o.Main.o6.any fun m=>decide (m.Time=t))=true:=d6E.2 ⟨m,hm',d4K e'⟩;rw[this,Bool.or_true]
 . rename_i e;exact absurd hh e
end
noncomputable section
structure GrP(t:Tm):Prop where
 rt:o7 t=true
 ut:t.UTC=true
 ba:t.n5=false
def b9h{t:Tm}(h:o7 t=true)(hu:t.UTC=true):GrP t:=⟨h,hu,by
 cases hb:t.n5 with
 |false=>rfl
 |true=>exact absurd ⟨hb,.inr hu⟩ (A0.1 h).2.2.2.2⟩
def c3Y{n:Int}{y:Tm}(h:(K8 n y).Day.Year≠0):0<=n/\n<315537897600/\(y.n5=true->y.UTC=false/\n%86400=0):=by
 unfold K8 at h;split at h
 . exact absurd rfl h
 . rename_i hc;have h1:¬n<0:=fun e=>hc (.inl e);have h2:¬3652059<n / 86400+1:=fun e=>hc (.inr (.inr e));refine⟨by omega,by omega,fun hb=>⟨?_,?_⟩⟩
   . cases hu:y.UTC with
     |false=>rfl
     |true=>exact absurd (.inr (.inl ⟨hb,.inl hu⟩)) hc
   . exact d5O fun e=>hc (.inr (.inl ⟨hb,.inr e⟩))
def b2Z{n:Int}{y:Tm}(hu:y.UTC=true)(h:(K8 n y).Day.Year≠0):GrP (K8 n y)/\b8 (K8 n y)=n:=by obtain⟨a,b,c⟩:=c3Y h;have hA:AtP y n:=⟨a,b,c⟩;exact⟨b9h (atS_ok hA).rt ((atS_ok hA).ut.trans hu),(atS_ok hA).se⟩
def b5O{n:Int}:b9a n=true↔-86400<n/\n<86400:=d5p
def fz_ok{l:List Obv}{t:Int}(hl:q7 l.length fun j=>c1S (ix l j)):∀n:Nat,n<=l.length->((fz l t n).some=true->-86400<(fz l t n).out/\(fz l t n).out<86400)/\0<=(fz l t n).early/\((fz l t n).early<n∨(fz l t n).early=0)
 |0,_=>⟨(fun h=>by cases h),d4T _,.inr rfl⟩
 |n+1,h=>by
  obtain⟨h1,h2,h3⟩:=fz_ok hl n (by omega);have ho:=b5O.1 (hl n (by omega) (by omega)).2.2.2.1;rw[fz,fzN];split
  . refine⟨fun _=>ho,?_,?_⟩
    . dsimp only;split <;> omega
    . dsimp only;split <;> omega
  . refine⟨h1,?_,?_⟩
    . dsimp only;split <;> omega
    . dsimp only;split <;> omega
def c0h{z:V8}{t:Int}(hz:a3W z)(h:(U7 z t).2=.nil):-86400<(U7 z t).1/\(U7 z t).1<86400:=by
 have hl:=hz.2.2.2.2.2;have hn:(z.D8.length:Int)≠0:=hz.2.2.2.1;obtain⟨h1,h2,h3⟩:=fz_ok (t:=t) hl z.D8.length (d4R _);unfold U7 at h ⊢;split at h
 . exact⟨by show(-86400:Int)<0;decide,by show(0:Int)<86400;decide⟩
 . split
   . rename_i hs;exact h1 hs
   . exact b5O.1 (hl _ h2 (by omega)).2.2.1
def b4Q{z:V8}{t:Tm}(h:(U9 z t).2=.nil):-86400<(U9 z t).1/\(U9 z t).1<86400:=by
 unfold U9 at h ⊢;split at h
 . rename_i hc;rw[if_pos hc];exact c0h hc.1 h
 . cases h
def c7j{z:V8}{t:Tm}(ht:o7 t=true)(h:(W3 z t).2=.nil):GrP (W3 z t).1/\-86400<b8 (W3 z t).1-b8 t/\b8 (W3 z t).1-b8 t<86400:=by
 unfold W3 at h ⊢;split
 . rename_i hc;exact⟨b9h hc.2.1 hc.2.2,by show -86400<b8 t-b8 t;omega,by show b8 t-b8 t<86400;omega⟩
 . rename_i hc;rw[if_neg hc]at h;split
   . rename_i ho;rw[if_pos ho]at h;have hr:=b4Q ho;unfold a4N at h ⊢;split
     . rename_i hy;rw[if_pos hy]at h;cases h
     . rename_i hy;obtain⟨h1,h2⟩:=b2Z rfl hy;exact⟨h1,by rw[h2];omega,by rw[h2];omega⟩
   . rename_i ho;rw[if_neg ho]at h;exact absurd h ho
def a3I{qa:Nat}{o:F3}{m:I8}(ht:o7 m.Time=true)(h:(w6 qa o m).2=.nil):GrP (w6 qa o m).1/\-86400<b8 (w6 qa o m).1-b8 m.Time/\b8 (w6 qa o m).1-b8 m.Time<86400:=by
 have main:∀l:List V8,(a11 qa m l).2=.nil->GrP (a11 qa m l).1/\-86400<b8 (a11 qa m l).1-b8 m.Time/\b8 (a11 qa m l).1-b8 m.Time<86400:=by
  intro l
  induction l with
  |nil =>
   intro _;have hb:=x9 ht;have hA:AtP tmU (b8 m.Time):=⟨hb.1,hb.2,(fun e=>by cases e)⟩;have ha:=atS_ok hA;rw[a11];dsimp only;rw[ha.se];exact⟨b9h ha.rt ha.ut,by omega,by omega⟩
  |cons z r ih =>
   intro h;rw[a11]at h ⊢;split
   . rename_i hc;rw[if_pos hc]at h;split
     . rename_i hn;exact c7j ht hn
     . rename_i hn;rw[if_neg hn]at h;cases h
   . rename_i hc;rw[if_neg hc]at h;exact ih h
 exact main o.c9 h
def b1W{n:Int}{s:Tm}(hs:o7 s=true):b8 (P8 n s)=if s.n5=true then max 0 (min n 315537897599) / 86400*86400 else max 0 (min n 315537897599):=by
 have b0:0<=max 0 (min n 315537897599):=by omega
 have b1:max 0 (min n 315537897599)<=315537897599:=by omega
 unfold P8;rw[d4H b0];generalize max 0 (min n 315537897599)=k at *;by_cases hb:s.n5=true
 . rw[if_pos hb];have hu:s.UTC=false:=by
    cases hu:s.UTC with
    |false=>rfl
    |true=>exact absurd ⟨hb,.inr hu⟩ (A0.1 hs).2.2.2.2
   exact(atS_ok (s:=s) (u:=k / 86400*86400) ⟨by omega,by omega,fun _=>⟨hu,by omega⟩⟩).se
 . rw[if_neg hb];exact(atS_ok (s:=s) (u:=k) ⟨b0,by omega,fun e=>absurd e hb⟩).se
def c7Q{n u:Int}{s:Tm}(hs:o7 s=true)(h:n<=u)(h0:0<=u):b8 (P8 n s)<=u:=by rw[b1W hs];split <;> omega
def c7v{n n' u:Int}{s:Tm}(hs:o7 s=true)(h:u<b8 (P8 n s))(h':u+86400<n'):u<b8 (P8 n' s):=by
 rw[b1W hs]at h ⊢;split
 . rename_i hb;rw[if_pos hb]at h;omega
 . rename_i hb;rw[if_neg hb]at h;omega
end
noncomputable section
variable{qa:Nat}{o:F3}{a b:Int}
def b5C{k t:Tm}{v:Bool}:∀{m:List (Tm×Bool)},getM (a36 m k v) t=if t=k then v else getM m t
 |[]=>by rw[a36,getM,getM,getM]
 |p::r=>by
  rw[a36];by_cases e:k=p.1
  . rw[if_pos e,getM,getM];by_cases e2:t=k
    . rw[if_pos e2,if_pos e2]
    . rw[if_neg e2,if_neg e2,if_neg (fun h=>e2 (h.trans e.symm))]
  . rw[if_neg e,getM,getM,b5C];by_cases e2:t=p.1
    . rw[if_pos e2,if_pos e2,if_neg (fun h=>e (h.symm.trans e2))]
    . rw[if_neg e2,if_neg e2]
def b3L{t:Tm}:∀{l:List R1}{m:List (Tm×Bool)},(ovM qa o m l).2=.nil->(getM (ovM qa o m l).1 t=true↔((∃x∈l,K4 x=t)/\(Y5 qa o t).1=true)∨((¬∃x∈l,K4 x=t)/\getM m t=true))/\∀x∈l,(Y5 qa o (K4 x)).2=.nil
 |[],m,_=>⟨by simp[ovM],fun _ h=>by cases h⟩
 |x::r,m,h=>by
  rw[ovM]at h ⊢;split at h
  . rename_i e;rw[if_pos e];obtain⟨h1,h2⟩:=b3L (t:=t) h;refine⟨?_,fun y hy=>?_⟩
    . rw[h1,b5C];simp only[d4S,d7i];by_cases e2:t=K4 x
      . have e3:K4 x=t:=e2.symm;rw[if_pos e2,<- e2];by_cases e4:∃y∈r,K4 y=t
        . simp[e3,e4]
        . simp[e3,e4]
      . have e3:¬K4 x=t:=fun h=>e2 h.symm;rw[if_neg e2];simp[e3]
    . rcases d4S.1 hy with e2|e2
      . rw[e2];exact e
      . exact h2 y e2
  . rename_i e;exact absurd h e
def c6F(h:(ovM qa o [] o.Over).2=.nil){t:Tm}:getM (ovM qa o [] o.Over).1 t=true↔(∃x∈o.Over,K4 x=t)/\(Y5 qa o t).1=true:=by rw[(b3L (t:=t) h).1];simp[getM]
def inW(a b:Int)(s n:Int):Prop:=s<b/\¬(s+n<=a/\(0<n∨s<a))
def a6a{w:Wn}{s:Tm}{n:Int}{k:Tm}{v:Bool}{y:Ins}:y∈(J0 a b w s n k v).1↔y∈w.1∨(inW a b (b8 s) n/\(K8 (b8 s+n) s).Day.Year≠0/\y=mkI s n k v):=by
 unfold J0 inW;split
 . rename_i h;constructor
   . exact .inl
   . rintro(h1|⟨⟨h1,h2⟩,_⟩)
     . exact h1
     . rcases h with h|h
       . omega
       . exact absurd h h2
 . rename_i h;have h1:b8 s<b/\¬(b8 s+n<=a/\(0<n∨b8 s<a)):=⟨d8m.1 fun e=>h (.inl e),fun e=>h (.inr e)⟩;split
   . rename_i hy;simp[hy]
   . rename_i hy;simp[hy,h1]
def a9z{w:Wn}{s:Tm}{n:Int}{k:Tm}{v:Bool}:(J0 a b w s n k v).2=true↔w.2=true∨(inW a b (b8 s) n/\(K8 (b8 s+n) s).Day.Year=0):=by
 unfold J0 inW;split
 . rename_i h;constructor
   . exact .inl
   . rintro(h1|⟨⟨h1,h2⟩,_⟩)
     . exact h1
     . rcases h with h|h
       . omega
       . exact absurd h h2
 . rename_i h;have h1:b8 s<b/\¬(b8 s+n<=a/\(0<n∨b8 s<a)):=⟨d8m.1 fun e=>h (.inl e),fun e=>h (.inr e)⟩;split
   . rename_i hy;simp[hy,h1]
   . rename_i hy;simp[hy]
def b2d(l:List Ins):Prop:=l.Pairwise fun x y=>x.u9≠y.u9
def b1N{w:Wn}{s:Tm}{n:Int}{k:Tm}{v:Bool}(h:b2d w.1)(hk:∀y∈w.1,y.u9≠k):b2d (J0 a b w s n k v).1:=by
 unfold J0;split
 . exact h
 . split
   . exact h
   . exact d6r.2 ⟨h,d6J _ _,fun y hy z hz=>by rw[d4G.1 hz];exact hk y hy⟩
structure GaF(qa:Nat)(o:F3)(a b:Int)(w w':Wn)(B:Ins->Prop)(C:Prop):Prop where
 mem:∀y,y∈w'.1↔y∈w.1∨B y
 past:w'.2=true↔w.2=true∨C
def b1X(qa:Nat)(o:F3)(a b:Int)(mp:List (Tm×Bool))(l:List Tm)(y:Ins):Prop:=∃t∈l,¬getM mp t=true/\inW a b (b8 (w6 qa o (moI o t)).1) (A8 o.Main)/\(K8 (b8 (w6 qa o (moI o t)).1+A8 o.Main) (w6 qa o (moI o t)).1).Day.Year≠0/\y=mkI (w6 qa o (moI o t)).1 (A8 o.Main) t false
def b1y(qa:Nat)(o:F3)(a b:Int)(mp:List (Tm×Bool))(l:List R1)(y:Ins):Prop:=∃x∈l,getM mp (K4 x)=true/\inW a b (b8 (w6 qa o x.Start).1) (A8 x)/\(K8 (b8 (w6 qa o x.Start).1+A8 x) (w6 qa o x.Start).1).Day.Year≠0/\y=mkI (w6 qa o x.Start).1 (A8 x) (K4 x) true
def b5R(qa:Nat)(o:F3)(a b:Int)(mp:List (Tm×Bool))(l:List Tm):Prop:=∃t∈l,¬getM mp t=true/\inW a b (b8 (w6 qa o (moI o t)).1) (A8 o.Main)/\(K8 (b8 (w6 qa o (moI o t)).1+A8 o.Main) (w6 qa o (moI o t)).1).Day.Year=0
def b6O(qa:Nat)(o:F3)(a b:Int)(mp:List (Tm×Bool))(l:List R1):Prop:=∃x∈l,getM mp (K4 x)=true/\inW a b (b8 (w6 qa o x.Start).1) (A8 x)/\(K8 (b8 (w6 qa o x.Start).1+A8 x) (w6 qa o x.Start).1).Day.Year=0
def ga1_ok{mp:List (Tm×Bool)}:∀{l:List Tm}{w:Wn},(ga1 qa o a b mp w l).2=.nil->GaF qa o a b w (ga1 qa o a b mp w l).1 (b1X qa o a b mp l) (b5R qa o a b mp l)/\∀t∈l,¬getM mp t=true->(w6 qa o (moI o t)).2=.nil
 |[],w,_=>⟨⟨fun y=>by simp[ga1,b1X],by simp[ga1,b5R]⟩,fun _ h=>by cases h⟩
 |t::r,w,h=>by
  rw[ga1]at h ⊢;by_cases e:getM mp t=true
  . rw[if_pos e]at h ⊢;obtain⟨⟨h1,h2⟩,h3⟩:=ga1_ok h;refine⟨⟨fun y=>?_,?_⟩,fun u hu hn=>?_⟩
    . rw[h1];simp[b1X,e]
    . rw[h2];simp[b5R,e]
    . rcases d4S.1 hu with e2|e2
      . rw[e2]at hn;exact absurd e hn
      . exact h3 u e2 hn
  . rw[if_neg e]at h ⊢;split at h
    . rename_i hm;rw[if_pos hm];obtain⟨⟨h1,h2⟩,h3⟩:=ga1_ok h;refine⟨⟨fun y=>?_,?_⟩,fun u hu hn=>?_⟩
      . rw[h1,a6a];simp only[b1X,d4S,d7i,or_assoc,e,d5D,d8h,true_and]
      . rw[h2,a9z];simp only[b5R,d4S,d7i,or_assoc,e,d5D,d8h,true_and]
      . rcases d4S.1 hu with e2|e2
        . rw[e2];exact hm
        . exact h3 u e2 hn
    . rename_i hm;exact absurd h hm
def ga2_ok{mp:List (Tm×Bool)}:∀{l:List R1}{w:Wn},(ga2 qa o a b mp w l).2=.nil->GaF qa o a b w (ga2 qa o a b mp w l).1 (b1y qa o a b mp l) (b6O qa o a b mp l)/\∀x∈l,getM mp (K4 x)=true->(w6 qa o x.Start).2=.nil
 |[],w,_=>⟨⟨fun y=>by simp[ga2,b1y],by simp[ga2,b6O]⟩,fun _ h=>by cases h⟩
 |t::r,w,h=>by
  rw[ga2]at h ⊢;by_cases e:¬getM mp (K4 t)=true
  . rw[if_pos e]at h ⊢;obtain⟨⟨h1,h2⟩,h3⟩:=ga2_ok h;refine⟨⟨fun y=>?_,?_⟩,fun u hu hn=>?_⟩
    . rw[h1];simp[b1y,e]
    . rw[h2];simp[b6O,e]
    . rcases d4S.1 hu with e2|e2
      . rw[e2]at hn;exact absurd hn e
      . exact h3 u e2 hn
  . rw[if_neg e]at h ⊢;have e:=d4y.1 e;split at h
    . rename_i hm;rw[if_pos hm];obtain⟨⟨h1,h2⟩,h3⟩:=ga2_ok h;refine⟨⟨fun y=>?_,?_⟩,fun u hu hn=>?_⟩
      . rw[h1,a6a];simp only[b1y,d4S,d7i,or_assoc,e,true_and]
      . rw[h2,a9z];simp only[b6O,d4S,d7i,or_assoc,e,true_and]
      . rcases d4S.1 hu with e2|e2
        . rw[e2];exact hm
        . exact h3 u e2 hn
    . rename_i hm;exact absurd h hm
def b11{mp:List (Tm×Bool)}:∀{l:List Tm}{w:Wn},b2d w.1->l.Pairwise (· ≠ ·)->(∀t∈l,∀y∈w.1,y.u9≠t)->b2d (ga1 qa o a b mp w l).1.1
 |[],w,h,_,_=>h
 |t::r,w,h,hl,hk=>by
  obtain⟨l1,l2⟩:=d5v.1 hl;rw[ga1];split
  . exact b11 h l2 fun u hu=>hk u (by simp[hu])
  . split
    . refine b11 (b1N h (hk t (by simp))) l2 fun u hu y hy=>?_;rcases a6a.1 hy with hy|⟨_,_,rfl⟩
      . exact hk u (by simp[hu]) y hy
      . exact l1 u hu
    . exact h
def b0K{mp:List (Tm×Bool)}:∀{l:List R1}{w:Wn},b2d w.1->(l.Pairwise fun x y=>K4 x≠K4 y)->(∀x∈l,getM mp (K4 x)=true->∀y∈w.1,y.u9≠K4 x)->b2d (ga2 qa o a b mp w l).1.1
 |[],w,h,_,_=>h
 |t::r,w,h,hl,hk=>by
  obtain⟨l1,l2⟩:=d5v.1 hl;rw[ga2];split
  . exact b0K h l2 fun u hu=>hk u (by simp[hu])
  . rename_i e;have e:=d4y.1 e;split
    . refine b0K (b1N h (hk t (by simp) e)) l2 fun u hu hg y hy=>?_;rcases a6a.1 hy with hy|⟨_,_,rfl⟩
      . exact hk u (by simp[hu]) hg y hy
      . exact l1 u hu
    . exact h
def a4c(hO:a0s o){x:R1}(hx:x∈o.Over):FmP o.Main.Start.Time (K4 x)/\R8 o.c9 x:=by
 have h:=(q7.list (p:=fun x:R1=>(x.p5.length:Int)=1/\R8 o.c9 x/\R5 (ix x.p5 0) o.Main.Start=true)).1 (fun j j0 j1=>by obtain⟨h1,_,h2,h3,_⟩:=hO.2.2.2.2.2 j j0 j1;exact⟨h1,h2,h3⟩) x hx
 obtain⟨h1,h2,h3⟩:=h;obtain⟨f1,f2,_⟩:=b3o.1 h3;have hm:V0 o.c9 (ix x.p5 0):=h2.2.2.2.2.2.2.2.1 0 (by omega) (by omega);exact⟨⟨hm.1,f1,f2⟩,h2⟩
def b9J(hO:a0s o):o.Over.Pairwise fun x y=>b8 (K4 x)<b8 (K4 y):=by
 have up:∀n:Nat,∀i j:Int,0<=i->i<j->j=i+n->j<o.Over.length->b8 (K4 (ix o.Over i))<b8 (K4 (ix o.Over j)):=by
  intro n
  induction n with
  |zero=>intro i j _ h e;omega
  |succ n ih =>
   intro i j i0 h e hj;have h1:=(hO.2.2.2.2.2 j (by omega) hj).2.2.2.2 (by omega);by_cases hn:n=0
   . rw[show j-1=i by omega]at h1;exact h1
   . have h2:=ih i (j-1) i0 (by omega) (by omega) (by omega);unfold K4 at h2 ⊢;omega
 rw[d5A];intro i j hi hj h;have:=up (j-i) i j (by omega) (by omega) (by omega) (by omega);rw[u6 (by omega),u6 (by omega)]at this;exact this
def c2N(hO:a0s o):o.Over.Pairwise fun x y=>K4 x≠K4 y:=(b9J hO).imp fun h e=>by rw[e]at h;omega
def c1X(qa:Nat)(o:F3)(a b:Int)(y:Ins):Prop:=b1X qa o a b (ovM qa o [] o.Over).1 (P4 qa o a b).1 y∨b1y qa o a b (ovM qa o [] o.Over).1 o.Over y
def a5c(h:(gaS qa o a b).2=.nil):(ovM qa o [] o.Over).2=.nil/\(P4 qa o a b).2=.nil/\(ga1 qa o a b (ovM qa o [] o.Over).1 ([],false) (P4 qa o a b).1).2=.nil/\(ga2 qa o a b (ovM qa o [] o.Over).1 (ga1 qa o a b (ovM qa o [] o.Over).1 ([],false) (P4 qa o a b).1).1 o.Over).2=.nil/\gaS qa o a b=ga2 qa o a b (ovM qa o [] o.Over).1 (ga1 qa o a b (ovM qa o [] o.Over).1 ([],false) (P4 qa o a b).1).1 o.Over:=by
 unfold gaS at h ⊢;split at h
 . rename_i e1;split at h
   . rename_i e2;split at h
     . rename_i e3;rw[if_pos e1,if_pos e2,if_pos e3];exact⟨e1,e2,e3,h,rfl⟩
     . rename_i e3;exact absurd h e3
   . rename_i e2;exact absurd h e2
 . rename_i e1;exact absurd h e1
def b0o(h:(gaS qa o a b).2=.nil){y:Ins}:y∈(gaS qa o a b).1.1↔c1X qa o a b y:=by obtain⟨_,_,h3,h4,h5⟩:=a5c h;rw[h5,(ga2_ok h4).1.mem,(ga1_ok h3).1.mem];simp[c1X]
def c7n(hO:a0s o)(h:(gaS qa o a b).2=.nil):b2d (gaS qa o a b).1.1:=by
 obtain⟨h1,h2,h3,h4,h5⟩:=a5c h;have hI:=hO.2.2.2.1;rw[h5];refine b0K (b11 List.Pairwise.nil ((d2C hI h2).imp fun h e=>by rw[e]at h;omega) (fun _ _ _ h=>by cases h)) (c2N hO) fun x hx hg y hy=>?_;rcases((ga1_ok h3).1.mem y).1 hy with hy|⟨t,ht,hn,_,_,rfl⟩
 . cases hy
 . rintro rfl;exact hn hg
def a73(hO:a0s o)(h:(gaS qa o a b).2=.nil){y:Ins}(hy:y∈(gaS qa o a b).1.1):FmP o.Main.Start.Time y.u9:=by
 rcases(b0o h).1 hy with⟨t,ht,_,_,_,rfl⟩|⟨x,hx,_,_,_,rfl⟩
 . exact b2Q hO.2.2.2.1 (a5c h).2.1 ht
 . exact(a4c hO hx).1
def c80{l:List Ins}(h:b2d l){x y:Ins}(hx:x∈l)(hy:y∈l)(e:x.u9=y.u9):x=y:=by
 induction l with
 |nil=>cases hx
 |cons z r ih =>
  obtain⟨h1,h2⟩:=d5v.1 h;rcases d4S.1 hx with ex|ex <;> rcases d4S.1 hy with ey|ey
  . rw[ex,ey]
  . rw[ex]at e;exact absurd e (h1 y ey)
  . rw[ey]at e;exact absurd e.symm (h1 x ex)
  . exact ih h2 ex ey
def c6k(hO:a0s o)(h:(gaS qa o a b).2=.nil):d3m (gaS qa o a b).1.1:=fun x hx y hy _ e=>c80 (c7n hO h) hx hy (b9m (a73 hO h hx) (a73 hO h hy) e)
end
noncomputable section
variable{qa:Nat}{o:F3}{a b:Int}
def a7q{zs:List V8}{x:R1}(h:R8 zs x):0<=A8 x/\A8 x<=400000000000:=by
 unfold A8;split
 . rename_i hs;have:=h.2.2.2.2.2.1 0 (by omega) hs.1;omega
 . split
   . have:=a1N (ix x.End 0).Time;have:=a1N x.Start.Time;omega
   . split <;> omega
structure InF(o:F3)(a b:Int)(y:Ins):Prop where
 st:GrP y.Start
 en:GrP y.End
 lo:b8 y.Start<=b8 y.End
 wi:inW a b (b8 y.Start) (b8 y.End-b8 y.Start)
 wh:FmP o.Main.Start.Time y.u9
 ov:y.Over=true↔∃x∈o.Over,K4 x=y.u9
def b2N(hO:a0s o)(h:(gaS qa o a b).2=.nil){y:Ins}(hy:y∈(gaS qa o a b).1.1):InF o a b y:=by
 obtain⟨h1,h2,h3,h4,_⟩:=a5c h;have hI:=hO.2.2.2.1;have hw:=a73 hO h hy;rcases(b0o h).1 hy with⟨t,ht,hn,hin,hyr,rfl⟩|⟨x,hx,hg,hin,hyr,rfl⟩
 . have hm:=(ga1_ok h3).2 t ht hn;have hf:=b2Q hI h2 ht;obtain⟨g1,g2,g3⟩:=a3I (m:=moI o t) hf.rt hm;obtain⟨e1,e2⟩:=b2Z g1.ut hyr;have hl:=a7q hI;have e3:b8 (mkI (w6 qa o (moI o t)).1 (A8 o.Main) t false).End=b8 (w6 qa o (moI o t)).1+A8 o.Main:=e2;refine⟨g1,e1,?_,?_,hf,⟨(fun e=>by cases e),fun⟨x,hx,hk⟩=>?_⟩⟩
   . rw[e3];show b8 (w6 qa o (moI o t)).1<=_;omega
   . rw[e3];show inW a b (b8 (w6 qa o (moI o t)).1) (b8 (w6 qa o (moI o t)).1+A8 o.Main-b8 (w6 qa o (moI o t)).1);rw[show b8 (w6 qa o (moI o t)).1+A8 o.Main-b8 (w6 qa o (moI o t)).1=A8 o.Main by omega];exact hin
   . have hk:K4 x=t:=hk;have hh:=(b3L (t:=t) h1).2 x hx;rw[hk]at hh;exact absurd ((c6F h1).2 ⟨⟨x,hx,hk⟩,c7R hI h2 ht hh⟩) hn
 . obtain⟨hf,hI2⟩:=a4c hO hx;have hm:=(ga2_ok h4).2 x hx hg;obtain⟨g1,g2,g3⟩:=a3I (m:=x.Start) hI2.1.1 hm;obtain⟨e1,e2⟩:=b2Z g1.ut hyr;have hl:=a7q hI2;have e3:b8 (mkI (w6 qa o x.Start).1 (A8 x) (K4 x) true).End=b8 (w6 qa o x.Start).1+A8 x:=e2;refine⟨g1,e1,?_,?_,hf,⟨fun _=>⟨x,hx,rfl⟩,fun _=>rfl⟩⟩
   . rw[e3];show b8 (w6 qa o x.Start).1<=_;omega
   . rw[e3];show inW a b (b8 (w6 qa o x.Start).1) (b8 (w6 qa o x.Start).1+A8 x-b8 (w6 qa o x.Start).1);rw[show b8 (w6 qa o x.Start).1+A8 x-b8 (w6 qa o x.Start).1=A8 x by omega];exact hin
def a5t{f t:Tm}(h:(J5 qa o f t).2=.nil):c2M o f t/\(gaS qa o (b8 f) (b8 t)).2=.nil/\(gaS qa o (b8 f) (b8 t)).1.2=false/\(gaS qa o (b8 f) (b8 t)).1.1.length<=1000/\(J5 qa o f t).1=a9T (gaS qa o (b8 f) (b8 t)).1.1:=by
 have nn:∀e:l8,U6 e=.nil->e=.nil:=fun e h=>by
  unfold U6 at h;split at h
  . cases h
  . exact h
 unfold J5 at h ⊢;split at h
 . rename_i c1;split at h
   . rename_i c2;split at h
     . rename_i c3;split at h
       . cases h
       . rename_i c4;split at h
         . cases h
         . rename_i c5;rw[if_pos c1,if_pos c2,if_pos c3,if_neg c4,if_neg c5];exact⟨c1,c3,d5l _ ▸ c4,by omega,rfl⟩
     . rename_i c3;exact absurd (nn _ h) c3
   . rename_i c2;exact absurd (nn _ h) c2
 . cases h
def a6I{f t:Tm}(h:(J5 qa o f t).2=.nil){y:Ins}:y∈(J5 qa o f t).1↔c1X qa o (b8 f) (b8 t) y:=by obtain⟨_,h2,_,_,h5⟩:=a5t h;rw[h5,b1n,b0o h2]
def a6q{f t:Tm}(h:(J5 qa o f t).2=.nil){y:Ins}(hy:y∈(J5 qa o f t).1):InF o (b8 f) (b8 t) y:=by obtain⟨h1,h2,_,_,h5⟩:=a5t h;rw[h5,b1n]at hy;exact b2N h1.1 h2 hy
def b9g{a' b':Int}{t:Tm}(hI:R8 o.c9 o.Main)(h:(P4 qa o a b).2=.nil)(h':(P4 qa o a' b').2=.nil)(ht:t∈(P4 qa o a b).1)(hm:(w6 qa o (moI o t)).2=.nil)(hw:inW a' b' (b8 (w6 qa o (moI o t)).1) (A8 o.Main)):t∈(P4 qa o a' b').1:=by
 have hf:=b2Q hI h ht;obtain⟨_,g2,g3⟩:=a3I (m:=moI o t) hf.rt hm;have g2:-86400<b8 (w6 qa o (moI o t)).1-b8 t:=g2;have g3:b8 (w6 qa o (moI o t)).1-b8 t<86400:=g3;have hl:=a7q hI;unfold inW at hw;rw[b5e hI h]at ht;rw[b5e hI h'];refine⟨ht.1.imp (fun hb=>?_) id,ht.2⟩;rcases hb with hb|⟨r,e,u,hu,h1,h2,rfl⟩
 . exact .inl hb
 . have hA:AtP o.Main.Start.Time u:=by
     rcases a4w hI with e'|⟨r',e',hf'⟩
     . rw[e]at e';cases e'
     . rw[e]at e';cases e';exact c1I (I4.1 hf') hu
   rw[(c4I hA).2]at g2 g3;exact .inr ⟨r,e,u,hu,c7Q hI.1.1 (by omega) hA.a,c7v hI.1.1 h2 (by omega),rfl⟩
def a2M{a' b':Int}{y:Ins}(hO:a0s o)(h:(gaS qa o a b).2=.nil)(h':(gaS qa o a' b').2=.nil)(hy:c1X qa o a b y)(hw:inW a' b' (b8 y.Start) (b8 y.End-b8 y.Start)):c1X qa o a' b' y:=by
 have hF:=b2N hO h ((b0o h).2 hy);obtain⟨h1,h2,h3,h4,_⟩:=a5c h;obtain⟨_,h2',_,_,_⟩:=a5c h';have hI:=hO.2.2.2.1;rcases hy with⟨t,ht,hn,hin,hyr,rfl⟩|⟨x,hx,hg,hin,hyr,rfl⟩
 . have hm:=(ga1_ok h3).2 t ht hn;obtain⟨g1,_,_⟩:=a3I (m:=moI o t) (b2Q hI h2 ht).rt hm;obtain⟨_,e2⟩:=b2Z g1.ut hyr;have e3:b8 (mkI (w6 qa o (moI o t)).1 (A8 o.Main) t false).End=b8 (w6 qa o (moI o t)).1+A8 o.Main:=e2;have hw2:inW a' b' (b8 (w6 qa o (moI o t)).1) (b8 (mkI (w6 qa o (moI o t)).1 (A8 o.Main) t false).End-b8 (w6 qa o (moI o t)).1):=hw;rw[e3,show b8 (w6 qa o (moI o t)).1+A8 o.Main-b8 (w6 qa o (moI o t)).1=A8 o.Main by omega]at hw2;exact .inl ⟨t,b9g hI h2 h2' ht hm hw2,hn,hw2,hyr,rfl⟩
 . have hm:=(ga2_ok h4).2 x hx hg;obtain⟨g1,_,_⟩:=a3I (m:=x.Start) (a4c hO hx).2.1.1 hm;obtain⟨_,e2⟩:=b2Z g1.ut hyr;have e3:b8 (mkI (w6 qa o x.Start).1 (A8 x) (K4 x) true).End=b8 (w6 qa o x.Start).1+A8 x:=e2;have hw2:inW a' b' (b8 (w6 qa o x.Start).1) (b8 (mkI (w6 qa o x.Start).1 (A8 x) (K4 x) true).End-b8 (w6 qa o x.Start).1):=hw;rw[e3,show b8 (w6 qa o x.Start).1+A8 x-b8 (w6 qa o x.Start).1=A8 x by omega]at hw2;exact .inr ⟨x,hx,hg,hw2,hyr,rfl⟩
def c4f{f m t:Tm}(h:(J5 qa o f t).2=.nil)(h1:(J5 qa o f m).2=.nil)(h2:(J5 qa o m t).2=.nil)(y:Ins):y∈(J5 qa o f t).1↔y∈(J5 qa o f m).1∨y∈(J5 qa o m t).1:=by
 obtain⟨p,g,_⟩:=a5t h;obtain⟨p1,g1,_⟩:=a5t h1;obtain⟨p2,g2,_⟩:=a5t h2;have l1:=p1.2.2.2.2.2;have l2:=p2.2.2.2.2.2;constructor
 . intro hy;have hF:=a6q h hy;have hw:=hF.wi;have hl:=hF.lo;have hy:=(a6I h).1 hy;by_cases hs:b8 y.Start<b8 m
   . exact .inl ((a6I h1).2 (a2M p.1 g g1 hy (by unfold inW at hw ⊢;omega)))
   . exact .inr ((a6I h2).2 (a2M p.1 g g2 hy (by unfold inW at hw ⊢;omega)))
 . rintro(hy|hy)
   . have hw:=(a6q h1 hy).wi;exact(a6I h).2 (a2M p.1 g1 g ((a6I h1).1 hy) (by unfold inW at hw ⊢;omega))
   . have hw:=(a6q h2 hy).wi;have hl:=(a6q h2 hy).lo;exact(a6I h).2 (a2M p.1 g2 g ((a6I h2).1 hy) (by unfold inW at hw ⊢;omega))
end
noncomputable section
variable{qa:Nat}{o:F3}{a b:Int}
def b5M:∀{rs:List Rl}{l:List Tm},l.length<=1000->(tmE qa o a b l rs).1.length<=1000
 |[],l,h=>h
 |r::rs,l,h=>by
  unfold tmE;split
  . exact b5M (by have:=@b5E o.Main.Start.Time (P8 (a-172800-A8 o.Main) o.Main.Start.Time) (P8 (b+172800) o.Main.Start.Time) r;unfold tmR;omega)
  . exact d6d _
def c6E(h:a2g o.Main):(P4 qa o a b).1.length<=1200:=by
 have h4:=h.2.2.2.1;unfold P4;split
 . have h1:=c29 (a7z (tmA qa o a b));rw[b16]at h1;have h2:(tmA qa o a b).length<=_:=d7M _ _;rw[d4E,d5N]at h2;have h3:=@b5M qa o a b o.Main.b9 [o.Main.Start.Time] (by show 1<=1000;decide);dsimp only;omega
 . exact d6d _
def c9m(h:(ovM qa o [] o.Over).2≠.nil):gaS qa o a b=(([],false),(ovM qa o [] o.Over).2):=by unfold gaS;rw[if_neg h]
def d1y(h1:(ovM qa o [] o.Over).2=.nil)(h2:(P4 qa o a b).2=.nil)(h:(ga1 qa o a b (ovM qa o [] o.Over).1 ([],false) (P4 qa o a b).1).2≠.nil):gaS qa o a b=ga1 qa o a b (ovM qa o [] o.Over).1 ([],false) (P4 qa o a b).1:=by unfold gaS;rw[if_pos h1,if_pos h2,if_neg h]
def d1D(h1:(ovM qa o [] o.Over).2=.nil)(h2:(P4 qa o a b).2=.nil)(h:(ga1 qa o a b (ovM qa o [] o.Over).1 ([],false) (P4 qa o a b).1).2=.nil):gaS qa o a b=ga2 qa o a b (ovM qa o [] o.Over).1 (ga1 qa o a b (ovM qa o [] o.Over).1 ([],false) (P4 qa o a b).1).1 o.Over:=by unfold gaS;rw[if_pos h1,if_pos h2,if_pos h]
end
end Go.Qu
namespace Go.Proofs.YtapnoejokajcoaaGreatDoor
open Go Go.Wk Go.Wl Go.Rx Go.Re Go.Li Go.Qu Go.Fo 
attribute [local irreducible] i7
def c9u:Nat->D1:=fun|9=>⟨97,nn,fun|8=>some ⟨[8],[.slot 11 .err,.own 8 [(.int .i64),(.int .i64),(.acc 48),.bool]]⟩|_=>none⟩|28=>⟨133,fun|25=>some ⟨[0,3,5,98,99],[.slot 100 (.int .i64),.own 0 [(.int .i64),(.int .i64),(.acc 48),.bool]]⟩|14=>some ⟨[0,3,5,66,67],[.slot 68 (.int .i64),.own 0 [(.int .i64),(.int .i64),(.acc 48),.bool]]⟩|3=>some ⟨[0,3,5,23,24],[.slot 25 (.int .i64),.ob 5 2]⟩|_=>none,nn⟩|_=>⟨0,nn,nn⟩
def T4(o:F3)(f:Tm)(t:Tm):=P4 (105:Nat) (V9 o) (b8 (j6 f)) (b8 (j6 t))
def Vqi(o:F3)(f:Tm)(t:Tm)(Q:List Ins->l8->Prop):Prop:=
a1D (V9 o)/\(bR (((((¬bo (a0s (V9 o))=true∨¬o7 (j6 f)=true)∨¬o7 (j6 t)=true)∨¬f.UTC=true)∨¬t.UTC=true)∨b8 (j6 t)<b8 (j6 f)) (Q [] (l8.no 2)) ((a2g (etI o.Main)/\(0<=A8 (etI o.Main)/\A8 (etI o.Main)<=400000000000)/\(0<=b8 (j6 f)/\b8 (j6 f)<315537897600)/\(0<=b8 (j6 t)/\b8 (j6 t)<315537897600)/\b1v (tmA (105:Nat) (V9 o) (b8 (j6 f)) (b8 (j6 t))))/\(bR ((T4 o f t).snd≠l8.nil) (asB (T4 o f t).snd=true/\Q [] (U6 (T4 o f t).snd)) (∃(J:l8->Int->Int->List Ins->Bool->Prop),(∃(I:Int->List (Tm×Bool)->Prop),∃(m:Int->List (Tm×Bool)->Nat),I 0 []/\∀(x:Int) (x_1:List (Tm×Bool)),I x x_1->(bR (x<(↑o.Over.length:Int)) (0<=x/\x<(↑o.Over.length:Int)/\((0:Int)<=0/\0<(↑(ix o.Over x).p5.length:Int))/\a2g (etI o.Main)/\(bR ((Y5 (105:Nat) (V9 o) (j6 (ix (ix o.Over x).p5 0).Time)).snd≠l8.nil) (J (Y5 (105:Nat) (V9 o) (j6 (ix (ix o.Over x).p5 0).Time)).snd (b8 (j6 f)) (b8 (j6 t)) [] false) ((0:Int)<=0/\0<(↑(ix o.Over x).p5.length:Int)/\c6 (x+1)/\I (x+1) (a36 x_1 (j6 (ix (ix o.Over x).p5 0).Time) (decide ((Y5 (105:Nat) (V9 o) (j6 (ix (ix o.Over x).p5 0).Time)).fst=true)))/\m (x+1) (a36 x_1 (j6 (ix (ix o.Over x).p5 0).Time) (decide ((Y5 (105:Nat) (V9 o) (j6 (ix (ix o.Over x).p5 0).Time)).fst=true)))<m x x_1))) ((a2g (etI o.Main)/\(0<=A8 (etI o.Main)/\A8 (etI o.Main)<=400000000000)/\(0<=b8 (j6 f)/\b8 (j6 f)<315537897600)/\(0<=b8 (j6 t)/\b8 (j6 t)<315537897600)/\b1v (tmA (105:Nat) (V9 o) (b8 (j6 f)) (b8 (j6 t))))/\(bR ((T4 o f t).snd≠l8.nil) (J (T4 o f t).snd (b8 (j6 f)) (b8 (j6 t)) [] false) (∃(I:Int->Int->Int->List Ins->Bool->Prop),∃(m:Int->Int->Int->List Ins->Bool->Nat),I 0 (b8 (j6 f)) (b8 (j6 t)) [] false/\∀(x x_2 x_3:Int)(x_4:List Ins)(x_5:Bool),I x x_2 x_3 x_4 x_5->(bR (x<(↑(T4 o f t).fst.length:Int)) (0<=x/\x<(↑(T4 o f t).fst.length:Int)/\(c6 (ix (T4 o f t).fst x).Day.Year->c6 (ix (T4 o f t).fst x).Day.Month->c6 (ix (T4 o f t).fst x).Day.Date->c6 (ix (T4 o f t).fst x).Hour->c6 (ix (T4 o f t).fst x).Min->c6 (ix (T4 o f t).fst x).D6->(bR (getM x_1 (j6 (ix (T4 o f t).fst x))=true) (c6 (x+1)/\I (x+1) x_2 x_3 x_4 (decide (x_5=true))/\m (x+1) x_2 x_3 x_4 (decide (x_5=true))<m x x_2 x_3 x_4 x_5) ((∀(z:V8),z∈o.c9->X5 z)/\(↑o.c9.length:Int)<=1000000/\(bR ((w6 (105:Nat) (V9 o) (I8.mk (j6 (ix (T4 o f t).fst x)) o.Main.Start.I3)).snd≠l8.nil) (J (w6 (105:Nat) (V9 o) (I8.mk (j6 (ix (T4 o f t).fst x)) o.Main.Start.I3)).snd x_2 x_3 x_4 (decide (x_5=true))) (((-1000000000000000:Int)<=b8 (j6 (w6 (105:Nat) (V9 o) (I8.mk (j6 (ix (T4 o f t).fst x)) o.Main.Start.I3)).fst)+A8 (etI o.Main)/\b8 (j6 (w6 (105:Nat) (V9 o) (I8.mk (j6 (ix (T4 o f t).fst x)) o.Main.Start.I3)).fst)+A8 (etI o.Main)<=1000000000000000/\x_4.length<=100000)/\c6 (x+1)/\I (x+1) x_2 x_3 (J0 x_2 x_3 (x_4,decide (x_5=true)) (j6 (w6 (105:Nat) (V9 o) (I8.mk (j6 (ix (T4 o f t).fst x)) o.Main.Start.I3)).fst) (A8 (etI o.Main)) (j6 (ix (T4 o f t).fst x)) false).fst (decide ((J0 x_2 x_3 (x_4,decide (x_5=true)) (j6 (w6 (105:Nat) (V9 o) (I8.mk (j6 (ix (T4 o f t).fst x)) o.Main.Start.I3)).fst) (A8 (etI o.Main)) (j6 (ix (T4 o f t).fst x)) false).snd=true))/\m (x+1) x_2 x_3 (J0 x_2 x_3 (x_4,decide (x_5=true)) (j6 (w6 (105:Nat) (V9 o) (I8.mk (j6 (ix (T4 o f t).fst x)) o.Main.Start.I3)).fst) (A8 (etI o.Main)) (j6 (ix (T4 o f t).fst x)) false).fst (decide ((J0 x_2 x_3 (x_4,decide (x_5=true)) (j6 (w6 (105:Nat) (V9 o) (I8.mk (j6 (ix (T4 o f t).fst x)) o.Main.Start.I3)).fst) (A8 (etI o.Main)) (j6 (ix (T4 o f t).fst x)) false).snd=true))<m x x_2 x_3 x_4 x_5)))))) (∃(I:Int->Int->Int->List Ins->Bool->Prop),∃(m:Int->Int->Int->List Ins->Bool->Nat),I 0 x_2 x_3 x_4 (decide (x_5=true))/\∀(x x_6 x_7:Int)(x_8:List Ins)(x_9:Bool),I x x_6 x_7 x_8 x_9->(bR (x<(↑o.Over.length:Int)) (0<=x/\x<(↑o.Over.length:Int)/\(0:Int)<=0/\0<(↑(ix o.Over x).p5.length:Int)/\(bR (¬getM x_1 (j6 (ix (ix o.Over x).p5 0).Time)=true) (c6 (x+1)/\I (x+1) x_6 x_7 x_8 (decide (x_9=true))/\m (x+1) x_6 x_7 x_8 (decide (x_9=true))<m x x_6 x_7 x_8 x_9) ((∀(z:V8),z∈o.c9->X5 z)/\(↑o.c9.length:Int)<=1000000/\(bR ((w6 (105:Nat) (V9 o) (etM (ix o.Over x).Start)).snd≠l8.nil) (J (w6 (105:Nat) (V9 o) (etM (ix o.Over x).Start)).snd x_6 x_7 x_8 (decide (x_9=true))) (((0:Int)<=0/\0<(↑(ix o.Over x).p5.length:Int))/\((-1000000000000000:Int)<=b8 (j6 (w6 (105:Nat) (V9 o) (etM (ix o.Over x).Start)).fst)+A8 (etI (ix o.Over x))/\b8 (j6 (w6 (105:Nat) (V9 o) (etM (ix o.Over x).Start)).fst)+A8 (etI (ix o.Over x))<=1000000000000000/\x_8.length<=100000)/\c6 (x+1)/\I (x+1) x_6 x_7 (J0 x_6 x_7 (x_8,decide (x_9=true)) (j6 (w6 (105:Nat) (V9 o) (etM (ix o.Over x).Start)).fst) (A8 (etI (ix o.Over x))) (j6 (ix (ix o.Over x).p5 0).Time) true).fst (decide ((J0 x_6 x_7 (x_8,decide (x_9=true)) (j6 (w6 (105:Nat) (V9 o) (etM (ix o.Over x).Start)).fst) (A8 (etI (ix o.Over x))) (j6 (ix (ix o.Over x).p5 0).Time) true).snd=true))/\m (x+1) x_6 x_7 (J0 x_6 x_7 (x_8,decide (x_9=true)) (j6 (w6 (105:Nat) (V9 o) (etM (ix o.Over x).Start)).fst) (A8 (etI (ix o.Over x))) (j6 (ix (ix o.Over x).p5 0).Time) true).fst (decide ((J0 x_6 x_7 (x_8,decide (x_9=true)) (j6 (w6 (105:Nat) (V9 o) (etM (ix o.Over x).Start)).fst) (A8 (etI (ix o.Over x))) (j6 (ix (ix o.Over x).p5 0).Time) true).snd=true))<m x x_6 x_7 x_8 x_9))))) (J l8.nil x_6 x_7 x_8 (decide (x_9=true)))))))))))/\∀(x:l8)(x_1 x_2:Int)(x_3:List Ins)(x_4:Bool),J x x_1 x_2 x_3 x_4->(bR (x≠l8.nil) (asB x=true/\Q [] (U6 x)) ((bR (x_4=true) (Q [] (l8.no 3)) ((bR (1000<(↑x_3.length:Int)) (Q [] (l8.no 16)) (x_3.length<=1000000/\(∀(x:Ins),x∈x_3->∀(y:Ins),y∈x_3->b8 x.Start=b8 y.Start->b8 x.u9=b8 y.u9->x=y)/\Q (a9T x_3) l8.nil))))))))))
def c6K(o:F3)(t:Tm):asB (Y5 105 o t).2=true:=by
 have h:∀(l:List Rl)(b:Bool),asB (a4e 105 o.Main.Start.Time t b l).2=true:=by
  intro l
  induction l with
  |nil=>intro b;rfl
  |cons r l ih=>intro b;unfold a4e;split;exact ih _;rfl
 unfold Y5;dsimp only;split
 . rfl
 . exact h _ _
def d0f(o:F3)(a b:Int):asB (P4 105 o a b).2=true:=by
 have h:∀(l:List Rl)(x:List Tm),asB (tmE 105 o a b x l).2=true:=by
  intro l
  induction l with
  |nil=>intro x;rfl
  |cons r l ih=>intro x;unfold tmE;split;exact ih _;rfl
 unfold P4;split
 . rfl
 . exact h _ _
def b6r(o:F3)(m:I8):asB (w6 105 o m).2=true:=by
 unfold w6
 first|exact b0e _ _|(split;rfl;exact b0e _ _)
def pqi(o:F3)(f:Tm)(t:Tm)(ho:a1D o):Vqi o f t (fun y0 y1=>y0=(J5 105 o f t).1/\y1=(J5 105 o f t).2):=by
 unfold Vqi T4;simp only[y6,A7,B3,C9,C6,C5,C4,C3,C2,D0,B7,d4F,d7h,d8w,d8v];have hz:=ho.2.2.2.2.2.2.2.1;have hzl:=ho.2.2.1;have hfi:=ho.2.2.2.2.2.2.1;have hol:=ho.2.2.2.1;generalize hF:b8 f=F at *;generalize hT:b8 t=T at *;refine⟨ho,fun h=>?_,fun h=>?_⟩
 . have e:J5 105 o f t=([],.no 2):=by
     unfold J5;refine if_neg fun hA=>?_;obtain⟨a1,a2,a3,a4,a5,a6⟩:=hA;rcases h with((((h|h)|h)|h)|h)|h
     . exact h (z6.2 a1)
     . exact h a2
     . exact h a3
     . exact h a4
     . exact h a5
     . omega
   rw[e];exact⟨rfl,rfl⟩
 have hO:a0s o:=z6.1 (d4y.1 fun e=>h (.inl (.inl (.inl (.inl (.inl e))))));have hf:o7 f=true:=d4y.1 fun e=>h (.inl (.inl (.inl (.inl (.inr e)))));have ht:o7 t=true:=d4y.1 fun e=>h (.inl (.inl (.inl (.inr e))));have hfu:f.UTC=true:=d4y.1 fun e=>h (.inl (.inl (.inr e)));have htu:t.UTC=true:=d4y.1 fun e=>h (.inl (.inr e));have hle:¬T<F:=fun e=>h (.inr e);clear h;have hI:=hO.2.2.2.1;have hA:c2M o f t:=⟨hO,hf,ht,hfu,htu,by omega⟩;have hln:=a7q hI;have sf:=Go.Re.x9 hf;have st:=Go.Re.x9 ht;rw[hF]at sf;rw[hT]at st;have htm:a2g o.Main/\(0<=A8 o.Main/\A8 o.Main<=400000000000)/\(0<=F/\F<315537897600)/\(0<=T/\T<315537897600)/\b1v (tmA 105 o F T):=⟨hfi,hln,sf,st,b6v hI⟩;have eq0:J5 105 o f t=if(P4 105 o F T).2=.nil then
   if(gaS 105 o F T).2=.nil then
    if(gaS 105 o F T).1.2=true then([],.no 3)else
    if 1000<(gaS 105 o F T).1.1.length then([],.no 16)else
    (a9T (gaS 105 o F T).1.1,.nil)
   else([],U6 (gaS 105 o F T).2)
  else([],U6 (P4 105 o F T).2):=by
  unfold J5;rw[if_pos hA,hF,hT]
 have key:∀i:Int,0<=i->i<o.Over.length->0<((ix o.Over i).p5.length:Int):=fun i i0 hi=>by have:=(hO.2.2.2.2.2 i i0 hi).1;omega
 refine⟨htm,fun he=>⟨d0f _ _ _,?_⟩,fun he=>?_⟩
 . rw[eq0,if_neg he];exact⟨rfl,rfl⟩
 have he2:(P4 105 o F T).2=.nil:=d4y.1 he;rw[if_pos he2]at eq0;have hTl:=@c6E 105 o F T hfi;refine⟨fun e _ _ l p=>asB e=true/\(gaS 105 o F T).2=e/\(e=.nil->(gaS 105 o F T).1=(l,p)),⟨fun i m=>0<=i/\i<=o.Over.length/\ovM 105 o [] o.Over=ovM 105 o m (o.Over.drop i.toNat),fun i _=>((o.Over.length:Int)-i).toNat,⟨by omega,by omega,rfl⟩,?_⟩,?_⟩
 . rintro i m ⟨i0,i1,hm⟩;refine⟨fun hi=>?_,fun hi=>?_⟩
   . rw[a65 i0 hi,ovM]at hm;unfold K4 at hm;have hr:=key i i0 hi;refine⟨i0,hi,⟨by omega,hr⟩,hfi,fun he=>⟨c6K _ _,?_,fun e=>absurd e he⟩,fun he=>⟨by omega,hr,⟨by omega,by omega⟩,⟨by omega,by omega,?_⟩,by dsimp only;omega⟩⟩
     . rw[if_neg he]at hm;rw[c9m (by rw[hm];exact he),hm]
     . rw[if_pos (d4y.1 he)]at hm;exact hm
   rw[d6g (by omega),ovM]at hm;have o1:(ovM 105 o [] o.Over).2=.nil:=by rw[hm]
   have o2:(ovM 105 o [] o.Over).1=m:=by rw[hm]
   have o0:q7 (o.Over.length:Int) fun _=>True:=fun _ _ _=>trivial;clear i0 i1 hi hm i;refine⟨htm,fun he=>absurd he2 he,fun _=>?_⟩;refine⟨fun i a' b' l p=>F=a'/\T=b'/\0<=i/\i<=(P4 105 o F T).1.length/\(l.length:Int)<=i/\ga1 105 o F T m ([],false) (P4 105 o F T).1=ga1 105 o F T m (l,p) ((P4 105 o F T).1.drop i.toNat),fun i _ _ _ _=>(((P4 105 o F T).1.length:Int)-i).toNat,⟨rfl,rfl,by omega,by omega,by show(0:Int)<=0;omega,rfl⟩,?_⟩;rintro i a' b' l p ⟨rfl,rfl,i0,i1,hll,hm⟩;refine⟨fun hi=>?_,fun hi=>?_⟩
   . rw[a65 i0 hi,ga1]at hm;unfold moI at hm;refine⟨i0,hi,fun _ _ _ _ _ _=>⟨fun hg=>⟨⟨by omega,by omega⟩,⟨rfl,rfl,by omega,by omega,by omega,?_⟩,by dsimp only;omega⟩,fun hg=>⟨hz,by omega,fun he=>⟨b6r _ _,?_,fun e=>absurd e he⟩,fun he=>⟨⟨?_,?_,by omega⟩,⟨by omega,by omega⟩,⟨rfl,rfl,by omega,by omega,?_,?_⟩,by dsimp only;omega⟩⟩⟩⟩
     . rw[if_pos hg]at hm;exact hm
     . rw[if_neg hg,if_neg he]at hm;rw[<- o2]at hm;rw[d1y o1 he2 (by rw[hm];exact he),hm]
     all_goals have he:=d4y.1 he
     . have g:=a3I (b2Q hI he2 (u7 i0 hi)).rt (m:=⟨ix (P4 105 o F T).1 i,o.Main.Start.I3⟩) he;have:=a1N (ix (P4 105 o F T).1 i);have g2:-86400<_-b8 (ix (P4 105 o F T).1 i):=g.2.1;omega
     . have:=a1N (w6 105 o ⟨ix (P4 105 o F T).1 i,o.Main.Start.I3⟩).1;omega
     . have:=b2t F T (l,p) (w6 105 o ⟨ix (P4 105 o F T).1 i,o.Main.Start.I3⟩).1 (A8 o.Main) (ix (P4 105 o F T).1 i) false;dsimp only at this;omega
     . rw[if_neg hg,if_pos he]at hm;exact hm
   rw[d6g (by omega),ga1]at hm;rw[<- o2]at hm;have o3:(ga1 105 o F T (ovM 105 o [] o.Over).1 ([],false) (P4 105 o F T).1).2=.nil:=by rw[hm]
   have hg4:=d1D o1 he2 o3;rw[hm,o2]at hg4;dsimp only at hg4;have hl0:(l.length:Int)<=1200:=by omega
   clear i0 i1 hll hi hm i o3;refine⟨fun i a' b' l p=>F=a'/\T=b'/\0<=i/\i<=o.Over.length/\(l.length:Int)<=1200+i/\gaS 105 o F T=ga2 105 o F T m (l,p) (o.Over.drop i.toNat),fun i _ _ _ _=>((o.Over.length:Int)-i).toNat,⟨rfl,rfl,by omega,by omega,by omega,hg4⟩,?_⟩;clear hg4 hl0 l p;rintro i a' b' l p ⟨rfl,rfl,i0,i1,hll,hm⟩;refine⟨fun hi=>?_,fun hi=>?_⟩
   . rw[a65 i0 hi,ga2]at hm;unfold K4 at hm;have hr:=key i i0 hi;refine⟨i0,hi,by omega,hr,fun hg=>⟨⟨by omega,by omega⟩,⟨rfl,rfl,by omega,by omega,by omega,?_⟩,by dsimp only;omega⟩,fun hg=>⟨hz,by omega,fun he=>⟨b6r _ _,?_,fun e=>absurd e he⟩,fun he=>⟨⟨by omega,hr⟩,⟨?_,?_,by omega⟩,⟨by omega,by omega⟩,⟨rfl,rfl,by omega,by omega,?_,?_⟩,by dsimp only;omega⟩⟩⟩
     . rw[if_pos hg]at hm;exact hm
     . rw[if_neg hg,if_neg he]at hm;rw[hm]
     all_goals have he:=d4y.1 he
     all_goals have hx:=(a4c hO (u7 i0 hi)).2
     all_goals have hlx:=a7q hx
     . have g:=a3I hx.1.1 he;have:=a1N (ix o.Over i).Start.Time;omega
     . have:=a1N (w6 105 o (ix o.Over i).Start).1;omega
     . have:=b2t F T (l,p) (w6 105 o (ix o.Over i).Start).1 (A8 (ix o.Over i)) (ix (ix o.Over i).p5 0).Time true;dsimp only at this;omega
     . rw[if_neg hg,if_pos he]at hm;exact hm
   . rw[d6g (by omega),ga2]at hm;rw[hm];exact⟨rfl,rfl,fun _=>rfl⟩
 . rintro e a' b' l p ⟨ha,hg,hn⟩;refine⟨fun he=>⟨ha,?_⟩,fun he=>?_⟩
   . rw[eq0,if_neg (by rw[hg];exact he),hg];exact⟨rfl,rfl⟩
   have he:=d4y.1 he;have hn:=hn he;rw[he]at hg;rw[if_pos hg,hn]at eq0;dsimp only at eq0;refine⟨fun hp=>?_,fun hp=>⟨fun hk=>?_,fun hk=>⟨by omega,fun x hx y hy e1 e2=>?_,?_⟩⟩⟩
   . rw[eq0,if_pos hp];exact⟨rfl,rfl⟩
   . rw[eq0,if_neg hp,if_pos (by omega)];exact⟨rfl,rfl⟩
   . have ht:=c6k hO hg;rw[hn]at ht;exact ht x hx y hy e1 e2
   . rw[eq0,if_neg hp,if_neg (by omega)];exact⟨rfl,rfl⟩
def Nqi:Env:=d2H.kD 9 (r38.c (r26.c (r26.c .n))) (.acc 48) (.err) (fun y=>[a1D y.1]) (fun y=>((J5 105 y.1 y.2.1 y.2.2.1).1:List Ins)) (fun y=>((J5 105 y.1 y.2.1 y.2.2.1).2:l8))
def Nqi_ok:c8 Nqi:=NI28_ok.kD Tryz.call9 Tryz.func9 (inlHN_ok NI28_ok H0_ok c9u 5) (an:=c9u 9) (fun _=>rfl) fun y ho=>kc (pqi y.1 y.2.1 y.2.2.1 ho.1) (by kernel_rfl)
end Go.Proofs.YtapnoejokajcoaaGreatDoor
namespace Go.Qu
open Go Go.Wk Go.Wl Go.Rx Go.Re Go.Li Go.Fo
noncomputable section
def J4(d:Int):Tm:=⟨⟨2000,1,d⟩,0,0,0,false,true⟩
def b48:Rl:=Rl.mk 3 1 0 [] [] [] [] [] [] [] [] [] [] 0
def oEx:F3:=⟨evN,[117],[],⟨⟨dyS 2000 1 1,[]⟩,[],[],[b48],[],[⟨dyS 2000 1 2,[]⟩],[],[],[]⟩,[],[]⟩
def b6p:A1 (dyS 2000 1 1) b48:=by refine⟨by decide,q8.2 ⟨by decide,⟨by decide,fun h=>absurd h (by decide)⟩,b7r,by decide,⟨fun i h0 h1=>absurd h1 (by simp[b48];omega),fun i h0 h1=>absurd h1 (by simp[b48];omega)⟩,by decide,by decide⟩,fun h=>absurd h (by decide),fun _=>by decide⟩
def b68(d:Int)(h:o7 (dyS 2000 1 d)=true):V0 [] ⟨dyS 2000 1 d,[]⟩:=⟨h,fun h=>absurd rfl h⟩
def c6V:R8 [] oEx.Main:=by
 refine⟨b68 1 (by decide),by decide,by decide,by decide,fun i h0 h1=>absurd h1 (by simp[oEx];omega),fun i h0 h1=>absurd h1 (by simp[oEx];omega),fun i h0 h1=>?_,fun i h0 h1=>absurd h1 (by simp[oEx];omega),fun i h0 h1=>absurd h1 (by simp[oEx];omega),?_,?_,?_⟩
 . have h1:i<1:=h1;have:i=0:=by omega
   subst this;exact I4.2 b6p
 . exact⟨fun i h0 h1=>absurd h1 (by simp[oEx];omega),by decide⟩
 . refine⟨fun i h0 h1=>?_,by decide⟩;have h1:i<1:=h1;have:i=0:=by omega
   subst this;exact⟨b68 2 (by decide),by decide,fun h=>by omega⟩
 . exact⟨fun i h0 h1=>absurd h1 (by simp[oEx];omega),by decide⟩
def c1T:a0s oEx:=by refine⟨⟨.inl rfl,by decide,by decide,by decide,by decide,by decide⟩,by decide,?_,c6V,fun i h0 h1=>absurd h1 (by simp[oEx];omega),fun i h0 h1=>absurd h1 (by simp[oEx];omega)⟩;exact⟨fun i h0 h1=>absurd h1 (by simp[oEx];omega),by decide⟩
def lEx:List Tm:=[dyS 2000 1 1,dyS 2000 1 3,dyS 2000 1 4,dyS 2000 1 5]
def c5q(qa:Nat):P4 qa oEx (b8 (J4 1)) (b8 (J4 4))=(lEx,.nil):=by
 have he:J3 (dyS 2000 1 1) b48 (P8 (b8 (J4 1)-172800-A8 oEx.Main) (dyS 2000 1 1)) (P8 (b8 (J4 4)+172800) (dyS 2000 1 1))=([dyS 2000 1 1,dyS 2000 1 2,dyS 2000 1 3,dyS 2000 1 4,dyS 2000 1 5],.nil):=
  c3l b6p (by decide) (by decide) (by kernel_rfl) (by kernel_rfl)
 have h1:tmE qa oEx (b8 (J4 1)) (b8 (J4 4)) [oEx.Main.Start.Time] oEx.Main.b9=([dyS 2000 1 1,dyS 2000 1 2,dyS 2000 1 3,dyS 2000 1 4,dyS 2000 1 5],.nil):=by
  show tmE qa oEx (b8 (J4 1)) (b8 (J4 4)) [dyS 2000 1 1] [b48]=_
  have e:tmR oEx (b8 (J4 1)) (b8 (J4 4)) b48=_:=he;rw[tmE,if_pos (by rw[e]),e,tmE]
 have h2:tmA qa oEx (b8 (J4 1)) (b8 (J4 4))=lEx:=by unfold tmA;rw[h1];kernel_rfl
 have h3:a7z lEx=lEx:=d7k (by decide);have h4:ded lEx=lEx:=by kernel_rfl
 unfold P4;rw[if_pos (by rw[h1]),h2,h3,h4]
def b4e(qa:Nat):J5 qa oEx (J4 1) (J4 4)=([⟨J4 1,J4 2,dyS 2000 1 1,false⟩,⟨J4 3,J4 4,dyS 2000 1 3,false⟩],.nil):=by
 have hg:gaS qa oEx (b8 (J4 1)) (b8 (J4 4))=(([⟨J4 1,J4 2,dyS 2000 1 1,false⟩,⟨J4 3,J4 4,dyS 2000 1 3,false⟩],false),.nil):=by unfold gaS;rw[c5q];kernel_rfl
 have hs:a9T [⟨J4 1,J4 2,dyS 2000 1 1,false⟩,⟨J4 3,J4 4,dyS 2000 1 3,false⟩]=[⟨J4 1,J4 2,dyS 2000 1 1,false⟩,⟨J4 3,J4 4,dyS 2000 1 3,false⟩]:=d7k (by decide);have hA:c2M oEx (J4 1) (J4 4):=⟨c1T,by decide,by decide,rfl,rfl,by decide⟩;unfold J5;rw[if_pos hA,hg,c5q];show(if l8.nil=l8.nil then _ else _)=_
 rw[if_pos rfl];show(if l8.nil=l8.nil then _ else _)=_
 rw[if_pos rfl,if_neg (by decide),if_neg (by decide)];show(a9T _,l8.nil)=_
 rw[hs]
def c4g:b8c oEx oEx.Main=86400:=by unfold b8c;rw[if_pos ⟨c1T,by decide⟩];decide
def b9x:a1D oEx:=
 ⟨by decide,by decide,by decide,by decide,(fun _ h=>by cases h),by decide,⟨by decide,by decide,by decide,by decide,by decide,by decide,by decide,(fun r hr=>by rw[d4G.1 hr];decide),(fun _ h=>by cases h),(fun _ h=>by cases h),by decide⟩,(fun _ h=>by cases h),(fun _ h=>by cases h)⟩
end
end Go.Qu
namespace Go.Proofs.YtapnoejokajcoaaGreatDoor
open Go Go.Wk Go.Wl Go.Rx Go.Re Go.Li Go.Qu Go.Fo 
attribute [local irreducible] i7
def c4z:Nat->D1:=fun|8=>⟨43,nn,nn⟩|_=>⟨0,nn,nn⟩
def d0t  (Q:Bool->Prop):Prop:=
a1D (F3.mk [(86:UInt8),(69:UInt8),(86:UInt8),(69:UInt8),(78:UInt8),(84:UInt8)] [(117:UInt8)] [] (R1.mk (I8.mk (Tm.mk (Dy.mk (2000:Int) (1:Int) (1:Int)) (0:Int) (0:Int) (0:Int) (decide (true=true)) (decide (false=true))) []) [] [] [Rl.mk (3:Int) (1:Int) (0:Int) [] [] [] [] [] [] [] [] [] [] (0:Int)] [] [I8.mk (Tm.mk (Dy.mk (2000:Int) (1:Int) (2:Int)) (0:Int) (0:Int) (0:Int) (decide (true=true)) (decide (false=true))) []] [] [] []) [] [])/\((J5 (105:Nat) (F3.mk [(86:UInt8),(69:UInt8),(86:UInt8),(69:UInt8),(78:UInt8),(84:UInt8)] [(117:UInt8)] [] (R1.mk (I8.mk (Tm.mk (Dy.mk (2000:Int) (1:Int) (1:Int)) (0:Int) (0:Int) (0:Int) (decide (true=true)) (decide (false=true))) []) [] [] [Rl.mk (3:Int) (1:Int) (0:Int) [] [] [] [] [] [] [] [] [] [] (0:Int)] [] [I8.mk (Tm.mk (Dy.mk (2000:Int) (1:Int) (2:Int)) (0:Int) (0:Int) (0:Int) (decide (true=true)) (decide (false=true))) []] [] [] []) [] []) (Tm.mk (Dy.mk (2000:Int) (1:Int) (1:Int)) (0:Int) (0:Int) (0:Int) (decide (false=true)) (decide (true=true))) (Tm.mk (Dy.mk (2000:Int) (1:Int) (4:Int)) (0:Int) (0:Int) (0:Int) (decide (false=true)) (decide (true=true)))).snd.nr=(0:Int)->(↑(J5 (105:Nat) (F3.mk [(86:UInt8),(69:UInt8),(86:UInt8),(69:UInt8),(78:UInt8),(84:UInt8)] [(117:UInt8)] [] (R1.mk (I8.mk (Tm.mk (Dy.mk (2000:Int) (1:Int) (1:Int)) (0:Int) (0:Int) (0:Int) (decide (true=true)) (decide (false=true))) []) [] [] [Rl.mk (3:Int) (1:Int) (0:Int) [] [] [] [] [] [] [] [] [] [] (0:Int)] [] [I8.mk (Tm.mk (Dy.mk (2000:Int) (1:Int) (2:Int)) (0:Int) (0:Int) (0:Int) (decide (true=true)) (decide (false=true))) []] [] [] []) [] []) (Tm.mk (Dy.mk (2000:Int) (1:Int) (1:Int)) (0:Int) (0:Int) (0:Int) (decide (false=true)) (decide (true=true))) (Tm.mk (Dy.mk (2000:Int) (1:Int) (4:Int)) (0:Int) (0:Int) (0:Int) (decide (false=true)) (decide (true=true)))).fst.length:Int)<=(1000000:Int)/\(bo ((J5 (105:Nat) (F3.mk [(86:UInt8),(69:UInt8),(86:UInt8),(69:UInt8),(78:UInt8),(84:UInt8)] [(117:UInt8)] [] (R1.mk (I8.mk (Tm.mk (Dy.mk (2000:Int) (1:Int) (1:Int)) (0:Int) (0:Int) (0:Int) (decide (true=true)) (decide (false=true))) []) [] [] [Rl.mk (3:Int) (1:Int) (0:Int) [] [] [] [] [] [] [] [] [] [] (0:Int)] [] [I8.mk (Tm.mk (Dy.mk (2000:Int) (1:Int) (2:Int)) (0:Int) (0:Int) (0:Int) (decide (true=true)) (decide (false=true))) []] [] [] []) [] []) (Tm.mk (Dy.mk (2000:Int) (1:Int) (1:Int)) (0:Int) (0:Int) (0:Int) (decide (false=true)) (decide (true=true))) (Tm.mk (Dy.mk (2000:Int) (1:Int) (4:Int)) (0:Int) (0:Int) (0:Int) (decide (false=true)) (decide (true=true)))).fst=[Ins.mk (Tm.mk (Dy.mk (2000:Int) (1:Int) (1:Int)) (0:Int) (0:Int) (0:Int) (decide (false=true)) (decide (true=true))) (Tm.mk (Dy.mk (2000:Int) (1:Int) (2:Int)) (0:Int) (0:Int) (0:Int) (decide (false=true)) (decide (true=true))) (Tm.mk (Dy.mk (2000:Int) (1:Int) (1:Int)) (0:Int) (0:Int) (0:Int) (decide (true=true)) (decide (false=true))) false,Ins.mk (Tm.mk (Dy.mk (2000:Int) (1:Int) (3:Int)) (0:Int) (0:Int) (0:Int) (decide (false=true)) (decide (true=true))) (Tm.mk (Dy.mk (2000:Int) (1:Int) (4:Int)) (0:Int) (0:Int) (0:Int) (decide (false=true)) (decide (true=true))) (Tm.mk (Dy.mk (2000:Int) (1:Int) (3:Int)) (0:Int) (0:Int) (0:Int) (decide (true=true)) (decide (false=true))) false])=true->a1D (F3.mk [(86:UInt8),(69:UInt8),(86:UInt8),(69:UInt8),(78:UInt8),(84:UInt8)] [(117:UInt8)] [] (R1.mk (I8.mk (Tm.mk (Dy.mk (2000:Int) (1:Int) (1:Int)) (0:Int) (0:Int) (0:Int) (decide (true=true)) (decide (false=true))) []) [] [] [Rl.mk (3:Int) (1:Int) (0:Int) [] [] [] [] [] [] [] [] [] [] (0:Int)] [] [I8.mk (Tm.mk (Dy.mk (2000:Int) (1:Int) (2:Int)) (0:Int) (0:Int) (0:Int) (decide (true=true)) (decide (false=true))) []] [] [] []) [] []))/\Q (decide (bo ((J5 (105:Nat) (F3.mk [(86:UInt8),(69:UInt8),(86:UInt8),(69:UInt8),(78:UInt8),(84:UInt8)] [(117:UInt8)] [] (R1.mk (I8.mk (Tm.mk (Dy.mk (2000:Int) (1:Int) (1:Int)) (0:Int) (0:Int) (0:Int) (decide (true=true)) (decide (false=true))) []) [] [] [Rl.mk (3:Int) (1:Int) (0:Int) [] [] [] [] [] [] [] [] [] [] (0:Int)] [] [I8.mk (Tm.mk (Dy.mk (2000:Int) (1:Int) (2:Int)) (0:Int) (0:Int) (0:Int) (decide (true=true)) (decide (false=true))) []] [] [] []) [] []) (Tm.mk (Dy.mk (2000:Int) (1:Int) (1:Int)) (0:Int) (0:Int) (0:Int) (decide (false=true)) (decide (true=true))) (Tm.mk (Dy.mk (2000:Int) (1:Int) (4:Int)) (0:Int) (0:Int) (0:Int) (decide (false=true)) (decide (true=true)))).fst=[Ins.mk (Tm.mk (Dy.mk (2000:Int) (1:Int) (1:Int)) (0:Int) (0:Int) (0:Int) (decide (false=true)) (decide (true=true))) (Tm.mk (Dy.mk (2000:Int) (1:Int) (2:Int)) (0:Int) (0:Int) (0:Int) (decide (false=true)) (decide (true=true))) (Tm.mk (Dy.mk (2000:Int) (1:Int) (1:Int)) (0:Int) (0:Int) (0:Int) (decide (true=true)) (decide (false=true))) false,Ins.mk (Tm.mk (Dy.mk (2000:Int) (1:Int) (3:Int)) (0:Int) (0:Int) (0:Int) (decide (false=true)) (decide (true=true))) (Tm.mk (Dy.mk (2000:Int) (1:Int) (4:Int)) (0:Int) (0:Int) (0:Int) (decide (false=true)) (decide (true=true))) (Tm.mk (Dy.mk (2000:Int) (1:Int) (3:Int)) (0:Int) (0:Int) (0:Int) (decide (true=true)) (decide (false=true))) false])=true/\b8c (F3.mk [(86:UInt8),(69:UInt8),(86:UInt8),(69:UInt8),(78:UInt8),(84:UInt8)] [(117:UInt8)] [] (R1.mk (I8.mk (Tm.mk (Dy.mk (2000:Int) (1:Int) (1:Int)) (0:Int) (0:Int) (0:Int) (decide (true=true)) (decide (false=true))) []) [] [] [Rl.mk (3:Int) (1:Int) (0:Int) [] [] [] [] [] [] [] [] [] [] (0:Int)] [] [I8.mk (Tm.mk (Dy.mk (2000:Int) (1:Int) (2:Int)) (0:Int) (0:Int) (0:Int) (decide (true=true)) (decide (false=true))) []] [] [] []) [] []) (R1.mk (I8.mk (Tm.mk (Dy.mk (2000:Int) (1:Int) (1:Int)) (0:Int) (0:Int) (0:Int) (decide (true=true)) (decide (false=true))) []) [] [] [Rl.mk (3:Int) (1:Int) (0:Int) [] [] [] [] [] [] [] [] [] [] (0:Int)] [] [I8.mk (Tm.mk (Dy.mk (2000:Int) (1:Int) (2:Int)) (0:Int) (0:Int) (0:Int) (decide (true=true)) (decide (false=true))) []] [] [] [])=(86400:Int))))/\(¬(J5 (105:Nat) (F3.mk [(86:UInt8),(69:UInt8),(86:UInt8),(69:UInt8),(78:UInt8),(84:UInt8)] [(117:UInt8)] [] (R1.mk (I8.mk (Tm.mk (Dy.mk (2000:Int) (1:Int) (1:Int)) (0:Int) (0:Int) (0:Int) (decide (true=true)) (decide (false=true))) []) [] [] [Rl.mk (3:Int) (1:Int) (0:Int) [] [] [] [] [] [] [] [] [] [] (0:Int)] [] [I8.mk (Tm.mk (Dy.mk (2000:Int) (1:Int) (2:Int)) (0:Int) (0:Int) (0:Int) (decide (true=true)) (decide (false=true))) []] [] [] []) [] []) (Tm.mk (Dy.mk (2000:Int) (1:Int) (1:Int)) (0:Int) (0:Int) (0:Int) (decide (false=true)) (decide (true=true))) (Tm.mk (Dy.mk (2000:Int) (1:Int) (4:Int)) (0:Int) (0:Int) (0:Int) (decide (false=true)) (decide (true=true)))).snd.nr=(0:Int)->Q false)
def d3J   : d0t  (fun y0=>y0=true):=by
 unfold d0t;refine⟨b9x,fun _=>⟨?_,fun _=>b9x,d4K ⟨?_,c4g⟩⟩,fun h=>absurd ?_ h⟩
 . show((J5 105 oEx (J4 1) (J4 4)).1.length:Int)<=1000000
   rw[b4e];decide
 . refine z6.2 ?_;show(J5 105 oEx (J4 1) (J4 4)).1=_
   rw[b4e];rfl
 . show(J5 105 oEx (J4 1) (J4 4)).2.nr=0
   rw[b4e];rfl
def d4p:Env:=Nqi.kL 8 AL.n (.bool) (fun _=>[]) (fun y=>true)
def Nl4v_ok:c8 d4p:=Nqi_ok.kL Tryz.call8 Tryz.func8 (inlHN_ok Nqi_ok H0_ok c4z 2) (an:=c4z 8) (fun _ _=>trivial) fun y ho=>kc (d3J  ) (by kernel_rfl)
def c63:Nat->D1:=fun|5=>⟨111,fun|15=>some ⟨[9,99,100],[.slot 101 (.int .i64)]⟩|9=>some ⟨[9,11,13,78,79],[.slot 80 (.int .i64)]⟩|_=>none,nn⟩|_=>⟨0,nn,nn⟩
def a3i(o:F3)(f:Tm)(t:Tm):=J5 (105:Nat) (V9 o) (j6 f) (j6 t)
def a3j(o:F3)(f:Tm)(m:Tm):=J5 (105:Nat) (V9 o) (j6 f) (j6 m)
def a5r(o:F3)(m:Tm)(t:Tm):=J5 (105:Nat) (V9 o) (j6 m) (j6 t)
def d2F(o:F3)(f:Tm)(m:Tm)(t:Tm)(Q:Bool->Prop):Prop:=
((↑(a5I (V9 o) (j6 t)).length:Int)<=1000000/\(↑o.Main.b9.length:Int)<=1000000/\(↑(List.length o.Kind):Int)<=140737488355328/\(↑(List.length o.UID):Int)<=140737488355328)/\(bR ((¬c3X (V9 o) (j6 t)=true∨b8 (j6 m)<b8 (j6 f))∨b8 (j6 t)<b8 (j6 m)) (Q (decide (true=true))) (a1D (V9 o)/\a1D (V9 o)/\a1D (V9 o)/\(bR ((((a3i o f t).snd.nr≠0∨(a3j o f m).snd.nr≠0)∨(a5r o m t).snd.nr≠0)∨300<(↑(a3i o f t).fst.length:Int)) (Q (decide (true=true))) (∃(I:Int->Prop),∃(m_1:Int->Nat),I 0/\∀(x:Int),I x->(bR (x<(↑(a3i o f t).fst.length:Int)) (0<=x/\x<(↑(a3i o f t).fst.length:Int)/\(↑(a3j o f m).fst.length:Int)<=1000000/\(¬Qu.inB (a3j o f m).fst (etN (ix (a3i o f t).fst x))=true->(↑(a5r o m t).fst.length:Int)<=1000000)/\(bR (¬Qu.inB (a3j o f m).fst (etN (ix (a3i o f t).fst x))=true/\¬Qu.inB (a5r o m t).fst (etN (ix (a3i o f t).fst x))=true) (Q false) (c6 (x+1)/\I (x+1)/\m_1 (x+1)<m_1 x))) ((([]:List UInt8).length+(a3j o f m).fst.length)*(some (176:Nat)).getD (0:Nat)<=140737488355328/\(([]++(a3j o f m).fst).length+(a5r o m t).fst.length)*(some (176:Nat)).getD (0:Nat)<=140737488355328/\∃(I:Int->Prop),∃(m_2:Int->Nat),I 0/\∀(x:Int),I x->(bR (x<(↑([]++(a3j o f m).fst++(a5r o m t).fst).length:Int)) (0<=x/\x<(↑([]++(a3j o f m).fst++(a5r o m t).fst).length:Int)/\(↑(a3i o f t).fst.length:Int)<=1000000/\(bR (¬Qu.inB (a3i o f t).fst (etN (ix ([]++(a3j o f m).fst++(a5r o m t).fst) x))=true) (Q false) (c6 (x+1)/\I (x+1)/\m_2 (x+1)<m_2 x))) (Q (decide (true=true))))))))))
def V4{l:List K3}(h:a3g l=true):(∀p∈l,z7 p)/\(l.length:Int)<=1000000:=by have r:=z6.1 h;exact⟨(q7.list (p:=z7)).1 (fun j j0 j1=>a9p (r.2.1 j j0 j1)),by have:=r.1;omega⟩
def b3v{x:R1}(h:a8B x=true):a2g x:=by obtain⟨⟨a,b,c,d,e,f,g,p⟩,r,al⟩:=z6.1 h;exact⟨by omega,by omega,by omega,by omega,by omega,by omega,by omega,(q7.list (p:=fun r:Rl=>F6 r=true)).1 r,(q7.list (p:=fun a:Alm=>(∀p∈a.Extra,z7 p)/\(a.Extra.length:Int)<=1000000)).1 fun j j0 j1=>V4 (al j j0 j1).2.2,(V4 p).1,(V4 p).2⟩
def c7q{o:F3}(h:b0u o=true):a1D o:=by obtain⟨⟨k,z,v,p,m⟩,zr,ov,_⟩:=z6.1 h;exact⟨by omega,by omega,by omega,by omega,(V4 p).1,(V4 p).2,b3v m,(q7.list (p:=X5)).1 fun j j0 j1=>⟨by have:=(zr j j0 j1).1;omega,by have:=(zr j j0 j1).2.1;omega,(q7.list (p:=fun o:Obv=>0<(o.b9.length:Int)->F6 (ix o.b9 0)=true)).1 fun k k0 k1=>((zr j j0 j1).2.2 k k0 k1).2.2⟩,(q7.list (p:=a2g)).1 fun j j0 j1=>b3v (ov j j0 j1)⟩
def b4U{e:l8}(h:e.nr=0):e=.nil:=by
 cases e with
 |nil=>rfl
 |_ =>
  unfold l8.nr at h;simp only at h;split at h
  . split at h
    . omega
    . cases h
  . cases h
def b0p{l:List Ins}{x:Ins}:Go.Qu.inB l x=true↔x∈l:=by unfold Go.Qu.inB;rw[d6E];exact⟨fun⟨y,hy,e⟩=>d5t e ▸ hy,fun h=>⟨x,h,d4K rfl⟩⟩
def d4c(o:F3)(f:Tm)(m:Tm)(t:Tm)(hf:((a5I o t).length:Int)<=1000000)(hr:(o.Main.b9.length:Int)<=1000000)(hk:(o.Kind.length:Int)<=140737488355328)(hu:(o.UID.length:Int)<=140737488355328):d2F o f m t (fun y0=>y0=true):=by
 unfold d2F a5r a3j a3i;simp only[y6,A7,B3,C9,C6,C5,C4,C3,C2,D0,B7,d4F,d5F,d5G,d6m,d7h];refine⟨⟨hf,hr,hk,hu⟩,fun _=>by trivial,fun h=>?_⟩;have hR:c3X o t=true:=d4y.1 fun e=>h (.inl (.inl e));have hfo:=c7q (z6.1 hR).2.1;refine⟨hfo,hfo,hfo,fun _=>by trivial,fun h2=>?_⟩;have e1:=b4U (d4y.1 fun e=>h2 (.inl (.inl (.inl e))));have e2:=b4U (d4y.1 fun e=>h2 (.inl (.inl (.inr e))));have e3:=b4U (d4y.1 fun e=>h2 (.inl (.inr e)));have hp:=c4f e1 e2 e3;have l1:=a5t e1;have l2:=a5t e2;have l3:=a5t e3;have n1:(J5 105 o f t).1.length<=1000:=by rw[l1.2.2.2.2,a7F];exact l1.2.2.2.1
 have n2:(J5 105 o f m).1.length<=1000:=by rw[l2.2.2.2.2,a7F];exact l2.2.2.2.1
 have n3:(J5 105 o m t).1.length<=1000:=by rw[l3.2.2.2.2,a7F];exact l3.2.2.2.1
 clear l1 l2 l3 h2 h;generalize (J5 105 o f t).1=A at *;generalize (J5 105 o f m).1=B at *;generalize (J5 105 o m t).1=C at *;refine⟨fun x=>0<=x/\x<=A.length,fun x=>((A.length:Int)-x).toNat,⟨by omega,by omega⟩,?_⟩;rintro x ⟨x0,x1⟩;refine⟨fun hi=>⟨x0,hi,by omega,fun _=>by omega,fun hn=>?_,fun _=>⟨⟨by omega,by omega⟩,⟨by omega,by omega⟩,by dsimp only;omega⟩⟩,fun _=>⟨by omega,by omega,?_⟩⟩
 . rw[b0p,b0p]at hn;exact absurd ((hp _).1 (u7 x0 hi)) (fun h=>h.elim hn.1 hn.2)
 . have hl:(B++C).length=B.length+C.length:=d4E;refine⟨fun x=>0<=x/\x<=(B++C).length,fun x=>(((B++C).length:Int)-x).toNat,⟨by omega,by omega⟩,?_⟩;rintro x ⟨x0,x1⟩;refine⟨fun hi=>⟨x0,hi,by omega,fun hn=>?_,fun _=>⟨⟨by omega,by omega⟩,⟨by omega,by omega⟩,by dsimp only;omega⟩⟩,fun _=>by trivial⟩;rw[b0p]at hn;exact absurd ((hp _).2 (d4Z.1 (u7 x0 hi))) hn
open Go.ChangeShapes Go.RowKit Go.WideShapes
def c5G:List (String×DataW Unit):=[("unicode/utf8.acceptRanges", Rows.laid_unicode_utf8_acceptRanges),("errors.errorType", Rows.laid_errors_errorType),("unicode/utf8.first", Rows.laid_unicode_utf8_first)]
def et0:Tryz.prog.globalNamed "errors.errorType" = some 0:=by kernel_rfl
def rt0:(Tryz.prog.cutTypes.find? (·.1 == "internal/reflectlite.rtype")).map (·.2)=some 177:=by kernel_rfl
def d0T:Tryz.prog.types.size=332:=by kernel_rfl
def c2Q:((List.range 332).filter fun t=>Tryz.prog.rowNamed t [101,114,114,111,114])=[43]:=by kernel_rfl
def b8q{W:World} (h:handlesMet Tryz.prog [("errors.errorType", Rows.laid_errors_errorType)] W):W.cell? ⟨0,0,none⟩=some a2b:=by
 obtain⟨name,u,ty,e1,e2,e3,e4,e5⟩:=h _ (d4G.2 rfl);obtain rfl:name=[101,114,114,111,114]:=(d5M e1).symm;obtain rfl:=d5M (rt0.symm.trans e2);have hm:ty∈(List.range 332).filter fun t=>Tryz.prog.rowNamed t [101,114,114,111,114]:=d5a.2 ⟨d7f.2 (by rw[<- d0T];exact e3),e4⟩;rw[c2Q]at hm;obtain rfl:=d4G.1 hm;have hh:typeHandle Tryz.prog 43=.pointer (some ⟨4,43,none⟩):=by kernel_rfl
 rw[hh]at e5;simpa[a2b]using World.var?_cell et0 e5 0
def b3Z{W:World}(h:laidMetH Tryz.prog c5G W)(ho:W.ShapedOpen Tryz.prog):Gl.is (fun b=>b<W.heap.size) W:=by
 obtain⟨m,hm⟩:=cell_of_shapedOpen_int (g:=1) (t:=3) (k:=.i64) (zero:=#[.int .i64 0]) ho (d5t (by kernel_rfl)) (by kernel_rfl) (by kernel_rfl) (by kernel_rfl) (by kernel_rfl) Tryz.underlying3;have hs:1<W.heap.size:=by apply d5O;intro hn;unfold World.cell? at hm;rw[d6f (by show W.heap.size<=1;omega)]at hm;cases hm
 exact⟨⟨by omega,hs⟩,hs,b8q (show laidMet Tryz.prog [("unicode/utf8.acceptRanges", Rows.laid_unicode_utf8_acceptRanges),("unicode/utf8.first", Rows.laid_unicode_utf8_first)] W/\handlesMet Tryz.prog [("errors.errorType", Rows.laid_errors_errorType)] W from h).2,m,hm⟩
def c0y(os:Os):World:=
 let w0:=World.laidAll Tryz.prog os [("unicode/utf8.acceptRanges", Rows.laid_unicode_utf8_acceptRanges),("unicode/utf8.first", Rows.laid_unicode_utf8_first)]
 { w0 with heap:=w0.heap.modify 0 fun
   |.cells _ t frozen=>.cells #[a2b] t frozen
   |o=>o }
def b7U(os:Os)(args:Array Value):laidMetH Tryz.prog c5G ((c0y os).forCall (fun _ _=>0) ⟨#[],args,[]⟩).memory:=
 laidMetH_of_parts (laidMet_of_run' 8 (by kernel_rfl) (by kernel_rfl)) (by kernel_rfl)
def d0r:laidOutB Tryz.prog=true:=by kernel_rfl
def d3Z:ownKnob Tryz.prog.godebug=none:=by kernel_rfl
def d0E{P:Program}{ts:List TypeId}(h:(ts.all fun t=>P.readableRec t && decide (t<P.types.size))=true):∀t∈ts,P.readableRec t=true/\t<P.types.size:=fun t ht=>by have:=d5h.1 h t ht;rw[d4A,d5J]at this;exact this
def b6S{Z:Nat->Prop}{W:World}{v:Value}(h:e7 U eT (fun _=>none) Z W v (H9 true)):v=.bool true:=by cases h with|bl=>rfl
structure OB{α:Type}(t:TypeId)(r:Rd α) where
 m:α->Nat
 ok:∀{H:Type}{enc:TypeId×Value->H}{fuel:Nat}{w:World}{sp:Nat->Bool}{cs:List Value}{x:DataW H×List MemPlace},DataW.trod enc Tryz.prog w 0 sp true fuel t cs=some x->∃y,r.rd (fun _=>True) w cs y/\m y<Rows.uptoBulk x.1
structure FB{α:Type}(o:Nat)(fs:List Field)(r:Rd α) where
 m:α->Nat
 ok:∀{H:Type}{enc:TypeId×Value->H}{n:Nat}{w:World}{sp:Nat->Bool}{cs:List Value}{xs:List (DataW H×List MemPlace)},xs.length=fs.length ->
  (∀(i:Nat)(f:Field),fs[i]?=some f->DataW.trod enc Tryz.prog w 0 sp true n f.type ((cs.drop f.offset).take (Tryz.prog.cellsOf f.type))=xs[i]?)->∃y,r.rd (fun _=>True) w ((cs.drop o).take r.sz) y/\m y<=Rows.uptoBulkAll (xs.map (·.1))
def d0Z{H:Type}(d:DataW H):0<Rows.uptoBulk d:=by
 cases d with
 |lit l=>cases l <;> simp[Rows.uptoBulk]
 |_=>simp[Rows.uptoBulk]
def OB.z{α:Type}{t:TypeId}{r:Rd α}(h:b0J Tryz.prog t r):OB t r:=⟨fun _=>0,fun k=>let⟨y,k⟩:=h k;⟨y,k,d0Z _⟩⟩
def OB.s{t:TypeId}(ht:Tryz.prog.underlying t=some .string):OB t a07:=⟨List.length,fun h=>by
 obtain⟨y,k⟩:=b3W ht h;obtain⟨s,rfl,rfl,_⟩:=DataW.trod_string ht h;have e:sv y=.string s:=by simpa using k.1.symm
 refine⟨y,k,?_⟩;show y.length<Rows.uptoBulk (.lit (.string s.data.toList))
 have e2:y=s.data.toList:=by unfold sv at e;simp only[Value.string.injEq]at e;rw[<- e]
 rw[e2];simp[Rows.uptoBulk]⟩
def b2F{α H:Type}{m:α->Nat}:∀{l:List α}{es:List (DataW H×List MemPlace)},l.length=es.length->(∀i (h:i<l.length) (h':i<es.length),m l[i]<Rows.uptoBulk es[i].1)->l.length+(l.map m).sum<=Rows.uptoBulkAll (es.map (·.1))
 |[],_,_,_=>d6d _
 |a::r,[],e,_=>by cases e
 |a::r,x::es,e,h=>by have h0:=h 0 (Nat.succ_pos _) (Nat.succ_pos _);have ih:=b2F (m:=m) (l:=r) (es:=es) (Nat.succ.inj e) fun i h1 h2=>h (i+1) (Nat.succ_lt_succ h1) (Nat.succ_lt_succ h2);simp only[List.getElem_cons_zero]at h0;simp only[d5K,d8f,d4P,Rows.uptoBulkAll];omega
def OB.l{α:Type}{r:Rd α}{t e:TypeId}(ht:Tryz.prog.underlying t=some (.slice e))(hsz:Tryz.prog.cellsOf e=r.sz)(hp:0<r.sz)(ho:OB e r):OB t (p4 r):=⟨fun l=>l.length+(l.map ho.m).sum,fun{H enc fuel w sp cs x} h=>by
 rcases DataW.trod_slice ht h with⟨rfl,rfl⟩|⟨a,len,cap,elems,rest,n,_,rfl,rfl,_,hlc,hcm,hel,hget,_⟩
 . exact⟨[],a1a,by simp[Rows.uptoBulk]⟩
 . have each:∀i:Fin len,∃(y:α)(c:List Value),Cells w a.block (a.off+i*r.sz) c/\r.rd (fun _=>True) w c y/\a.spot=none/\ho.m y<Rows.uptoBulk (elems[i.1]'(by omega)).1:=fun⟨i,hi⟩=>by
     have h1:=hget i hi;rw[d4N (by omega)]at h1;simp only[d4O]at h1;obtain⟨c,hc,hx⟩:=h1;obtain⟨y,hy,hm⟩:=ho.ok hx;rw[hsz]at hc;have hc':=b2a hp hc;have hs0:a.spot=none:=by have h0:=hget 0 (by omega);rw[d4N (by omega)]at h0;simp only[d4O]at h0;obtain⟨c0,hc0,_⟩:=h0;rw[hsz]at hc0;simpa[Addr.add]using(b2a hp hc0).1
     refine⟨y,c,?_,hy,hs0,hm⟩;have:=hc'.2.2;unfold Addr.add at this;split at this
     . simp_all
     . exact this
   have⟨f,hf⟩:=Classical.axiomOfChoice each;refine⟨List.ofFn f,⟨?_,some a,cap,by simp,⟨fun h=>(by cases h),by simp_all⟩,fun i hi=>?_⟩,?_⟩
   . simp[maxLen]at hcm ⊢;omega
   . have hi':i<len:=by simpa using hi
     obtain⟨c,h1,h2,hs0,_⟩:=hf ⟨i,hi'⟩;refine⟨a.block,a.off,c,?_,trivial,h1,?_⟩
     . obtain⟨b,o,s⟩:=a;simp_all
     . simp_all
   . have:=b2F (m:=ho.m) (l:=List.ofFn f) (es:=elems) (by simp[hel]) fun i h1 h2=>by
       obtain⟨_,_,_,_,hb⟩:=hf ⟨i,by simpa using h1⟩;simpa using hb
     simp only[Rows.uptoBulk];omega⟩
section
variable{α β:Type}{r:Rd α}{s:Rd β}{o:Nat}{f:Field}{fs:List Field}{t:TypeId}
def FB.e(h:(f.offset,Tryz.prog.cellsOf f.type)=(o,r.sz))(a:OB f.type r):FB o [f] r:=⟨fun y=>a.m y+1,fun{H enc n w sp cs xs} hl hg=>by
 match xs,hl with
 |[x],_ =>
  have h0:=hg 0 f rfl;rw[(d7G h).1,(d7G h).2]at h0;obtain⟨y,k,b⟩:=a.ok h0;exact⟨y,k,by simp only[d5K,List.map_nil,Rows.uptoBulkAll];omega⟩⟩
def FB.c(h:(f.offset,Tryz.prog.cellsOf f.type)=(o,r.sz))(a:OB f.type r)(b:FB (o+r.sz) fs s):FB o (f::fs) (r.q s):=⟨fun y=>a.m y.1+1+b.m y.2,fun{H enc n w sp cs xs} hl hg=>by
 match xs,hl with
 |x::xs,hl =>
  have h0:=hg 0 f rfl;rw[(d7G h).1,(d7G h).2]at h0;obtain⟨y,k,bd⟩:=a.ok h0;obtain⟨z,k2,bd2⟩:=b.ok (xs:=xs) (Nat.succ.inj hl) fun i g e=>hg (i+1) g e;refine⟨(y,z),⟨_,_,?_,k,k2⟩,by simp only[d5K,Rows.uptoBulkAll];omega⟩;show(cs.drop o).take (r.sz+s.sz)=_
  rw[List.take_add,List.drop_drop]⟩
def OB.st{fs:Array Field}{p:α->β}(ht:Tryz.prog.underlying t=some (.struct fs))(hz:Tryz.prog.cellsOf t=s.sz)(b:FB 0 fs.toList s)(g:β->α)(hg:∀y,p (g y)=y):OB t (s.of p):=⟨fun x=>b.m (p x),fun h=>by
 obtain⟨xs,n,_,rfl,hlen,hxl,hget⟩:=DataW.trod_struct ht h;obtain⟨y,k,bd⟩:=b.ok (by rw[hxl,d6X]) fun i f e=>hget i f (by rw[<- d7L];exact e);refine⟨g y,?_,?_⟩
 . show s.rd _ _ _ (p (g y))
   rw[hg]
   rwa [List.drop_zero,d5e (by omega)]at k
 . rw[hg];simp only[Rows.uptoBulk];omega⟩
def b0N{t:Nat}{x:Rd α}(p:TQ U eT x)(o:OB t x)(hn:2<=x.sz){H:Type}{enc:TypeId×Value->H}{W:World}{sp:Nat->Bool}{v:Value}{d:DataW H}{ps:List MemPlace}(h:DataW.Trod enc Tryz.prog W 0 sp true t v d ps):∃y,e7 U eT (fun _=>none) (fun b=>b<W.heap.size) W v (.agg (p.sv y))/\o.m y<Rows.uptoBulk d:=by
 obtain⟨n,h⟩:=h;obtain⟨y,k,b⟩:=o.ok h;have k:=Rd.a3u (D':=fun b=>b<W.heap.size) _ k (fun _ _ hb=>hb);refine⟨y,?_,b⟩;cases v with
 |agg cs=>exact p.sv_ok k
 |_=>exact absurd (Rd.len _ k) (by simp[Value.cells];omega)
end
def d3o:OB 24 dDy:=.st Tryz.underlying24 (by kernel_rfl) (.c (by kernel_rfl) (.z (w9 Tryz.underlying3)) (.c (by kernel_rfl) (.z (w9 Tryz.underlying3)) (.e (by kernel_rfl) (.z (w9 Tryz.underlying3))))) (fun y=>⟨y.1,y.2.1,y.2.2⟩) fun _=>rfl
def b8o:OB 26 dTm:=.st Tryz.underlying26 (by kernel_rfl) (.c (by kernel_rfl) d3o (.c (by kernel_rfl) (.z (w9 Tryz.underlying3)) (.c (by kernel_rfl) (.z (w9 Tryz.underlying3)) (.c (by kernel_rfl) (.z (w9 Tryz.underlying3)) (.c (by kernel_rfl) (.z (a5w Tryz.underlying4)) (.e (by kernel_rfl) (.z (a5w Tryz.underlying4)))))))) (fun y=>⟨y.1,y.2.1,y.2.2.1,y.2.2.2.1,y.2.2.2.2.1,y.2.2.2.2.2⟩) fun _=>rfl
def c9q:OB 240 dNt:=.st Tryz.underlying240 (by kernel_rfl) (.c (by kernel_rfl) (.z (w9 Tryz.underlying3)) (.e (by kernel_rfl) (.z (w9 Tryz.underlying3)))) (fun y=>⟨y.1,y.2⟩) fun _=>rfl
def b9b:OB 64 dRl:=.st Tryz.underlying64 (by kernel_rfl) (.c (by kernel_rfl) (.z (w9 Tryz.underlying3)) (.c (by kernel_rfl) (.z (w9 Tryz.underlying3)) (.c (by kernel_rfl) (.z (w9 Tryz.underlying3)) (.c (by kernel_rfl) (.l Tryz.underlying61 (by kernel_rfl) (by decide) b8o) (.c (by kernel_rfl) (.l Tryz.underlying30 (by kernel_rfl) (by decide) (.z (w9 Tryz.underlying3))) (.c (by kernel_rfl) (.l Tryz.underlying30 (by kernel_rfl) (by decide) (.z (w9 Tryz.underlying3))) (.c (by kernel_rfl) (.l Tryz.underlying30 (by kernel_rfl) (by decide) (.z (w9 Tryz.underlying3))) (.c (by kernel_rfl) (.l Tryz.underlying30 (by kernel_rfl) (by decide) (.z (w9 Tryz.underlying3))) (.c (by kernel_rfl) (.l Tryz.underlying62 (by kernel_rfl) (by decide) c9q) (.c (by kernel_rfl) (.l Tryz.underlying30 (by kernel_rfl) (by decide) (.z (w9 Tryz.underlying3))) (.c (by kernel_rfl) (.l Tryz.underlying30 (by kernel_rfl) (by decide) (.z (w9 Tryz.underlying3))) (.c (by kernel_rfl) (.l Tryz.underlying30 (by kernel_rfl) (by decide) (.z (w9 Tryz.underlying3))) (.c (by kernel_rfl) (.l Tryz.underlying30 (by kernel_rfl) (by decide) (.z (w9 Tryz.underlying3))) (.e (by kernel_rfl) (.z (w9 Tryz.underlying3)))))))))))))))) (fun y=>⟨y.1,y.2.1,y.2.2.1,y.2.2.2.1,y.2.2.2.2.1,y.2.2.2.2.2.1,y.2.2.2.2.2.2.1,y.2.2.2.2.2.2.2.1,y.2.2.2.2.2.2.2.2.1,y.2.2.2.2.2.2.2.2.2.1,y.2.2.2.2.2.2.2.2.2.2.1,y.2.2.2.2.2.2.2.2.2.2.2.1,y.2.2.2.2.2.2.2.2.2.2.2.2.1,y.2.2.2.2.2.2.2.2.2.2.2.2.2⟩) fun _=>rfl
def d0d:OB 101 c10:=.st Tryz.underlying101 (by kernel_rfl) (.c (by kernel_rfl) (.s Tryz.underlying9) (.c (by kernel_rfl) b8o (.c (by kernel_rfl) (.z (w9 Tryz.underlying3)) (.c (by kernel_rfl) (.z (w9 Tryz.underlying3)) (.e (by kernel_rfl) (.l Tryz.underlying31 (by kernel_rfl) (by decide) b9b)))))) (fun y=>⟨y.1,y.2.1,y.2.2.1,y.2.2.2.1,y.2.2.2.2⟩) fun _=>rfl
def c92:OB 92 b9j:=.st Tryz.underlying92 (by kernel_rfl) (.c (by kernel_rfl) (.s Tryz.underlying9) (.e (by kernel_rfl) (.l Tryz.underlying90 (by kernel_rfl) (by decide) d0d))) (fun y=>⟨y.1,y.2⟩) fun _=>rfl
def b0R:OB 28 a9W:=.st Tryz.underlying28 (by kernel_rfl) (.c (by kernel_rfl) b8o (.e (by kernel_rfl) (.s Tryz.underlying9))) (fun y=>⟨y.1,y.2⟩) fun _=>rfl
def c9L:OB 130 a7m:=.st Tryz.underlying130 (by kernel_rfl) (.c (by kernel_rfl) (.s Tryz.underlying9) (.e (by kernel_rfl) (.l Tryz.underlying128 (by kernel_rfl) (by decide) (.s Tryz.underlying9)))) (fun y=>⟨y.1,y.2⟩) fun _=>rfl
def c3f:OB 86 b4W:=.st Tryz.underlying86 (by kernel_rfl) (.c (by kernel_rfl) (.s Tryz.underlying9) (.c (by kernel_rfl) (.s Tryz.underlying9) (.c (by kernel_rfl) (.l Tryz.underlying84 (by kernel_rfl) (by decide) c9L) (.e (by kernel_rfl) (.s Tryz.underlying9))))) (fun y=>⟨y.1,y.2.1,y.2.2.1,y.2.2.2⟩) fun _=>rfl
def c9Y:OB 136 c0u:=.st Tryz.underlying136 (by kernel_rfl) (.c (by kernel_rfl) (.s Tryz.underlying9) (.c (by kernel_rfl) (.z (w9 Tryz.underlying3)) (.e (by kernel_rfl) (.l Tryz.underlying33 (by kernel_rfl) (by decide) c3f)))) (fun y=>⟨y.1,y.2.1,y.2.2⟩) fun _=>rfl
def b87:OB 35 b78:=.st Tryz.underlying35 (by kernel_rfl) (.c (by kernel_rfl) b0R (.c (by kernel_rfl) (.l Tryz.underlying29 (by kernel_rfl) (by decide) b0R) (.c (by kernel_rfl) (.l Tryz.underlying30 (by kernel_rfl) (by decide) (.z (w9 Tryz.underlying3))) (.c (by kernel_rfl) (.l Tryz.underlying31 (by kernel_rfl) (by decide) b9b) (.c (by kernel_rfl) (.l Tryz.underlying29 (by kernel_rfl) (by decide) b0R) (.c (by kernel_rfl) (.l Tryz.underlying29 (by kernel_rfl) (by decide) b0R) (.c (by kernel_rfl) (.l Tryz.underlying29 (by kernel_rfl) (by decide) b0R) (.c (by kernel_rfl) (.l Tryz.underlying32 (by kernel_rfl) (by decide) c9Y) (.e (by kernel_rfl) (.l Tryz.underlying33 (by kernel_rfl) (by decide) c3f)))))))))) (fun y=>⟨y.1,y.2.1,y.2.2.1,y.2.2.2.1,y.2.2.2.2.1,y.2.2.2.2.2.1,y.2.2.2.2.2.2.1,y.2.2.2.2.2.2.2.1,y.2.2.2.2.2.2.2.2⟩) fun _=>rfl
def b7E:OB 38 c70:=.st Tryz.underlying38 (by kernel_rfl) (.c (by kernel_rfl) (.s Tryz.underlying9) (.c (by kernel_rfl) (.s Tryz.underlying9) (.c (by kernel_rfl) (.l Tryz.underlying22 (by kernel_rfl) (by decide) c92) (.c (by kernel_rfl) b87 (.c (by kernel_rfl) (.l Tryz.underlying36 (by kernel_rfl) (by decide) b87) (.e (by kernel_rfl) (.l Tryz.underlying33 (by kernel_rfl) (by decide) c3f))))))) (fun y=>⟨y.1,y.2.1,y.2.2.1,y.2.2.2.1,y.2.2.2.2.1,y.2.2.2.2.2⟩) fun _=>rfl
def b00{α:Type}{k m:α->Nat}(h:∀x,k x<=m x):∀l:List α,(l.map k).sum<=(l.map m).sum
 |[]=>d4R _
 |a::r=>by have:=h a;have:=b00 h r;simp only[d5K,d8f];omega
def b66{α:Type}(l:List α):(l.map fun _=>1).sum=l.length:=by
 induction l with
 |nil=>rfl
 |cons a r ih=>simp only[d5K,d8f,d4P];omega
def c8h(o:Go.Qu.F3)(t:Tm):2*(Go.Qu.a5I o t).length<=b7E.m o+4/\2*o.Main.b9.length<=b7E.m o/\o.Kind.length<=b7E.m o/\o.UID.length<=b7E.m o:=by
 have e:b7E.m o=o.Kind.length+1+(o.UID.length+1+(o.c9.length+(o.c9.map c92.m).sum+1+(b87.m o.Main+1+(o.Over.length+(o.Over.map b87.m).sum+1+(o.Extra.length+(o.Extra.map c3f.m).sum+1))))):=rfl;have hl:∀l:List Go.Qu.I8,l.length<=(l.map b0R.m).sum:=fun l=>by
  have:=b00 (k:=fun _=>1) (m:=b0R.m) (fun x=>by show 1<=_+1+_;omega) l
  rwa [b66]at this
 have hr:∀l:List Rl,l.length<=(l.map b9b.m).sum:=fun l=>by
  have:=b00 (k:=fun _=>1) (m:=b9b.m) (fun x=>by show 1<=_+1+_;omega) l
  rwa [b66]at this
 have hi:∀x:Go.Qu.R1,2*x.b9.length+2*x.o6.length+2*x.p5.length+1<=b87.m x:=fun x=>by
  have h1:=hl x.o6;have h2:=hl x.p5;have h3:=hr x.b9;show _<=_+1+(_+1+(_+1+(x.b9.length+(x.b9.map b9b.m).sum+1+(x.o6.length+(x.o6.map b0R.m).sum+1+(_+1+(x.p5.length+(x.p5.map b0R.m).sum+1+_))))))
  omega
 have h0:=hi o.Main;have h1:=b00 (k:=fun x:Go.Qu.R1=>1+2*x.p5.length) (m:=b87.m) (fun x=>by have:=hi x;omega) o.Over;have h2:2*(o.Over.flatMap Go.Qu.a3X).length<=o.Over.length+(o.Over.map fun x:Go.Qu.R1=>1+2*x.p5.length).sum:=by
  induction o.Over with
  |nil=>exact d4R _
  |cons a r ih =>
   have:(Go.Qu.a3X a).length=1+a.p5.length:=by unfold Go.Qu.a3X;simp;omega
   simp only[d6R,d4E,d5K,d8f,d4P];omega
 have h3:=Go.Qu.b5D o t;omega
def lc1:(Rows.queryPartsUptoRow.inPlace == Tryz.pinned.checked.prog.inPlace 5)=true:=by kernel_rfl
def lc2:(Rows.queryPartsUptoRow.unfollowed == Tryz.pinned.checked.prog.unfollowed 5)=true:=by kernel_rfl
def lc3:(Rows.queryPartsUptoRow.recurses == Tryz.pinned.checked.prog.recurses 5)=true:=by kernel_rfl
def lc4:(Rows.queryPartsUptoRow.named == Tryz.pinned.checked.prog.varsNamed 5)=true:=by kernel_rfl
def lc5:joinedFacts Tryz.pinned.checked.prog 5 Tryz.f5 (Rows.OpenSpec.upto Rows.queryPartsSpec).bare Rows.queryPartsUptoRow=true:=by unfold joinedFacts;rw[lc1,lc2,lc3,lc4];kernel_rfl
end Go.Proofs.YtapnoejokajcoaaGreatDoor
