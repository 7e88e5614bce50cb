/- 19 texts, one behind the other. -/
import Derived.Test.YtapnoejokajcoaaGreatDoorU8
import Derived.Test.YtapnoejokajcoaaGreatDoorU3
import Derived.Test.YtapnoejokajcoaaGreatDoorU6
import Derived.Test.YtapnoejokajcoaaGreatDoorRows
import Derived.Test.YtapnoejokajcoaaGreatDoorU1
import Derived.ChangeSame
import Derived.ChangeVars
import Derived.JoinedOf
import Derived.RowKit
import Derived.RowKit2
import Derived.Carry
import Derived.ProofKit
import Derived.RowKitTokens
import Derived.LaidLaws
import Derived.LaidHandle
import Derived.Lay
import Derived.LaidMore
import Derived.Lib.LaidU8
import Derived.Stop.Joined
import Derived.Shelf.Vars
import Derived.Deep.DeepHandedRow
import Derived.Deep.DeepWitnessRowRef
import Derived.JoinedCond
set_option linter.defProp false
set_option linter.unusedVariables false
set_option linter.unusedSimpArgs false
set_option maxRecDepth 100000
noncomputable section
def d6S:=@exists_eq_or_imp
def d8k:=@Int.one_pos
namespace Go.Qu
open Go Go.Wk Go.Wl Go.Rx Go.Re Go.Li Go.Fo
noncomputable section
def N4(x:R2):Tm:=(ix x.p7 0).Time
def ovM(qa:Nat)(o:E3):List (Tm×Bool)->List R2->List (Tm×Bool)×l8
 |m,[]=>(m,.nil)
 |m,x::r=>if(a1k qa o (N4 x)).2=.nil then ovM qa o (a36 m (N4 x) (a1k qa o (N4 x)).1) r else(m,(a1k qa o (N4 x)).2)
abbrev Wn:=List Ins×Bool
def mkI(s:Tm)(n:Int)(k:Tm)(v:Bool):Ins:=⟨s,K3 (b8 s+n) s,k,v⟩
def H9(a b:Int)(w:Wn)(s:Tm)(n:Int)(k:Tm)(v:Bool):Wn:=
 if b<=b8 s∨(b8 s+n<=a/\(0<n∨b8 s<a))then w else
 if(K3 (b8 s+n) s).Day.Year=0 then(w.1,true)else(w.1++[mkI s n k v],w.2)
def moI(o:E3)(t:Tm):G9:=⟨t,o.Main.Start.I3⟩
def ga1(qa:Nat)(o:E3)(a b:Int)(mp:List (Tm×Bool)):Wn->List Tm->Wn×l8
 |w,[]=>(w,.nil)
 |w,t::r=>if getM mp t=true then ga1 qa o a b mp w r else
  if(u9 qa o (moI o t)).2=.nil then ga1 qa o a b mp (H9 a b w (u9 qa o (moI o t)).1 (A2 o.Main) t false) r else(w,(u9 qa o (moI o t)).2)
def ga2(qa:Nat)(o:E3)(a b:Int)(mp:List (Tm×Bool)):Wn->List R2->Wn×l8
 |w,[]=>(w,.nil)
 |w,x::r=>if ¬getM mp (N4 x)=true then ga2 qa o a b mp w r else
  if(u9 qa o x.Start).2=.nil then ga2 qa o a b mp (H9 a b w (u9 qa o x.Start).1 (A2 x) (N4 x) true) r else(w,(u9 qa o x.Start).2)
def gaS(qa:Nat)(o:E3)(a b:Int):Wn×l8:=
 if(ovM qa o [] o.Over).2=.nil then
  if(R5 qa o a b).2=.nil then
   if(ga1 qa o a b (ovM qa o [] o.Over).1 ([],false) (R5 qa o a b).1).2=.nil then ga2 qa o a b (ovM qa o [] o.Over).1 (ga1 qa o a b (ovM qa o [] o.Over).1 ([],false) (R5 qa o a b).1).1 o.Over
   else ga1 qa o a b (ovM qa o [] o.Over).1 ([],false) (R5 qa o a b).1
  else(([],false),(R5 qa o a b).2)
 else(([],false),(ovM qa o [] o.Over).2)
def b71(o:E3)(f t:Tm):Prop:=a0S o/\o7 f=true/\o7 t=true/\f.UTC=true/\t.UTC=true/\b8 f<=b8 t
open Classical in
def a0a(qa:Nat)(o:E3)(f t:Tm):List Ins×l8:=
 if b71 o f t then
  if(R5 qa o (b8 f) (b8 t)).2=.nil then
   if(gaS qa o (b8 f) (b8 t)).2=.nil then
    if(gaS qa o (b8 f) (b8 t)).1.2=true then([],.no 3)else
    if 1000<(gaS qa o (b8 f) (b8 t)).1.1.length then([],.no 16)else
    (b1x (gaS qa o (b8 f) (b8 t)).1.1,.nil)
   else([],Q7 (gaS qa o (b8 f) (b8 t)).2)
  else([],Q7 (R5 qa o (b8 f) (b8 t)).2)
 else([],.no 2)
def d2U(l:List Ins):Prop:=∀x∈l,∀y∈l,b8 x.Start=b8 y.Start->b8 x.u5=b8 y.u5->x=y
def b19(a b:Int)(w:Wn)(s:Tm)(n:Int)(k:Tm)(v:Bool):(H9 a b w s n k v).1.length<=w.1.length+1:=by
 unfold H9;split
 . omega
 . split
   . dsimp only;omega
   . rw[d4o];exact d4C _
end
end Go.Qu
namespace Go.Proofs.YtapnoejokajcoaaGreatDoor
open Go Go.Wk Go.Wl Go.Rx Go.Re Go.Li Go.Qu Go.Fo 
attribute [local irreducible] i7
def c5k:Nat->D1:=fun|65=>⟨68,nn,nn⟩|_=>⟨0,nn,nn⟩
def c8t(sy:Int)(sm:Int)(sd:Int)(sh:Int)(si:Int)(ss:Int)(sb:Prop)(sB:Decidable sb)(su:Prop)(sV:Decidable su)(n:Int)(ky:Int)(km:Int)(kd:Int)(kh:Int)(ki:Int)(ks:Int)(kb:Prop)(kB:Decidable kb)(ku:Prop)(kV:Decidable ku)(a:Int)(b:Int)(pc:Prop)(dc:Decidable pc)(l:List Ins)(Q:Int->Int->List Ins->Bool->Prop):Prop:=
(¬b<=b8 (Tm.mk (Dy.mk sy sm sd) sh si ss (decide sb) (decide su))->c6 (b8 (Tm.mk (Dy.mk sy sm sd) sh si ss (decide sb) (decide su))+n))/\(bR (b<=b8 (Tm.mk (Dy.mk sy sm sd) sh si ss (decide sb) (decide su))∨b8 (Tm.mk (Dy.mk sy sm sd) sh si ss (decide sb) (decide su))+n<=a/\(0<n∨b8 (Tm.mk (Dy.mk sy sm sd) sh si ss (decide sb) (decide su))<a)) (Q a b l (decide pc)) (c6 (b8 (Tm.mk (Dy.mk sy sm sd) sh si ss (decide sb) (decide su))+n)/\b8 (Tm.mk (Dy.mk sy sm sd) sh si ss (decide sb) (decide su))+n<=9000000000000000000/\(bR ((K3 (b8 (Tm.mk (Dy.mk sy sm sd) sh si ss (decide sb) (decide su))+n) (Tm.mk (Dy.mk sy sm sd) sh si ss (decide sb) (decide su))).Day.Year=0) (Q a b l true) ((l.length+[Ins.mk (Tm.mk (Dy.mk sy sm sd) sh si ss (decide sb) (decide su)) (j6 (K3 (b8 (Tm.mk (Dy.mk sy sm sd) sh si ss (decide sb) (decide su))+n) (Tm.mk (Dy.mk sy sm sd) sh si ss (decide sb) (decide su)))) (Tm.mk (Dy.mk ky km kd) kh ki ks (decide kb) (decide ku)) false].length)*(some (176:Nat)).getD (0:Nat)<=140737488355328/\Q a b (l++[Ins.mk (Tm.mk (Dy.mk sy sm sd) sh si ss (decide sb) (decide su)) (j6 (K3 (b8 (Tm.mk (Dy.mk sy sm sd) sh si ss (decide sb) (decide su))+n) (Tm.mk (Dy.mk sy sm sd) sh si ss (decide sb) (decide su)))) (Tm.mk (Dy.mk ky km kd) kh ki ks (decide kb) (decide ku)) false]) (decide pc)))))
def d3v(sy:Int)(sm:Int)(sd:Int)(sh:Int)(si:Int)(ss:Int)(sb:Prop)(sB:Decidable sb)(su:Prop)(sV:Decidable su)(n:Int)(ky:Int)(km:Int)(kd:Int)(kh:Int)(ki:Int)(ks:Int)(kb:Prop)(kB:Decidable kb)(ku:Prop)(kV:Decidable ku)(a:Int)(b:Int)(pc:Prop)(dc:Decidable pc)(l:List Ins)(h1:-1000000000000000<=b8 (Tm.mk (Dy.mk sy sm sd) sh si ss (decide sb) (decide su))+n)(h2:b8 (Tm.mk (Dy.mk sy sm sd) sh si ss (decide sb) (decide su))+n<=1000000000000000)(h3:List.length (α:=Ins) l<=100000):c8t sy sm sd sh si ss sb sB su sV n ky km kd kh ki ks kb kB ku kV a b pc dc l (fun y0 y1 y2 y3=>y0=a/\y1=b/\y2=(H9 a b (l,decide pc) (Tm.mk (Dy.mk sy sm sd) sh si ss (decide sb) (decide su)) n (Tm.mk (Dy.mk ky km kd) kh ki ks (decide kb) (decide ku)) false).1/\y3=(H9 a b (l,decide pc) (Tm.mk (Dy.mk sy sm sd) sh si ss (decide sb) (decide su)) n (Tm.mk (Dy.mk ky km kd) kh ki ks (decide kb) (decide ku)) false).2):=by
 unfold c8t;simp only[x9,A6,B3,C5,C4,C6,C8,C3,B9,D0,B7,d4p];generalize Tm.mk (Dy.mk sy sm sd) sh si ss (decide sb) (decide su)=s at *;generalize Tm.mk (Dy.mk ky km kd) kh ki ks (decide kb) (decide ku)=k at *;have hi:c6 (b8 s+n):=by unfold c6;omega
 refine⟨fun _=>hi,fun h=>?_,fun h=>⟨hi,by omega,fun z=>?_,fun z=>⟨?_,?_⟩⟩⟩
 . have e:H9 a b (l,decide pc) s n k false=(l,decide pc):=by unfold H9;rw[if_pos h]
   rw[e];exact⟨trivial,trivial,rfl,rfl⟩
 . have e:H9 a b (l,decide pc) s n k false=(l,true):=by unfold H9;rw[if_neg h,if_pos z]
   rw[e];exact⟨trivial,trivial,rfl,rfl⟩
 . show(l.length+1)*176<=_;omega
 . have e:H9 a b (l,decide pc) s n k false=(l++[mkI s n k false],decide pc):=by unfold H9;rw[if_neg h,if_neg z]
   rw[e];exact⟨trivial,trivial,rfl,rfl⟩
def d0C(sy:Int)(sm:Int)(sd:Int)(sh:Int)(si:Int)(ss:Int)(sb:Prop)(sB:Decidable sb)(su:Prop)(sV:Decidable su)(n:Int)(ky:Int)(km:Int)(kd:Int)(kh:Int)(ki:Int)(ks:Int)(kb:Prop)(kB:Decidable kb)(ku:Prop)(kV:Decidable ku)(a:Int)(b:Int)(pc:Prop)(dc:Decidable pc)(l:List Ins):FR U:=b4p N61 [-1000000000000000<=b8 (Tm.mk (Dy.mk sy sm sd) sh si ss (decide sb) (decide su))+n,b8 (Tm.mk (Dy.mk sy sm sd) sh si ss (decide sb) (decide su))+n<=1000000000000000,List.length (α:=Ins) l<=100000] [(0,.own 70 [.int .i64 a,.int .i64 b,.acc 1,.bl pc dc]),(1,.ac (N:=U) 48 l)] 4 0 [.tree [] [.own (some 200) 70 [.v (.int .i64),.v (.int .i64),.v (.acc 48),.v (.bool)]]] (((a,b,(H9 a b (l,decide pc) (Tm.mk (Dy.mk sy sm sd) sh si ss (decide sb) (decide su)) n (Tm.mk (Dy.mk ky km kd) kh ki ks (decide kb) (decide ku)) false).1,(H9 a b (l,decide pc) (Tm.mk (Dy.mk sy sm sd) sh si ss (decide sb) (decide su)) n (Tm.mk (Dy.mk ky km kd) kh ki ks (decide kb) (decide ku)) false).2,()),()),())
def b8I:FC U:=⟨[],[],fun a its=>match a,its with|[.ref 0 0,.agg [.int .i64 sy,.int .i64 sm,.int .i64 sd,.int .i64 sh,.int .i64 si,.int .i64 ss,.bl sb sB,.bl su sV],.int .i64 n,.agg [.int .i64 ky,.int .i64 km,.int .i64 kd,.int .i64 kh,.int .i64 ki,.int .i64 ks,.bl kb kB,.bl ku kV],.ff],[(0,.own 70 [.int .i64 a,.int .i64 b,.acc 1,.bl pc dc]),(1,.ac 48 l)]=>some (d0C sy sm sd sh si ss sb sB su sV n ky km kd kh ki ks kb kB ku kV a b pc dc l)|_,_=>none⟩
def fptf_ok(args:List (SV U))(its:c7 U)(r:FR U)(h:b8I.C args its=some r)(ho:p8 r.ob):L8 Tryz.prog U eT Gl 65 args its (2*its.length) (fun k=>p8 r.hy->k r.v r.its r.n):=by
 unfold b8I at h;simp only at h;split at h
 . rename_i sy sm sd sh si ss sb sB su sV n ky km kd kh ki ks kb kB ku kV a b pc dc l;cases h;exact fc_ok (an:=c5k 65) N61_ok (inlHN_ok N61_ok H0_ok c5k 3) Tryz.func65 (n:=0) rfl (vs:=[.tree [] [.own (some 200) 70 [.v (.int .i64),.v (.int .i64),.v (.acc 48),.v (.bool)]]]) (X:=(((a,b,(H9 a b (l,decide pc) (Tm.mk (Dy.mk sy sm sd) sh si ss (decide sb) (decide su)) n (Tm.mk (Dy.mk ky km kd) kh ki ks (decide kb) (decide ku)) false).1,(H9 a b (l,decide pc) (Tm.mk (Dy.mk sy sm sd) sh si ss (decide sb) (decide su)) n (Tm.mk (Dy.mk ky km kd) kh ki ks (decide kb) (decide ku)) false).2,()),()),())) rfl (kc (d3v sy sm sd sh si ss sb sB su sV n ky km kd kh ki ks kb kB ku kV a b pc dc l ho.1 ho.2.1 ho.2.2.1) (by kernel_rfl))
 . cases h
def c6J:Env:=(N61.z6 65 Tryz.f65).a1K 65 b8I
def Nptf_ok:c8 c6J:=(N61_ok.z6 Tryz.call65 Tryz.func65).a1K Tryz.call65 fptf_ok
def c4X:Nat->D1:=fun|65=>⟨68,nn,nn⟩|_=>⟨0,nn,nn⟩
def c9V(sy:Int)(sm:Int)(sd:Int)(sh:Int)(si:Int)(ss:Int)(sb:Prop)(sB:Decidable sb)(su:Prop)(sV:Decidable su)(n:Int)(ky:Int)(km:Int)(kd:Int)(kh:Int)(ki:Int)(ks:Int)(kb:Prop)(kB:Decidable kb)(ku:Prop)(kV:Decidable ku)(a:Int)(b:Int)(pc:Prop)(dc:Decidable pc)(l:List Ins)(Q:Int->Int->List Ins->Bool->Prop):Prop:=
(¬b<=b8 (Tm.mk (Dy.mk sy sm sd) sh si ss (decide sb) (decide su))->c6 (b8 (Tm.mk (Dy.mk sy sm sd) sh si ss (decide sb) (decide su))+n))/\(bR (b<=b8 (Tm.mk (Dy.mk sy sm sd) sh si ss (decide sb) (decide su))∨b8 (Tm.mk (Dy.mk sy sm sd) sh si ss (decide sb) (decide su))+n<=a/\(0<n∨b8 (Tm.mk (Dy.mk sy sm sd) sh si ss (decide sb) (decide su))<a)) (Q a b l (decide pc)) (c6 (b8 (Tm.mk (Dy.mk sy sm sd) sh si ss (decide sb) (decide su))+n)/\b8 (Tm.mk (Dy.mk sy sm sd) sh si ss (decide sb) (decide su))+n<=9000000000000000000/\(bR ((K3 (b8 (Tm.mk (Dy.mk sy sm sd) sh si ss (decide sb) (decide su))+n) (Tm.mk (Dy.mk sy sm sd) sh si ss (decide sb) (decide su))).Day.Year=0) (Q a b l true) ((l.length+[Ins.mk (Tm.mk (Dy.mk sy sm sd) sh si ss (decide sb) (decide su)) (j6 (K3 (b8 (Tm.mk (Dy.mk sy sm sd) sh si ss (decide sb) (decide su))+n) (Tm.mk (Dy.mk sy sm sd) sh si ss (decide sb) (decide su)))) (Tm.mk (Dy.mk ky km kd) kh ki ks (decide kb) (decide ku)) true].length)*(some (176:Nat)).getD (0:Nat)<=140737488355328/\Q a b (l++[Ins.mk (Tm.mk (Dy.mk sy sm sd) sh si ss (decide sb) (decide su)) (j6 (K3 (b8 (Tm.mk (Dy.mk sy sm sd) sh si ss (decide sb) (decide su))+n) (Tm.mk (Dy.mk sy sm sd) sh si ss (decide sb) (decide su)))) (Tm.mk (Dy.mk ky km kd) kh ki ks (decide kb) (decide ku)) true]) (decide pc)))))
def d3Z(sy:Int)(sm:Int)(sd:Int)(sh:Int)(si:Int)(ss:Int)(sb:Prop)(sB:Decidable sb)(su:Prop)(sV:Decidable su)(n:Int)(ky:Int)(km:Int)(kd:Int)(kh:Int)(ki:Int)(ks:Int)(kb:Prop)(kB:Decidable kb)(ku:Prop)(kV:Decidable ku)(a:Int)(b:Int)(pc:Prop)(dc:Decidable pc)(l:List Ins)(h1:-1000000000000000<=b8 (Tm.mk (Dy.mk sy sm sd) sh si ss (decide sb) (decide su))+n)(h2:b8 (Tm.mk (Dy.mk sy sm sd) sh si ss (decide sb) (decide su))+n<=1000000000000000)(h3:List.length (α:=Ins) l<=100000):c9V sy sm sd sh si ss sb sB su sV n ky km kd kh ki ks kb kB ku kV a b pc dc l (fun y0 y1 y2 y3=>y0=a/\y1=b/\y2=(H9 a b (l,decide pc) (Tm.mk (Dy.mk sy sm sd) sh si ss (decide sb) (decide su)) n (Tm.mk (Dy.mk ky km kd) kh ki ks (decide kb) (decide ku)) true).1/\y3=(H9 a b (l,decide pc) (Tm.mk (Dy.mk sy sm sd) sh si ss (decide sb) (decide su)) n (Tm.mk (Dy.mk ky km kd) kh ki ks (decide kb) (decide ku)) true).2):=by
 unfold c9V;simp only[x9,A6,B3,C5,C4,C6,C8,C3,B9,D0,B7,d4p];generalize Tm.mk (Dy.mk sy sm sd) sh si ss (decide sb) (decide su)=s at *;generalize Tm.mk (Dy.mk ky km kd) kh ki ks (decide kb) (decide ku)=k at *;have hi:c6 (b8 s+n):=by unfold c6;omega
 refine⟨fun _=>hi,fun h=>?_,fun h=>⟨hi,by omega,fun z=>?_,fun z=>⟨?_,?_⟩⟩⟩
 . have e:H9 a b (l,decide pc) s n k true=(l,decide pc):=by unfold H9;rw[if_pos h]
   rw[e];exact⟨trivial,trivial,rfl,rfl⟩
 . have e:H9 a b (l,decide pc) s n k true=(l,true):=by unfold H9;rw[if_neg h,if_pos z]
   rw[e];exact⟨trivial,trivial,rfl,rfl⟩
 . show(l.length+1)*176<=_;omega
 . have e:H9 a b (l,decide pc) s n k true=(l++[mkI s n k true],decide pc):=by unfold H9;rw[if_neg h,if_neg z]
   rw[e];exact⟨trivial,trivial,rfl,rfl⟩
def d00(sy:Int)(sm:Int)(sd:Int)(sh:Int)(si:Int)(ss:Int)(sb:Prop)(sB:Decidable sb)(su:Prop)(sV:Decidable su)(n:Int)(ky:Int)(km:Int)(kd:Int)(kh:Int)(ki:Int)(ks:Int)(kb:Prop)(kB:Decidable kb)(ku:Prop)(kV:Decidable ku)(a:Int)(b:Int)(pc:Prop)(dc:Decidable pc)(l:List Ins):FR U:=b4p c6J [-1000000000000000<=b8 (Tm.mk (Dy.mk sy sm sd) sh si ss (decide sb) (decide su))+n,b8 (Tm.mk (Dy.mk sy sm sd) sh si ss (decide sb) (decide su))+n<=1000000000000000,List.length (α:=Ins) l<=100000] [(0,.own 70 [.int .i64 a,.int .i64 b,.acc 1,.bl pc dc]),(1,.ac (N:=U) 48 l)] 4 0 [.tree [] [.own (some 200) 70 [.v (.int .i64),.v (.int .i64),.v (.acc 48),.v (.bool)]]] (((a,b,(H9 a b (l,decide pc) (Tm.mk (Dy.mk sy sm sd) sh si ss (decide sb) (decide su)) n (Tm.mk (Dy.mk ky km kd) kh ki ks (decide kb) (decide ku)) true).1,(H9 a b (l,decide pc) (Tm.mk (Dy.mk sy sm sd) sh si ss (decide sb) (decide su)) n (Tm.mk (Dy.mk ky km kd) kh ki ks (decide kb) (decide ku)) true).2,()),()),())
def c0v:FC U:=⟨[],[],fun a its=>match a,its with|[.ref 0 0,.agg [.int .i64 sy,.int .i64 sm,.int .i64 sd,.int .i64 sh,.int .i64 si,.int .i64 ss,.bl sb sB,.bl su sV],.int .i64 n,.agg [.int .i64 ky,.int .i64 km,.int .i64 kd,.int .i64 kh,.int .i64 ki,.int .i64 ks,.bl kb kB,.bl ku kV],.tt],[(0,.own 70 [.int .i64 a,.int .i64 b,.acc 1,.bl pc dc]),(1,.ac 48 l)]=>some (d00 sy sm sd sh si ss sb sB su sV n ky km kd kh ki ks kb kB ku kV a b pc dc l)|_,_=>none⟩
def fptt_ok(args:List (SV U))(its:c7 U)(r:FR U)(h:c0v.C args its=some r)(ho:p8 r.ob):L8 Tryz.prog U eT Gl 65 args its (2*its.length) (fun k=>p8 r.hy->k r.v r.its r.n):=by
 unfold c0v at h;simp only at h;split at h
 . rename_i sy sm sd sh si ss sb sB su sV n ky km kd kh ki ks kb kB ku kV a b pc dc l;cases h;exact fc_ok (an:=c4X 65) Nptf_ok (inlHN_ok Nptf_ok H0_ok c4X 3) Tryz.func65 (n:=0) rfl (vs:=[.tree [] [.own (some 200) 70 [.v (.int .i64),.v (.int .i64),.v (.acc 48),.v (.bool)]]]) (X:=(((a,b,(H9 a b (l,decide pc) (Tm.mk (Dy.mk sy sm sd) sh si ss (decide sb) (decide su)) n (Tm.mk (Dy.mk ky km kd) kh ki ks (decide kb) (decide ku)) true).1,(H9 a b (l,decide pc) (Tm.mk (Dy.mk sy sm sd) sh si ss (decide sb) (decide su)) n (Tm.mk (Dy.mk ky km kd) kh ki ks (decide kb) (decide ku)) true).2,()),()),())) rfl (kc (d3Z sy sm sd sh si ss sb sB su sV n ky km kd kh ki ks kb kB ku kV a b pc dc l ho.1 ho.2.1 ho.2.2.1) (by kernel_rfl))
 . cases h
def d1u:Env:=(c6J.z6 65 Tryz.f65).a1K 65 c0v
def Nptt_ok:c8 d1u:=(Nptf_ok.z6 Tryz.call65 Tryz.func65).a1K Tryz.call65 fptt_ok
def orF(f g:FC U):FC U:=⟨[],[],fun a its=>match f.C a its with|some r=>some r|none=>g.C a its⟩
def fpt:FC U:=orF b8I c0v
def fpt_ok(args:List (SV U))(its:c7 U)(r:FR U)(h:fpt.C args its=some r)(ho:p8 r.ob):L8 Tryz.prog U eT Gl 65 args its (2*its.length) (fun k=>p8 r.hy->k r.v r.its r.n):=by
 have h:(match b8I.C args its with|some r=>some r|none=>c0v.C args its)=some r:=h;split at h
 . rename_i x hx;cases h;exact fptf_ok args its _ hx ho
 . exact fptt_ok args its r h ho
def Npt:Env:=d1u.a1K 65 fpt
def Npt_ok:c8 Npt:=Nptt_ok.a1K Tryz.call65 fpt_ok
def d1a:Env:=Npt.z6 28 Tryz.f28
def NI28_ok:c8 d1a:=Npt_ok.z6 Tryz.call28 Tryz.func28
end Go.Proofs.YtapnoejokajcoaaGreatDoor
namespace Go.Qu
open Go Go.Wk Go.Wl Go.Rx Go.Re Go.Li Go.Fo
noncomputable section
def BIG:Int:=315537897600
def c1S(s:Tm)(r:Rl)(u:Int):Prop:=u∈(I5 s r (w4 s.Day) 0 BIG).1
def c2Z{s:Tm}{r:Rl}{a b x:Tm}(h:(L6 s r a b).2=.nil):x∈(L6 s r a b).1↔∃u,c1S s r u/\b8 a<=u/\u<b8 b/\x=K3 u s:=by
 have hx:b6e s r a b:=exp_ok (by rw[h];rfl);obtain⟨hF,ha,hb⟩:=b7r hx.bad;have a0:=(y7 ha).1;have b1:=(y7 hb).2;have e1:=(c6f (day:=w4 s.Day) (fr:=0) (m:=b8 a) (tw:=b8 b) hF (d4D 0) a0).1;have e2:=(c6b (day:=w4 s.Day) (fr:=0) (m:=b8 b) (tw:=BIG) hF (d4D 0) (by unfold BIG;omega)).1;rw[b9h hx];dsimp only;rw[b0G,d5U];have e3:(a4Z s r a b).1=(I5 s r (w4 s.Day) (b8 a) (b8 b)).1:=rfl;rw[e3,e1,e2];unfold c1S;constructor
 . rintro⟨u,hu,rfl⟩;obtain⟨h1,h2⟩:=d4Q.1 hu;obtain⟨h3,h4⟩:=d4Q.1 h1;exact⟨u,h3,a3C.1 h2,lt_iff.1 h4,rfl⟩
 . rintro⟨u,hu,h1,h2,rfl⟩;exact⟨u,d4Q.2 ⟨d4Q.2 ⟨hu,lt_iff.2 h2⟩,a3C.2 h1⟩,rfl⟩
def c7U{s:Tm}{r:Rl}{u:Int}(hF:A3 s r)(h:c1S s r u):AtP s u:=(c9c hF (d4D 0) h).a
structure FmP(s t:Tm):Prop where
 rt:o7 t=true
 ba:t.n9=s.n9
 ut:t.UTC=s.UTC
def c2E{a b:Tm}{u:Int}(h1:a.n9=b.n9)(h2:a.UTC=b.UTC):K3 u a=K3 u b:=by unfold K3;rw[h1,h2]
def c05{s t t':Tm}(h:FmP s t)(h':FmP s t')(e:b8 t=b8 t'):t=t':=by have e1:=b0J (A9.1 h.rt);have e2:=b0J (A9.1 h'.rt);rw[<- e1,<- e2,e];exact c2E (h.ba.trans h'.ba.symm) (h.ut.trans h'.ut.symm)
def d1p{s:Tm}{u:Int}(h:AtP s u):FmP s (K3 u s)/\b8 (K3 u s)=u:=⟨⟨(atS_ok h).rt,(atS_ok h).ba,(atS_ok h).ut⟩,(atS_ok h).se⟩
def b2q{a b:G9}:R4 a b=true↔a.Time.n9=b.Time.n9/\a.Time.UTC=b.Time.UTC/\a.I3=b.I3:=d4Z
def c6z{zs:List V5}{l:List G9}{like:G9}(h:b0e zs l like):∀m∈l,FmP like.Time m.Time/\m.I3=like.I3:=by have h1:=(q9.list (p:=fun m=>V3 zs m/\R4 m like=true)).1 fun j j0 j1=>⟨(h.1 j j0 j1).1,(h.1 j j0 j1).2.1⟩;intro m hm;obtain⟨a,b⟩:=h1 m hm;obtain⟨b1,b2,b3⟩:=b2q.1 b;exact⟨⟨a.1,b1,b2⟩,b3⟩
def leT{x y:Tm}:(!decide (a0W y x<0))=true↔b8 x<=b8 y:=by have h:a0W y x<0↔b8 y<b8 x:=a3W;simp[h]
def c3W(l:List Tm):(a5C l).Pairwise fun x y=>b8 x<=b8 y:=by
 have h:=List.pairwise_mergeSort (le:=fun x y:Tm=>!decide (a0W y x<0)) (fun a b c h1 h2=>leT.2 (by have:=leT.1 h1;have:=leT.1 h2;omega)) (fun a b=>by rw[d5l,leT,leT];omega) l
 exact h.imp fun h=>leT.1 h
def a7u{α:Type}[DecidableEq α]{z:α}:∀{r:List α}{x:α},z∈x::a2u x r↔z∈x::r
 |[],x=>d6V
 |y::r,x=>by
  rw[a2u];split
  . rename_i e;have h:=a7u (z:=z) (r:=r) (x:=x);simp only[d4B]at h ⊢;rw[e,h];exact⟨fun h=>h.elim .inl fun h=>.inr (.inr h),fun h=>h.elim .inl id⟩
  . have h:=a7u (z:=z) (r:=r) (x:=y);simp only[d4B]at h ⊢;rw[h]
def c1K{α:Type}[DecidableEq α]{z:α}{l:List α}:z∈ded l↔z∈l:=by
 cases l with
 |nil=>exact d6V
 |cons x r=>exact a7u
def a9M:∀{r:List Tm}{x:Tm},(x::r).Pairwise (fun x y=>b8 x<=b8 y)->b0U (x::r)->(x::a2u x r).Pairwise fun x y=>b8 x<b8 y
 |[],x,_,_=>by rw[a2u];exact d5Z _ _
 |y::r,x,h,ht=>by
  obtain⟨h1,h2⟩:=d5f.1 h;rw[a2u];split
  . rename_i e;exact a9M (r:=r) (x:=x) (d5f.2 ⟨fun z hz=>h1 z (by simp[hz]),(d5f.1 h2).2⟩) fun a ha b hb=>ht a (by simp at ha ⊢;rcases ha with e|e <;> simp[e]) b (by simp at hb ⊢;rcases hb with e|e <;> simp[e])
  . rename_i e;have ih:=a9M (r:=r) (x:=y) h2 fun a ha b hb=>ht a (d5b _ ha) b (d5b _ hb);have hxy:b8 x<b8 y:=by
     have l1:=h1 y (by simp);have l2:b8 x≠b8 y:=fun e2=>e (ht x (by simp) y (by simp) e2).symm;omega
    refine d5f.2 ⟨fun z hz=>?_,ih⟩;rcases d4B.1 hz with e|e
    . rw[e];exact hxy
    . have:=(d5f.1 ih).1 z e;omega
def c7n{l:List Tm}(h:l.Pairwise fun x y=>b8 x<=b8 y)(ht:b0U l):(ded l).Pairwise fun x y=>b8 x<b8 y:=by
 cases l with
 |nil=>exact List.Pairwise.nil
 |cons x r=>exact a9M h ht
def a8d{zs:List V5}{x:R2}(h:X7 zs x):x.b9=[]∨∃r,x.b9=[r]/\G0 x.Start.Time r=true:=by
 have hl:=h.2.2.1
 match hr:x.b9 with
 |[]=>exact .inl rfl
 |[r]=>exact .inr ⟨r,rfl,(q9.list (p:=fun r=>G0 x.Start.Time r=true)).1 h.2.2.2.2.2.2.1 r (by rw[hr];simp)⟩
 |_::_::_=>rw[hr]at hl;simp at hl;omega
def c6Y(o:E3)(a b:Int)(t:Tm):Prop:=(o.Main.b9=[]/\t=o.Main.Start.Time)∨∃r,o.Main.b9=[r]/\∃u,c1S o.Main.Start.Time r u/\b8 (X5 (a-172800-A2 o.Main) o.Main.Start.Time)<=u/\u<b8 (X5 (b+172800) o.Main.Start.Time)/\t=K3 u o.Main.Start.Time
variable{qa:Nat}{o:E3}{a b:Int}{t:Tm}
def c1T(hI:X7 o.c9 o.Main)(h:(tmE qa o a b [o.Main.Start.Time] o.Main.b9).2=.nil):t∈(tmE qa o a b [o.Main.Start.Time] o.Main.b9).1↔c6Y o a b t:=by
 unfold c6Y;rcases a8d hI with e|⟨r,e,hf⟩
 . rw[e,tmE];simp
 . rw[e]at h ⊢;rw[tmE]at h ⊢;by_cases h2:(tmR o a b r).2=.nil
   . rw[if_pos h2,tmE];unfold tmR at h2 ⊢;rw[c2Z h2];constructor
     . rintro⟨u,hu⟩;exact .inr ⟨r,rfl,u,hu⟩
     . rintro(⟨h,_⟩|⟨r',h,hu⟩)
       . cases h
       . cases h;exact hu
   . rw[if_neg h2]at h;cases h
def b51(h:(R5 qa o a b).2=.nil):(tmE qa o a b [o.Main.Start.Time] o.Main.b9).2=.nil/\(R5 qa o a b).1=ded (a5C (tmA qa o a b)):=by
 unfold R5 at h ⊢;split at h
 . rename_i e;rw[if_pos e];exact⟨e,rfl⟩
 . rename_i e;exact absurd h e
def c6K(hI:X7 o.c9 o.Main)(h:c6Y o a b t):FmP o.Main.Start.Time t:=by
 rcases h with⟨_,rfl⟩|⟨r,e,u,hu,_,_,rfl⟩
 . exact⟨hI.1.1,rfl,rfl⟩
 . rcases a8d hI with e'|⟨r',e',hf⟩
   . rw[e]at e';cases e'
   . rw[e]at e';cases e';exact(d1p (c7U (L7.1 hf) hu)).1
def c98(hI:X7 o.c9 o.Main)(h:∃m∈o.Main.p4,m.Time=t):FmP o.Main.Start.Time t:=by obtain⟨m,hm,rfl⟩:=h;exact(c6z hI.2.2.2.2.2.2.2.2.2.1 m hm).1
def c7Z(hI:X7 o.c9 o.Main)(ht:t∈(tmE qa o a b [o.Main.Start.Time] o.Main.b9).1):FmP o.Main.Start.Time t:=by
 by_cases h:(tmE qa o a b [o.Main.Start.Time] o.Main.b9).2=.nil
 . exact c6K hI ((c1T hI h).1 ht)
 . rcases a8d hI with e|⟨r,e,hf⟩
   . rw[e,tmE]at h;exact absurd rfl h
   . rw[e,tmE]at h ht;split at h
     . exact absurd rfl h
     . rename_i h2;rw[if_neg h2]at ht;cases ht
def b45(hI:X7 o.c9 o.Main)(h:t∈tmA qa o a b):FmP o.Main.Start.Time t:=by
 unfold tmA at h;rcases d4J.1 (d4Q.1 h).1 with h|h
 . exact c7Z hI h
 . obtain⟨m,hm,e⟩:=d5U.1 h;exact c98 hI ⟨m,hm,e⟩
def b6r(hI:X7 o.c9 o.Main):b0U (tmA qa o a b):=fun x hx y hy e=>c05 (b45 hI hx) (b45 hI hy) e
def c5N(hI:X7 o.c9 o.Main)(h:(R5 qa o a b).2=.nil)(ht:t∈(R5 qa o a b).1):FmP o.Main.Start.Time t:=by rw[(b51 h).2,c1K,a6s]at ht;exact b45 hI ht
def d0J(hI:X7 o.c9 o.Main)(h:(R5 qa o a b).2=.nil):(R5 qa o a b).1.Pairwise fun x y=>b8 x<b8 y:=by rw[(b51 h).2];exact c7n (c3W _) fun x hx y hy=>b6r hI x (a6s.1 hx) y (a6s.1 hy)
end
noncomputable section
structure GrP(t:Tm):Prop where
 rt:o7 t=true
 ut:t.UTC=true
 ba:t.n9=false
def c00{t:Tm}(h:o7 t=true)(hu:t.UTC=true):GrP t:=⟨h,hu,by
 cases hb:t.n9 with
 |false=>rfl
 |true=>exact absurd ⟨hb,.inr hu⟩ (A9.1 h).2.2.2.2⟩
def c3l{n:Int}{y:Tm}(h:(K3 n y).Day.Year≠0):0<=n/\n<315537897600/\(y.n9=true->y.UTC=false/\n%86400=0):=by
 unfold K3 at h;split at h
 . exact absurd rfl h
 . rename_i hc;have h1:¬n<0:=fun e=>hc (.inl e);have h2:¬3652059<n / 86400+1:=fun e=>hc (.inr (.inr e));refine⟨by omega,by omega,fun hb=>⟨?_,?_⟩⟩
   . cases hu:y.UTC with
     |false=>rfl
     |true=>exact absurd (.inr (.inl ⟨hb,.inl hu⟩)) hc
   . exact d5w fun e=>hc (.inr (.inl ⟨hb,.inr e⟩))
def c4u{n:Int}{y:Tm}(hu:y.UTC=true)(h:(K3 n y).Day.Year≠0):GrP (K3 n y)/\b8 (K3 n y)=n:=by obtain⟨a,b,c⟩:=c3l h;have hA:AtP y n:=⟨a,b,c⟩;exact⟨c00 (atS_ok hA).rt ((atS_ok hA).ut.trans hu),(atS_ok hA).se⟩
def b6g{n:Int}:b9Q n=true↔-86400<n/\n<86400:=d4Z
def fz_ok{l:List Obv}{t:Int}(hl:q9 l.length fun j=>c18 (ix l j)):∀n:Nat,n<=l.length->((fz l t n).some=true->-86400<(fz l t n).out/\(fz l t n).out<86400)/\0<=(fz l t n).early/\((fz l t n).early<n∨(fz l t n).early=0)
 |0,_=>⟨(fun h=>by cases h),d4D _,.inr rfl⟩
 |n+1,h=>by
  obtain⟨h1,h2,h3⟩:=fz_ok hl n (by omega);have ho:=b6g.1 (hl n (by omega) (by omega)).2.2.2.1;rw[fz,fzN];split
  . refine⟨fun _=>ho,?_,?_⟩
    . dsimp only;split <;> omega
    . dsimp only;split <;> omega
  . refine⟨h1,?_,?_⟩
    . dsimp only;split <;> omega
    . dsimp only;split <;> omega
def b8g{z:V5}{t:Int}(hz:a4C z)(h:(V0 z t).2=.nil):-86400<(V0 z t).1/\(V0 z t).1<86400:=by
 have hl:=hz.2.2.2.2.2;have hn:(z.D7.length:Int)≠0:=hz.2.2.2.1;obtain⟨h1,h2,h3⟩:=fz_ok (t:=t) hl z.D7.length (d4C _);unfold V0 at h ⊢;split at h
 . exact⟨by show(-86400:Int)<0;decide,by show(0:Int)<86400;decide⟩
 . split
   . rename_i hs;exact h1 hs
   . exact b6g.1 (hl _ h2 (by omega)).2.2.1
def b3S{z:V5}{t:Tm}(h:(U8 z t).2=.nil):-86400<(U8 z t).1/\(U8 z t).1<86400:=by
 unfold U8 at h ⊢;split at h
 . rename_i hc;rw[if_pos hc];exact b8g hc.1 h
 . cases h
def c7T{z:V5}{t:Tm}(ht:o7 t=true)(h:(V9 z t).2=.nil):GrP (V9 z t).1/\-86400<b8 (V9 z t).1-b8 t/\b8 (V9 z t).1-b8 t<86400:=by
 unfold V9 at h ⊢;split
 . rename_i hc;exact⟨c00 hc.2.1 hc.2.2,by show -86400<b8 t-b8 t;omega,by show b8 t-b8 t<86400;omega⟩
 . rename_i hc;rw[if_neg hc]at h;split
   . rename_i ho;rw[if_pos ho]at h;have hr:=b3S ho;unfold a4Y at h ⊢;split
     . rename_i hy;rw[if_pos hy]at h;cases h
     . rename_i hy;obtain⟨h1,h2⟩:=c4u rfl hy;exact⟨h1,by rw[h2];omega,by rw[h2];omega⟩
   . rename_i ho;rw[if_neg ho]at h;exact absurd h ho
def b4L{qa:Nat}{o:E3}{m:G9}(ht:o7 m.Time=true)(h:(u9 qa o m).2=.nil):GrP (u9 qa o m).1/\-86400<b8 (u9 qa o m).1-b8 m.Time/\b8 (u9 qa o m).1-b8 m.Time<86400:=by
 have main:∀l:List V5,(a14 qa m l).2=.nil->GrP (a14 qa m l).1/\-86400<b8 (a14 qa m l).1-b8 m.Time/\b8 (a14 qa m l).1-b8 m.Time<86400:=by
  intro l
  induction l with
  |nil =>
   intro _;have hb:=y7 ht;have hA:AtP tmU (b8 m.Time):=⟨hb.1,hb.2,(fun e=>by cases e)⟩;have ha:=atS_ok hA;rw[a14];dsimp only;rw[ha.se];exact⟨c00 ha.rt ha.ut,by omega,by omega⟩
  |cons z r ih =>
   intro h;rw[a14]at h ⊢;split
   . rename_i hc;rw[if_pos hc]at h;split
     . rename_i hn;exact c7T ht hn
     . rename_i hn;rw[if_neg hn]at h;cases h
   . rename_i hc;rw[if_neg hc]at h;exact ih h
 exact main o.c9 h
end
noncomputable section
variable{qa:Nat}{o:E3}{a b:Int}
def b6q{k t:Tm}{v:Bool}:∀{m:List (Tm×Bool)},getM (a36 m k v) t=if t=k then v else getM m t
 |[]=>by rw[a36,getM,getM,getM]
 |p::r=>by
  rw[a36];by_cases e:k=p.1
  . rw[if_pos e,getM,getM];by_cases e2:t=k
    . rw[if_pos e2,if_pos e2]
    . rw[if_neg e2,if_neg e2,if_neg (fun h=>e2 (h.trans e.symm))]
  . rw[if_neg e,getM,getM,b6q];by_cases e2:t=p.1
    . rw[if_pos e2,if_pos e2,if_neg (fun h=>e (h.symm.trans e2))]
    . rw[if_neg e2,if_neg e2]
def c7h{t:Tm}:∀{l:List R2}{m:List (Tm×Bool)},(ovM qa o m l).2=.nil->(getM (ovM qa o m l).1 t=true↔((∃x∈l,N4 x=t)/\(a1k qa o t).1=true)∨((¬∃x∈l,N4 x=t)/\getM m t=true))/\∀x∈l,(a1k qa o (N4 x)).2=.nil
 |[],m,_=>⟨by simp[ovM],fun _ h=>by cases h⟩
 |x::r,m,h=>by
  rw[ovM]at h ⊢;split at h
  . rename_i e;rw[if_pos e];obtain⟨h1,h2⟩:=c7h (t:=t) h;refine⟨?_,fun y hy=>?_⟩
    . rw[h1,b6q];simp only[d4B,d6S];by_cases e2:t=N4 x
      . have e3:N4 x=t:=e2.symm;rw[if_pos e2,<- e2];by_cases e4:∃y∈r,N4 y=t
        . simp[e3,e4]
        . simp[e3,e4]
      . have e3:¬N4 x=t:=fun h=>e2 h.symm;rw[if_neg e2];simp[e3]
    . rcases d4B.1 hy with e2|e2
      . rw[e2];exact e
      . exact h2 y e2
  . rename_i e;exact absurd h e
def inW(a b:Int)(s n:Int):Prop:=s<b/\¬(s+n<=a/\(0<n∨s<a))
def a6d{w:Wn}{s:Tm}{n:Int}{k:Tm}{v:Bool}{y:Ins}:y∈(H9 a b w s n k v).1↔y∈w.1∨(inW a b (b8 s) n/\(K3 (b8 s+n) s).Day.Year≠0/\y=mkI s n k v):=by
 unfold H9 inW;split
 . rename_i h;constructor
   . exact .inl
   . rintro(h1|⟨⟨h1,h2⟩,_⟩)
     . exact h1
     . rcases h with h|h
       . omega
       . exact absurd h h2
 . rename_i h;have h1:b8 s<b/\¬(b8 s+n<=a/\(0<n∨b8 s<a)):=⟨d7V.1 fun e=>h (.inl e),fun e=>h (.inr e)⟩;split
   . rename_i hy;simp[hy]
   . rename_i hy;simp[hy,h1]
def a9h{w:Wn}{s:Tm}{n:Int}{k:Tm}{v:Bool}:(H9 a b w s n k v).2=true↔w.2=true∨(inW a b (b8 s) n/\(K3 (b8 s+n) s).Day.Year=0):=by
 unfold H9 inW;split
 . rename_i h;constructor
   . exact .inl
   . rintro(h1|⟨⟨h1,h2⟩,_⟩)
     . exact h1
     . rcases h with h|h
       . omega
       . exact absurd h h2
 . rename_i h;have h1:b8 s<b/\¬(b8 s+n<=a/\(0<n∨b8 s<a)):=⟨d7V.1 fun e=>h (.inl e),fun e=>h (.inr e)⟩;split
   . rename_i hy;simp[hy,h1]
   . rename_i hy;simp[hy]
def b0W(l:List Ins):Prop:=l.Pairwise fun x y=>x.u5≠y.u5
def b2Z{w:Wn}{s:Tm}{n:Int}{k:Tm}{v:Bool}(h:b0W w.1)(hk:∀y∈w.1,y.u5≠k):b0W (H9 a b w s n k v).1:=by
 unfold H9;split
 . exact h
 . split
   . exact h
   . exact d6a.2 ⟨h,d5Z _ _,fun y hy z hz=>by rw[d4q.1 hz];exact hk y hy⟩
structure GaF(qa:Nat)(o:E3)(a b:Int)(w w':Wn)(B:Ins->Prop)(C:Prop):Prop where
 mem:∀y,y∈w'.1↔y∈w.1∨B y
 past:w'.2=true↔w.2=true∨C
def b1T(qa:Nat)(o:E3)(a b:Int)(mp:List (Tm×Bool))(l:List Tm)(y:Ins):Prop:=∃t∈l,¬getM mp t=true/\inW a b (b8 (u9 qa o (moI o t)).1) (A2 o.Main)/\(K3 (b8 (u9 qa o (moI o t)).1+A2 o.Main) (u9 qa o (moI o t)).1).Day.Year≠0/\y=mkI (u9 qa o (moI o t)).1 (A2 o.Main) t false
def b2n(qa:Nat)(o:E3)(a b:Int)(mp:List (Tm×Bool))(l:List R2)(y:Ins):Prop:=∃x∈l,getM mp (N4 x)=true/\inW a b (b8 (u9 qa o x.Start).1) (A2 x)/\(K3 (b8 (u9 qa o x.Start).1+A2 x) (u9 qa o x.Start).1).Day.Year≠0/\y=mkI (u9 qa o x.Start).1 (A2 x) (N4 x) true
def b5Y(qa:Nat)(o:E3)(a b:Int)(mp:List (Tm×Bool))(l:List Tm):Prop:=∃t∈l,¬getM mp t=true/\inW a b (b8 (u9 qa o (moI o t)).1) (A2 o.Main)/\(K3 (b8 (u9 qa o (moI o t)).1+A2 o.Main) (u9 qa o (moI o t)).1).Day.Year=0
def b6l(qa:Nat)(o:E3)(a b:Int)(mp:List (Tm×Bool))(l:List R2):Prop:=∃x∈l,getM mp (N4 x)=true/\inW a b (b8 (u9 qa o x.Start).1) (A2 x)/\(K3 (b8 (u9 qa o x.Start).1+A2 x) (u9 qa o x.Start).1).Day.Year=0
def ga1_ok{mp:List (Tm×Bool)}:∀{l:List Tm}{w:Wn},(ga1 qa o a b mp w l).2=.nil->GaF qa o a b w (ga1 qa o a b mp w l).1 (b1T qa o a b mp l) (b5Y qa o a b mp l)/\∀t∈l,¬getM mp t=true->(u9 qa o (moI o t)).2=.nil
 |[],w,_=>⟨⟨fun y=>by simp[ga1,b1T],by simp[ga1,b5Y]⟩,fun _ h=>by cases h⟩
 |t::r,w,h=>by
  rw[ga1]at h ⊢;by_cases e:getM mp t=true
  . rw[if_pos e]at h ⊢;obtain⟨⟨h1,h2⟩,h3⟩:=ga1_ok h;refine⟨⟨fun y=>?_,?_⟩,fun u hu hn=>?_⟩
    . rw[h1];simp[b1T,e]
    . rw[h2];simp[b5Y,e]
    . rcases d4B.1 hu with e2|e2
      . rw[e2]at hn;exact absurd e hn
      . exact h3 u e2 hn
  . rw[if_neg e]at h ⊢;split at h
    . rename_i hm;rw[if_pos hm];obtain⟨⟨h1,h2⟩,h3⟩:=ga1_ok h;refine⟨⟨fun y=>?_,?_⟩,fun u hu hn=>?_⟩
      . rw[h1,a6d];simp only[b1T,d4B,d6S,or_assoc,e,d5m,d7Q,true_and]
      . rw[h2,a9h];simp only[b5Y,d4B,d6S,or_assoc,e,d5m,d7Q,true_and]
      . rcases d4B.1 hu with e2|e2
        . rw[e2];exact hm
        . exact h3 u e2 hn
    . rename_i hm;exact absurd h hm
def ga2_ok{mp:List (Tm×Bool)}:∀{l:List R2}{w:Wn},(ga2 qa o a b mp w l).2=.nil->GaF qa o a b w (ga2 qa o a b mp w l).1 (b2n qa o a b mp l) (b6l qa o a b mp l)/\∀x∈l,getM mp (N4 x)=true->(u9 qa o x.Start).2=.nil
 |[],w,_=>⟨⟨fun y=>by simp[ga2,b2n],by simp[ga2,b6l]⟩,fun _ h=>by cases h⟩
 |t::r,w,h=>by
  rw[ga2]at h ⊢;by_cases e:¬getM mp (N4 t)=true
  . rw[if_pos e]at h ⊢;obtain⟨⟨h1,h2⟩,h3⟩:=ga2_ok h;refine⟨⟨fun y=>?_,?_⟩,fun u hu hn=>?_⟩
    . rw[h1];simp[b2n,e]
    . rw[h2];simp[b6l,e]
    . rcases d4B.1 hu with e2|e2
      . rw[e2]at hn;exact absurd hn e
      . exact h3 u e2 hn
  . rw[if_neg e]at h ⊢;have e:=d4i.1 e;split at h
    . rename_i hm;rw[if_pos hm];obtain⟨⟨h1,h2⟩,h3⟩:=ga2_ok h;refine⟨⟨fun y=>?_,?_⟩,fun u hu hn=>?_⟩
      . rw[h1,a6d];simp only[b2n,d4B,d6S,or_assoc,e,true_and]
      . rw[h2,a9h];simp only[b6l,d4B,d6S,or_assoc,e,true_and]
      . rcases d4B.1 hu with e2|e2
        . rw[e2];exact hm
        . exact h3 u e2 hn
    . rename_i hm;exact absurd h hm
def b0w{mp:List (Tm×Bool)}:∀{l:List Tm}{w:Wn},b0W w.1->l.Pairwise (· ≠ ·)->(∀t∈l,∀y∈w.1,y.u5≠t)->b0W (ga1 qa o a b mp w l).1.1
 |[],w,h,_,_=>h
 |t::r,w,h,hl,hk=>by
  obtain⟨l1,l2⟩:=d5f.1 hl;rw[ga1];split
  . exact b0w h l2 fun u hu=>hk u (by simp[hu])
  . split
    . refine b0w (b2Z h (hk t (by simp))) l2 fun u hu y hy=>?_;rcases a6d.1 hy with hy|⟨_,_,rfl⟩
      . exact hk u (by simp[hu]) y hy
      . exact l1 u hu
    . exact h
def b0a{mp:List (Tm×Bool)}:∀{l:List R2}{w:Wn},b0W w.1->(l.Pairwise fun x y=>N4 x≠N4 y)->(∀x∈l,getM mp (N4 x)=true->∀y∈w.1,y.u5≠N4 x)->b0W (ga2 qa o a b mp w l).1.1
 |[],w,h,_,_=>h
 |t::r,w,h,hl,hk=>by
  obtain⟨l1,l2⟩:=d5f.1 hl;rw[ga2];split
  . exact b0a h l2 fun u hu=>hk u (by simp[hu])
  . rename_i e;have e:=d4i.1 e;split
    . refine b0a (b2Z h (hk t (by simp) e)) l2 fun u hu hg y hy=>?_;rcases a6d.1 hy with hy|⟨_,_,rfl⟩
      . exact hk u (by simp[hu]) hg y hy
      . exact l1 u hu
    . exact h
def b0S(hO:a0S o){x:R2}(hx:x∈o.Over):FmP o.Main.Start.Time (N4 x)/\X7 o.c9 x:=by
 have h:=(q9.list (p:=fun x:R2=>(x.p7.length:Int)=1/\X7 o.c9 x/\R4 (ix x.p7 0) o.Main.Start=true)).1 (fun j j0 j1=>by obtain⟨h1,_,h2,h3,_⟩:=hO.2.2.2.2.2 j j0 j1;exact⟨h1,h2,h3⟩) x hx
 obtain⟨h1,h2,h3⟩:=h;obtain⟨f1,f2,_⟩:=b2q.1 h3;have hm:V3 o.c9 (ix x.p7 0):=h2.2.2.2.2.2.2.2.1 0 (by omega) (by omega);exact⟨⟨hm.1,f1,f2⟩,h2⟩
def b9a(hO:a0S o):o.Over.Pairwise fun x y=>b8 (N4 x)<b8 (N4 y):=by
 have up:∀n:Nat,∀i j:Int,0<=i->i<j->j=i+n->j<o.Over.length->b8 (N4 (ix o.Over i))<b8 (N4 (ix o.Over j)):=by
  intro n
  induction n with
  |zero=>intro i j _ h e;omega
  |succ n ih =>
   intro i j i0 h e hj;have h1:=(hO.2.2.2.2.2 j (by omega) hj).2.2.2.2 (by omega);by_cases hn:n=0
   . rw[show j-1=i by omega]at h1;exact h1
   . have h2:=ih i (j-1) i0 (by omega) (by omega) (by omega);unfold N4 at h2 ⊢;omega
 rw[d5q];intro i j hi hj h;have:=up (j-i) i j (by omega) (by omega) (by omega) (by omega);rw[w8 (by omega),w8 (by omega)]at this;exact this
def c3b(hO:a0S o):o.Over.Pairwise fun x y=>N4 x≠N4 y:=(b9a hO).imp fun h e=>by rw[e]at h;omega
def c8h(qa:Nat)(o:E3)(a b:Int)(y:Ins):Prop:=b1T qa o a b (ovM qa o [] o.Over).1 (R5 qa o a b).1 y∨b2n qa o a b (ovM qa o [] o.Over).1 o.Over y
def b4w(h:(gaS qa o a b).2=.nil):(ovM qa o [] o.Over).2=.nil/\(R5 qa o a b).2=.nil/\(ga1 qa o a b (ovM qa o [] o.Over).1 ([],false) (R5 qa o a b).1).2=.nil/\(ga2 qa o a b (ovM qa o [] o.Over).1 (ga1 qa o a b (ovM qa o [] o.Over).1 ([],false) (R5 qa o a b).1).1 o.Over).2=.nil/\gaS qa o a b=ga2 qa o a b (ovM qa o [] o.Over).1 (ga1 qa o a b (ovM qa o [] o.Over).1 ([],false) (R5 qa o a b).1).1 o.Over:=by
 unfold gaS at h ⊢;split at h
 . rename_i e1;split at h
   . rename_i e2;split at h
     . rename_i e3;rw[if_pos e1,if_pos e2,if_pos e3];exact⟨e1,e2,e3,h,rfl⟩
     . rename_i e3;exact absurd h e3
   . rename_i e2;exact absurd h e2
 . rename_i e1;exact absurd h e1
def c62(h:(gaS qa o a b).2=.nil){y:Ins}:y∈(gaS qa o a b).1.1↔c8h qa o a b y:=by obtain⟨_,_,h3,h4,h5⟩:=b4w h;rw[h5,(ga2_ok h4).1.mem,(ga1_ok h3).1.mem];simp[c8h]
def c6A(hO:a0S o)(h:(gaS qa o a b).2=.nil):b0W (gaS qa o a b).1.1:=by
 obtain⟨h1,h2,h3,h4,h5⟩:=b4w h;have hI:=hO.2.2.2.1;rw[h5];refine b0a (b0w List.Pairwise.nil ((d0J hI h2).imp fun h e=>by rw[e]at h;omega) (fun _ _ _ h=>by cases h)) (c3b hO) fun x hx hg y hy=>?_;rcases((ga1_ok h3).1.mem y).1 hy with hy|⟨t,ht,hn,_,_,rfl⟩
 . cases hy
 . rintro rfl;exact hn hg
def b1G(hO:a0S o)(h:(gaS qa o a b).2=.nil){y:Ins}(hy:y∈(gaS qa o a b).1.1):FmP o.Main.Start.Time y.u5:=by
 rcases(c62 h).1 hy with⟨t,ht,_,_,_,rfl⟩|⟨x,hx,_,_,_,rfl⟩
 . exact c5N hO.2.2.2.1 (b4w h).2.1 ht
 . exact(b0S hO hx).1
def c6R{l:List Ins}(h:b0W l){x y:Ins}(hx:x∈l)(hy:y∈l)(e:x.u5=y.u5):x=y:=by
 induction l with
 |nil=>cases hx
 |cons z r ih =>
  obtain⟨h1,h2⟩:=d5f.1 h;rcases d4B.1 hx with ex|ex <;> rcases d4B.1 hy with ey|ey
  . rw[ex,ey]
  . rw[ex]at e;exact absurd e (h1 y ey)
  . rw[ey]at e;exact absurd e.symm (h1 x ex)
  . exact ih h2 ex ey
def c7y(hO:a0S o)(h:(gaS qa o a b).2=.nil):d2U (gaS qa o a b).1.1:=fun x hx y hy _ e=>c6R (c6A hO h) hx hy (c05 (b1G hO h hx) (b1G hO h hy) e)
end
noncomputable section
variable{qa:Nat}{o:E3}{a b:Int}
def b4N{zs:List V5}{x:R2}(h:X7 zs x):0<=A2 x/\A2 x<=400000000000:=by
 unfold A2;split
 . rename_i hs;have:=h.2.2.2.2.2.1 0 (by omega) hs.1;omega
 . split
   . have:=a29 (ix x.End 0).Time;have:=a29 x.Start.Time;omega
   . split <;> omega
end
noncomputable section
variable{qa:Nat}{o:E3}{a b:Int}
def b5c:∀{rs:List Rl}{l:List Tm},l.length<=1000->(tmE qa o a b l rs).1.length<=1000
 |[],l,h=>h
 |r::rs,l,h=>by
  unfold tmE;split
  . exact b5c (by have:=@b5N o.Main.Start.Time (X5 (a-172800-A2 o.Main) o.Main.Start.Time) (X5 (b+172800) o.Main.Start.Time) r;unfold tmR;omega)
  . exact d5M _
def c5U(h:a2i o.Main):(R5 qa o a b).1.length<=1200:=by
 have h4:=h.2.2.2.1;unfold R5;split
 . have h1:=c3N (a5C (tmA qa o a b));rw[b3f]at h1;have h2:(tmA qa o a b).length<=_:=d7w _ _;rw[d4o,d5F]at h2;have h3:=@b5c qa o a b o.Main.b9 [o.Main.Start.Time] (by show 1<=1000;decide);dsimp only;omega
 . exact d5M _
def c9T(h:(ovM qa o [] o.Over).2≠.nil):gaS qa o a b=(([],false),(ovM qa o [] o.Over).2):=by unfold gaS;rw[if_neg h]
def c4z(h1:(ovM qa o [] o.Over).2=.nil)(h2:(R5 qa o a b).2=.nil)(h:(ga1 qa o a b (ovM qa o [] o.Over).1 ([],false) (R5 qa o a b).1).2≠.nil):gaS qa o a b=ga1 qa o a b (ovM qa o [] o.Over).1 ([],false) (R5 qa o a b).1:=by unfold gaS;rw[if_pos h1,if_pos h2,if_neg h]
def c4c(h1:(ovM qa o [] o.Over).2=.nil)(h2:(R5 qa o a b).2=.nil)(h:(ga1 qa o a b (ovM qa o [] o.Over).1 ([],false) (R5 qa o a b).1).2=.nil):gaS qa o a b=ga2 qa o a b (ovM qa o [] o.Over).1 (ga1 qa o a b (ovM qa o [] o.Over).1 ([],false) (R5 qa o a b).1).1 o.Over:=by unfold gaS;rw[if_pos h1,if_pos h2,if_pos h]
end
end Go.Qu
namespace Go.Proofs.YtapnoejokajcoaaGreatDoor
open Go Go.Wk Go.Wl Go.Rx Go.Re Go.Li Go.Qu Go.Fo 
attribute [local irreducible] i7
def d0Q:Nat->D1:=fun|9=>⟨97,nn,fun|8=>some ⟨[8],[.slot 11 .err,.own 8 [(.int .i64),(.int .i64),(.acc 48),.bool]]⟩|_=>none⟩|28=>⟨133,fun|25=>some ⟨[0,3,5,98,99],[.slot 100 (.int .i64),.own 0 [(.int .i64),(.int .i64),(.acc 48),.bool]]⟩|14=>some ⟨[0,3,5,66,67],[.slot 68 (.int .i64),.own 0 [(.int .i64),(.int .i64),(.acc 48),.bool]]⟩|3=>some ⟨[0,3,5,23,24],[.slot 25 (.int .i64),.ob 5 2]⟩|_=>none,nn⟩|_=>⟨0,nn,nn⟩
def S7(o:E3)(f:Tm)(t:Tm):=R5 (105:Nat) (etE o) (b8 (j6 f)) (b8 (j6 t))
def Vqi(o:E3)(f:Tm)(t:Tm)(Q:List Ins->l8->Prop):Prop:=
a1n (etE o)/\(bR (((((¬bo (a0S (etE o))=true∨¬o7 (j6 f)=true)∨¬o7 (j6 t)=true)∨¬f.UTC=true)∨¬t.UTC=true)∨b8 (j6 t)<b8 (j6 f)) (Q [] (l8.no 2)) ((a2i (etI o.Main)/\(0<=A2 (etI o.Main)/\A2 (etI o.Main)<=400000000000)/\(0<=b8 (j6 f)/\b8 (j6 f)<315537897600)/\(0<=b8 (j6 t)/\b8 (j6 t)<315537897600)/\b0U (tmA (105:Nat) (etE o) (b8 (j6 f)) (b8 (j6 t))))/\(bR ((S7 o f t).snd≠l8.nil) (asB (S7 o f t).snd=true/\Q [] (Q7 (S7 o f t).snd)) (∃(J:l8->Int->Int->List Ins->Bool->Prop),(∃(I:Int->List (Tm×Bool)->Prop),∃(m:Int->List (Tm×Bool)->Nat),I 0 []/\∀(x:Int) (x_1:List (Tm×Bool)),I x x_1->(bR (x<(↑o.Over.length:Int)) (0<=x/\x<(↑o.Over.length:Int)/\((0:Int)<=0/\0<(↑(ix o.Over x).p7.length:Int))/\a2i (etI o.Main)/\(bR ((a1k (105:Nat) (etE o) (j6 (ix (ix o.Over x).p7 0).Time)).snd≠l8.nil) (J (a1k (105:Nat) (etE o) (j6 (ix (ix o.Over x).p7 0).Time)).snd (b8 (j6 f)) (b8 (j6 t)) [] false) ((0:Int)<=0/\0<(↑(ix o.Over x).p7.length:Int)/\c6 (x+1)/\I (x+1) (a36 x_1 (j6 (ix (ix o.Over x).p7 0).Time) (decide ((a1k (105:Nat) (etE o) (j6 (ix (ix o.Over x).p7 0).Time)).fst=true)))/\m (x+1) (a36 x_1 (j6 (ix (ix o.Over x).p7 0).Time) (decide ((a1k (105:Nat) (etE o) (j6 (ix (ix o.Over x).p7 0).Time)).fst=true)))<m x x_1))) ((a2i (etI o.Main)/\(0<=A2 (etI o.Main)/\A2 (etI o.Main)<=400000000000)/\(0<=b8 (j6 f)/\b8 (j6 f)<315537897600)/\(0<=b8 (j6 t)/\b8 (j6 t)<315537897600)/\b0U (tmA (105:Nat) (etE o) (b8 (j6 f)) (b8 (j6 t))))/\(bR ((S7 o f t).snd≠l8.nil) (J (S7 o f t).snd (b8 (j6 f)) (b8 (j6 t)) [] false) (∃(I:Int->Int->Int->List Ins->Bool->Prop),∃(m:Int->Int->Int->List Ins->Bool->Nat),I 0 (b8 (j6 f)) (b8 (j6 t)) [] false/\∀(x x_2 x_3:Int)(x_4:List Ins)(x_5:Bool),I x x_2 x_3 x_4 x_5->(bR (x<(↑(S7 o f t).fst.length:Int)) (0<=x/\x<(↑(S7 o f t).fst.length:Int)/\(c6 (ix (S7 o f t).fst x).Day.Year->c6 (ix (S7 o f t).fst x).Day.Month->c6 (ix (S7 o f t).fst x).Day.Date->c6 (ix (S7 o f t).fst x).Hour->c6 (ix (S7 o f t).fst x).Min->c6 (ix (S7 o f t).fst x).D5->(bR (getM x_1 (j6 (ix (S7 o f t).fst x))=true) (c6 (x+1)/\I (x+1) x_2 x_3 x_4 (decide (x_5=true))/\m (x+1) x_2 x_3 x_4 (decide (x_5=true))<m x x_2 x_3 x_4 x_5) ((∀(z:V5),z∈o.c9->X1 z)/\(↑o.c9.length:Int)<=1000000/\(bR ((u9 (105:Nat) (etE o) (G9.mk (j6 (ix (S7 o f t).fst x)) o.Main.Start.I3)).snd≠l8.nil) (J (u9 (105:Nat) (etE o) (G9.mk (j6 (ix (S7 o f t).fst x)) o.Main.Start.I3)).snd x_2 x_3 x_4 (decide (x_5=true))) (((-1000000000000000:Int)<=b8 (j6 (u9 (105:Nat) (etE o) (G9.mk (j6 (ix (S7 o f t).fst x)) o.Main.Start.I3)).fst)+A2 (etI o.Main)/\b8 (j6 (u9 (105:Nat) (etE o) (G9.mk (j6 (ix (S7 o f t).fst x)) o.Main.Start.I3)).fst)+A2 (etI o.Main)<=1000000000000000/\x_4.length<=100000)/\c6 (x+1)/\I (x+1) x_2 x_3 (H9 x_2 x_3 (x_4,decide (x_5=true)) (j6 (u9 (105:Nat) (etE o) (G9.mk (j6 (ix (S7 o f t).fst x)) o.Main.Start.I3)).fst) (A2 (etI o.Main)) (j6 (ix (S7 o f t).fst x)) false).fst (decide ((H9 x_2 x_3 (x_4,decide (x_5=true)) (j6 (u9 (105:Nat) (etE o) (G9.mk (j6 (ix (S7 o f t).fst x)) o.Main.Start.I3)).fst) (A2 (etI o.Main)) (j6 (ix (S7 o f t).fst x)) false).snd=true))/\m (x+1) x_2 x_3 (H9 x_2 x_3 (x_4,decide (x_5=true)) (j6 (u9 (105:Nat) (etE o) (G9.mk (j6 (ix (S7 o f t).fst x)) o.Main.Start.I3)).fst) (A2 (etI o.Main)) (j6 (ix (S7 o f t).fst x)) false).fst (decide ((H9 x_2 x_3 (x_4,decide (x_5=true)) (j6 (u9 (105:Nat) (etE o) (G9.mk (j6 (ix (S7 o f t).fst x)) o.Main.Start.I3)).fst) (A2 (etI o.Main)) (j6 (ix (S7 o f t).fst x)) false).snd=true))<m x x_2 x_3 x_4 x_5)))))) (∃(I:Int->Int->Int->List Ins->Bool->Prop),∃(m:Int->Int->Int->List Ins->Bool->Nat),I 0 x_2 x_3 x_4 (decide (x_5=true))/\∀(x x_6 x_7:Int)(x_8:List Ins)(x_9:Bool),I x x_6 x_7 x_8 x_9->(bR (x<(↑o.Over.length:Int)) (0<=x/\x<(↑o.Over.length:Int)/\(0:Int)<=0/\0<(↑(ix o.Over x).p7.length:Int)/\(bR (¬getM x_1 (j6 (ix (ix o.Over x).p7 0).Time)=true) (c6 (x+1)/\I (x+1) x_6 x_7 x_8 (decide (x_9=true))/\m (x+1) x_6 x_7 x_8 (decide (x_9=true))<m x x_6 x_7 x_8 x_9) ((∀(z:V5),z∈o.c9->X1 z)/\(↑o.c9.length:Int)<=1000000/\(bR ((u9 (105:Nat) (etE o) (etM (ix o.Over x).Start)).snd≠l8.nil) (J (u9 (105:Nat) (etE o) (etM (ix o.Over x).Start)).snd x_6 x_7 x_8 (decide (x_9=true))) (((0:Int)<=0/\0<(↑(ix o.Over x).p7.length:Int))/\((-1000000000000000:Int)<=b8 (j6 (u9 (105:Nat) (etE o) (etM (ix o.Over x).Start)).fst)+A2 (etI (ix o.Over x))/\b8 (j6 (u9 (105:Nat) (etE o) (etM (ix o.Over x).Start)).fst)+A2 (etI (ix o.Over x))<=1000000000000000/\x_8.length<=100000)/\c6 (x+1)/\I (x+1) x_6 x_7 (H9 x_6 x_7 (x_8,decide (x_9=true)) (j6 (u9 (105:Nat) (etE o) (etM (ix o.Over x).Start)).fst) (A2 (etI (ix o.Over x))) (j6 (ix (ix o.Over x).p7 0).Time) true).fst (decide ((H9 x_6 x_7 (x_8,decide (x_9=true)) (j6 (u9 (105:Nat) (etE o) (etM (ix o.Over x).Start)).fst) (A2 (etI (ix o.Over x))) (j6 (ix (ix o.Over x).p7 0).Time) true).snd=true))/\m (x+1) x_6 x_7 (H9 x_6 x_7 (x_8,decide (x_9=true)) (j6 (u9 (105:Nat) (etE o) (etM (ix o.Over x).Start)).fst) (A2 (etI (ix o.Over x))) (j6 (ix (ix o.Over x).p7 0).Time) true).fst (decide ((H9 x_6 x_7 (x_8,decide (x_9=true)) (j6 (u9 (105:Nat) (etE o) (etM (ix o.Over x).Start)).fst) (A2 (etI (ix o.Over x))) (j6 (ix (ix o.Over x).p7 0).Time) true).snd=true))<m x x_6 x_7 x_8 x_9))))) (J l8.nil x_6 x_7 x_8 (decide (x_9=true)))))))))))/\∀(x:l8)(x_1 x_2:Int)(x_3:List Ins)(x_4:Bool),J x x_1 x_2 x_3 x_4->(bR (x≠l8.nil) (asB x=true/\Q [] (Q7 x)) ((bR (x_4=true) (Q [] (l8.no 3)) ((bR (1000<(↑x_3.length:Int)) (Q [] (l8.no 16)) (x_3.length<=1000000/\(∀(x:Ins),x∈x_3->∀(y:Ins),y∈x_3->b8 x.Start=b8 y.Start->b8 x.u5=b8 y.u5->x=y)/\Q (b1x x_3) l8.nil))))))))))
def c6E(o:E3)(t:Tm):asB (a1k 105 o t).2=true:=by
 have h:∀(l:List Rl)(b:Bool),asB (a8C 105 o.Main.Start.Time t b l).2=true:=by
  intro l
  induction l with
  |nil=>intro b;rfl
  |cons r l ih=>intro b;unfold a8C;split;exact ih _;rfl
 unfold a1k;dsimp only;split
 . rfl
 . exact h _ _
def d0R(o:E3)(a b:Int):asB (R5 105 o a b).2=true:=by
 have h:∀(l:List Rl)(x:List Tm),asB (tmE 105 o a b x l).2=true:=by
  intro l
  induction l with
  |nil=>intro x;rfl
  |cons r l ih=>intro x;unfold tmE;split;exact ih _;rfl
 unfold R5;split
 . rfl
 . exact h _ _
def b5z(o:E3)(m:G9):asB (u9 105 o m).2=true:=by
 unfold u9
 first|exact b0n _ _|(split;rfl;exact b0n _ _)
def pqi(o:E3)(f:Tm)(t:Tm)(ho:a1n o):Vqi o f t (fun y0 y1=>y0=(a0a 105 o f t).1/\y1=(a0a 105 o f t).2):=by
 unfold Vqi S7;simp only[x9,A6,B3,C5,C4,C6,C8,C3,B9,D0,B7,d4p,d7q,d8f,d8e];have hz:=ho.2.2.2.2.2.2.2.1;have hzl:=ho.2.2.1;have hfi:=ho.2.2.2.2.2.2.1;have hol:=ho.2.2.2.1;generalize hF:b8 f=F at *;generalize hT:b8 t=T at *;refine⟨ho,fun h=>?_,fun h=>?_⟩
 . have e:a0a 105 o f t=([],.no 2):=by
     unfold a0a;refine if_neg fun hA=>?_;obtain⟨a1,a2,a3,a4,a5,a6⟩:=hA;rcases h with((((h|h)|h)|h)|h)|h
     . exact h (y6.2 a1)
     . exact h a2
     . exact h a3
     . exact h a4
     . exact h a5
     . omega
   rw[e];exact⟨rfl,rfl⟩
 have hO:a0S o:=y6.1 (d4i.1 fun e=>h (.inl (.inl (.inl (.inl (.inl e))))));have hf:o7 f=true:=d4i.1 fun e=>h (.inl (.inl (.inl (.inl (.inr e)))));have ht:o7 t=true:=d4i.1 fun e=>h (.inl (.inl (.inl (.inr e))));have hfu:f.UTC=true:=d4i.1 fun e=>h (.inl (.inl (.inr e)));have htu:t.UTC=true:=d4i.1 fun e=>h (.inl (.inr e));have hle:¬T<F:=fun e=>h (.inr e);clear h;have hI:=hO.2.2.2.1;have hA:b71 o f t:=⟨hO,hf,ht,hfu,htu,by omega⟩;have hln:=b4N hI;have sf:=Go.Re.y7 hf;have st:=Go.Re.y7 ht;rw[hF]at sf;rw[hT]at st;have htm:a2i o.Main/\(0<=A2 o.Main/\A2 o.Main<=400000000000)/\(0<=F/\F<315537897600)/\(0<=T/\T<315537897600)/\b0U (tmA 105 o F T):=⟨hfi,hln,sf,st,b6r hI⟩;have eq0:a0a 105 o f t=if(R5 105 o F T).2=.nil then
   if(gaS 105 o F T).2=.nil then
    if(gaS 105 o F T).1.2=true then([],.no 3)else
    if 1000<(gaS 105 o F T).1.1.length then([],.no 16)else
    (b1x (gaS 105 o F T).1.1,.nil)
   else([],Q7 (gaS 105 o F T).2)
  else([],Q7 (R5 105 o F T).2):=by
  unfold a0a;rw[if_pos hA,hF,hT]
 have key:∀i:Int,0<=i->i<o.Over.length->0<((ix o.Over i).p7.length:Int):=fun i i0 hi=>by have:=(hO.2.2.2.2.2 i i0 hi).1;omega
 refine⟨htm,fun he=>⟨d0R _ _ _,?_⟩,fun he=>?_⟩
 . rw[eq0,if_neg he];exact⟨rfl,rfl⟩
 have he2:(R5 105 o F T).2=.nil:=d4i.1 he;rw[if_pos he2]at eq0;have hTl:=@c5U 105 o F T hfi;refine⟨fun e _ _ l p=>asB e=true/\(gaS 105 o F T).2=e/\(e=.nil->(gaS 105 o F T).1=(l,p)),⟨fun i m=>0<=i/\i<=o.Over.length/\ovM 105 o [] o.Over=ovM 105 o m (o.Over.drop i.toNat),fun i _=>((o.Over.length:Int)-i).toNat,⟨by omega,by omega,rfl⟩,?_⟩,?_⟩
 . rintro i m ⟨i0,i1,hm⟩;refine⟨fun hi=>?_,fun hi=>?_⟩
   . rw[a48 i0 hi,ovM]at hm;unfold N4 at hm;have hr:=key i i0 hi;refine⟨i0,hi,⟨by omega,hr⟩,hfi,fun he=>⟨c6E _ _,?_,fun e=>absurd e he⟩,fun he=>⟨by omega,hr,⟨by omega,by omega⟩,⟨by omega,by omega,?_⟩,by dsimp only;omega⟩⟩
     . rw[if_neg he]at hm;rw[c9T (by rw[hm];exact he),hm]
     . rw[if_pos (d4i.1 he)]at hm;exact hm
   rw[d5P (by omega),ovM]at hm;have o1:(ovM 105 o [] o.Over).2=.nil:=by rw[hm]
   have o2:(ovM 105 o [] o.Over).1=m:=by rw[hm]
   have o0:q9 (o.Over.length:Int) fun _=>True:=fun _ _ _=>trivial;clear i0 i1 hi hm i;refine⟨htm,fun he=>absurd he2 he,fun _=>?_⟩;refine⟨fun i a' b' l p=>F=a'/\T=b'/\0<=i/\i<=(R5 105 o F T).1.length/\(l.length:Int)<=i/\ga1 105 o F T m ([],false) (R5 105 o F T).1=ga1 105 o F T m (l,p) ((R5 105 o F T).1.drop i.toNat),fun i _ _ _ _=>(((R5 105 o F T).1.length:Int)-i).toNat,⟨rfl,rfl,by omega,by omega,by show(0:Int)<=0;omega,rfl⟩,?_⟩;rintro i a' b' l p ⟨rfl,rfl,i0,i1,hll,hm⟩;refine⟨fun hi=>?_,fun hi=>?_⟩
   . rw[a48 i0 hi,ga1]at hm;unfold moI at hm;refine⟨i0,hi,fun _ _ _ _ _ _=>⟨fun hg=>⟨⟨by omega,by omega⟩,⟨rfl,rfl,by omega,by omega,by omega,?_⟩,by dsimp only;omega⟩,fun hg=>⟨hz,by omega,fun he=>⟨b5z _ _,?_,fun e=>absurd e he⟩,fun he=>⟨⟨?_,?_,by omega⟩,⟨by omega,by omega⟩,⟨rfl,rfl,by omega,by omega,?_,?_⟩,by dsimp only;omega⟩⟩⟩⟩
     . rw[if_pos hg]at hm;exact hm
     . rw[if_neg hg,if_neg he]at hm;rw[<- o2]at hm;rw[c4z o1 he2 (by rw[hm];exact he),hm]
     all_goals have he:=d4i.1 he
     . have g:=b4L (c5N hI he2 (w5 i0 hi)).rt (m:=⟨ix (R5 105 o F T).1 i,o.Main.Start.I3⟩) he;have:=a29 (ix (R5 105 o F T).1 i);have g2:-86400<_-b8 (ix (R5 105 o F T).1 i):=g.2.1;omega
     . have:=a29 (u9 105 o ⟨ix (R5 105 o F T).1 i,o.Main.Start.I3⟩).1;omega
     . have:=b19 F T (l,p) (u9 105 o ⟨ix (R5 105 o F T).1 i,o.Main.Start.I3⟩).1 (A2 o.Main) (ix (R5 105 o F T).1 i) false;dsimp only at this;omega
     . rw[if_neg hg,if_pos he]at hm;exact hm
   rw[d5P (by omega),ga1]at hm;rw[<- o2]at hm;have o3:(ga1 105 o F T (ovM 105 o [] o.Over).1 ([],false) (R5 105 o F T).1).2=.nil:=by rw[hm]
   have hg4:=c4c o1 he2 o3;rw[hm,o2]at hg4;dsimp only at hg4;have hl0:(l.length:Int)<=1200:=by omega
   clear i0 i1 hll hi hm i o3;refine⟨fun i a' b' l p=>F=a'/\T=b'/\0<=i/\i<=o.Over.length/\(l.length:Int)<=1200+i/\gaS 105 o F T=ga2 105 o F T m (l,p) (o.Over.drop i.toNat),fun i _ _ _ _=>((o.Over.length:Int)-i).toNat,⟨rfl,rfl,by omega,by omega,by omega,hg4⟩,?_⟩;clear hg4 hl0 l p;rintro i a' b' l p ⟨rfl,rfl,i0,i1,hll,hm⟩;refine⟨fun hi=>?_,fun hi=>?_⟩
   . rw[a48 i0 hi,ga2]at hm;unfold N4 at hm;have hr:=key i i0 hi;refine⟨i0,hi,by omega,hr,fun hg=>⟨⟨by omega,by omega⟩,⟨rfl,rfl,by omega,by omega,by omega,?_⟩,by dsimp only;omega⟩,fun hg=>⟨hz,by omega,fun he=>⟨b5z _ _,?_,fun e=>absurd e he⟩,fun he=>⟨⟨by omega,hr⟩,⟨?_,?_,by omega⟩,⟨by omega,by omega⟩,⟨rfl,rfl,by omega,by omega,?_,?_⟩,by dsimp only;omega⟩⟩⟩
     . rw[if_pos hg]at hm;exact hm
     . rw[if_neg hg,if_neg he]at hm;rw[hm]
     all_goals have he:=d4i.1 he
     all_goals have hx:=(b0S hO (w5 i0 hi)).2
     all_goals have hlx:=b4N hx
     . have g:=b4L hx.1.1 he;have:=a29 (ix o.Over i).Start.Time;omega
     . have:=a29 (u9 105 o (ix o.Over i).Start).1;omega
     . have:=b19 F T (l,p) (u9 105 o (ix o.Over i).Start).1 (A2 (ix o.Over i)) (ix (ix o.Over i).p7 0).Time true;dsimp only at this;omega
     . rw[if_neg hg,if_pos he]at hm;exact hm
   . rw[d5P (by omega),ga2]at hm;rw[hm];exact⟨rfl,rfl,fun _=>rfl⟩
 . rintro e a' b' l p ⟨ha,hg,hn⟩;refine⟨fun he=>⟨ha,?_⟩,fun he=>?_⟩
   . rw[eq0,if_neg (by rw[hg];exact he),hg];exact⟨rfl,rfl⟩
   have he:=d4i.1 he;have hn:=hn he;rw[he]at hg;rw[if_pos hg,hn]at eq0;dsimp only at eq0;refine⟨fun hp=>?_,fun hp=>⟨fun hk=>?_,fun hk=>⟨by omega,fun x hx y hy e1 e2=>?_,?_⟩⟩⟩
   . rw[eq0,if_pos hp];exact⟨rfl,rfl⟩
   . rw[eq0,if_neg hp,if_pos (by omega)];exact⟨rfl,rfl⟩
   . have ht:=c7y hO hg;rw[hn]at ht;exact ht x hx y hy e1 e2
   . rw[eq0,if_neg hp,if_neg (by omega)];exact⟨rfl,rfl⟩
def Nqi:Env:=d1a.kD 9 (r38.c (r26.c (r26.c .n))) (.acc 48) (.err) (fun y=>[a1n y.1]) (fun y=>((a0a 105 y.1 y.2.1 y.2.2.1).1:List Ins)) (fun y=>((a0a 105 y.1 y.2.1 y.2.2.1).2:l8))
def Nqi_ok:c8 Nqi:=NI28_ok.kD Tryz.call9 Tryz.func9 (inlHN_ok NI28_ok H0_ok d0Q 5) (an:=d0Q 9) (fun _=>rfl) fun y ho=>kc (pqi y.1 y.2.1 y.2.2.1 ho.1) (by kernel_rfl)
end Go.Proofs.YtapnoejokajcoaaGreatDoor
namespace Go.Qu
open Go Go.Wk Go.Wl Go.Rx Go.Re Go.Li Go.Fo
noncomputable section
def J2(d:Int):Tm:=⟨⟨2000,1,d⟩,0,0,0,false,true⟩
def b49:Rl:=Rl.mk 3 1 0 [] [] [] [] [] [] [] [] [] [] 0
def oEx:E3:=⟨evN,[117],[],⟨⟨dyS 2000 1 1,[]⟩,[],[],[b49],[],[⟨dyS 2000 1 2,[]⟩],[],[],[]⟩,[],[]⟩
def b5B:A3 (dyS 2000 1 1) b49:=by refine⟨by decide,q7.2 ⟨by decide,⟨by decide,fun h=>absurd h (by decide)⟩,b6H,by decide,⟨fun i h0 h1=>absurd h1 (by simp[b49];omega),fun i h0 h1=>absurd h1 (by simp[b49];omega)⟩,by decide,by decide⟩,fun h=>absurd h (by decide),fun _=>by decide⟩
def b5q(d:Int)(h:o7 (dyS 2000 1 d)=true):V3 [] ⟨dyS 2000 1 d,[]⟩:=⟨h,fun h=>absurd rfl h⟩
def c6o:X7 [] oEx.Main:=by
 refine⟨b5q 1 (by decide),by decide,by decide,by decide,fun i h0 h1=>absurd h1 (by simp[oEx];omega),fun i h0 h1=>absurd h1 (by simp[oEx];omega),fun i h0 h1=>?_,fun i h0 h1=>absurd h1 (by simp[oEx];omega),fun i h0 h1=>absurd h1 (by simp[oEx];omega),?_,?_,?_⟩
 . have h1:i<1:=h1;have:i=0:=by omega
   subst this;exact L7.2 b5B
 . exact⟨fun i h0 h1=>absurd h1 (by simp[oEx];omega),by decide⟩
 . refine⟨fun i h0 h1=>?_,by decide⟩;have h1:i<1:=h1;have:i=0:=by omega
   subst this;exact⟨b5q 2 (by decide),by decide,fun h=>by omega⟩
 . exact⟨fun i h0 h1=>absurd h1 (by simp[oEx];omega),by decide⟩
def b8o:a0S oEx:=by refine⟨⟨.inl rfl,by decide,by decide,by decide,by decide,by decide⟩,by decide,?_,c6o,fun i h0 h1=>absurd h1 (by simp[oEx];omega),fun i h0 h1=>absurd h1 (by simp[oEx];omega)⟩;exact⟨fun i h0 h1=>absurd h1 (by simp[oEx];omega),by decide⟩
def lEx:List Tm:=[dyS 2000 1 1,dyS 2000 1 3,dyS 2000 1 4,dyS 2000 1 5]
def c51(qa:Nat):R5 qa oEx (b8 (J2 1)) (b8 (J2 4))=(lEx,.nil):=by
 have he:L6 (dyS 2000 1 1) b49 (X5 (b8 (J2 1)-172800-A2 oEx.Main) (dyS 2000 1 1)) (X5 (b8 (J2 4)+172800) (dyS 2000 1 1))=([dyS 2000 1 1,dyS 2000 1 2,dyS 2000 1 3,dyS 2000 1 4,dyS 2000 1 5],.nil):=
  c1I b5B (by decide) (by decide) (by kernel_rfl) (by kernel_rfl)
 have h1:tmE qa oEx (b8 (J2 1)) (b8 (J2 4)) [oEx.Main.Start.Time] oEx.Main.b9=([dyS 2000 1 1,dyS 2000 1 2,dyS 2000 1 3,dyS 2000 1 4,dyS 2000 1 5],.nil):=by
  show tmE qa oEx (b8 (J2 1)) (b8 (J2 4)) [dyS 2000 1 1] [b49]=_
  have e:tmR oEx (b8 (J2 1)) (b8 (J2 4)) b49=_:=he;rw[tmE,if_pos (by rw[e]),e,tmE]
 have h2:tmA qa oEx (b8 (J2 1)) (b8 (J2 4))=lEx:=by unfold tmA;rw[h1];kernel_rfl
 have h3:a5C lEx=lEx:=d6f (by decide);have h4:ded lEx=lEx:=by kernel_rfl
 unfold R5;rw[if_pos (by rw[h1]),h2,h3,h4]
def b3o(qa:Nat):a0a qa oEx (J2 1) (J2 4)=([⟨J2 1,J2 2,dyS 2000 1 1,false⟩,⟨J2 3,J2 4,dyS 2000 1 3,false⟩],.nil):=by
 have hg:gaS qa oEx (b8 (J2 1)) (b8 (J2 4))=(([⟨J2 1,J2 2,dyS 2000 1 1,false⟩,⟨J2 3,J2 4,dyS 2000 1 3,false⟩],false),.nil):=by unfold gaS;rw[c51];kernel_rfl
 have hs:b1x [⟨J2 1,J2 2,dyS 2000 1 1,false⟩,⟨J2 3,J2 4,dyS 2000 1 3,false⟩]=[⟨J2 1,J2 2,dyS 2000 1 1,false⟩,⟨J2 3,J2 4,dyS 2000 1 3,false⟩]:=d6f (by decide);have hA:b71 oEx (J2 1) (J2 4):=⟨b8o,by decide,by decide,rfl,rfl,by decide⟩;unfold a0a;rw[if_pos hA,hg,c51];show(if l8.nil=l8.nil then _ else _)=_
 rw[if_pos rfl];show(if l8.nil=l8.nil then _ else _)=_
 rw[if_pos rfl,if_neg (by decide),if_neg (by decide)];show(b1x _,l8.nil)=_
 rw[hs]
def c30:a1H oEx oEx.Main=86400:=by unfold a1H;rw[if_pos ⟨b8o,by decide⟩];decide
def c19:a1n oEx:=
 ⟨by decide,by decide,by decide,by decide,(fun _ h=>by cases h),by decide,⟨by decide,by decide,by decide,by decide,by decide,by decide,by decide,(fun r hr=>by rw[d4q.1 hr];decide),(fun _ h=>by cases h),(fun _ h=>by cases h),by decide⟩,(fun _ h=>by cases h),(fun _ h=>by cases h)⟩
end
end Go.Qu
namespace Go.Proofs.YtapnoejokajcoaaGreatDoor
open Go Go.Wk Go.Wl Go.Rx Go.Re Go.Li Go.Qu Go.Fo 
attribute [local irreducible] i7
def c52:Nat->D1:=fun|8=>⟨43,nn,nn⟩|_=>⟨0,nn,nn⟩
def d05  (Q:Bool->Prop):Prop:=
a1n (E3.mk [(86:UInt8),(69:UInt8),(86:UInt8),(69:UInt8),(78:UInt8),(84:UInt8)] [(117:UInt8)] [] (R2.mk (G9.mk (Tm.mk (Dy.mk (2000:Int) (1:Int) (1:Int)) (0:Int) (0:Int) (0:Int) (decide (true=true)) (decide (false=true))) []) [] [] [Rl.mk (3:Int) (1:Int) (0:Int) [] [] [] [] [] [] [] [] [] [] (0:Int)] [] [G9.mk (Tm.mk (Dy.mk (2000:Int) (1:Int) (2:Int)) (0:Int) (0:Int) (0:Int) (decide (true=true)) (decide (false=true))) []] [] [] []) [] [])/\((a0a (105:Nat) (E3.mk [(86:UInt8),(69:UInt8),(86:UInt8),(69:UInt8),(78:UInt8),(84:UInt8)] [(117:UInt8)] [] (R2.mk (G9.mk (Tm.mk (Dy.mk (2000:Int) (1:Int) (1:Int)) (0:Int) (0:Int) (0:Int) (decide (true=true)) (decide (false=true))) []) [] [] [Rl.mk (3:Int) (1:Int) (0:Int) [] [] [] [] [] [] [] [] [] [] (0:Int)] [] [G9.mk (Tm.mk (Dy.mk (2000:Int) (1:Int) (2:Int)) (0:Int) (0:Int) (0:Int) (decide (true=true)) (decide (false=true))) []] [] [] []) [] []) (Tm.mk (Dy.mk (2000:Int) (1:Int) (1:Int)) (0:Int) (0:Int) (0:Int) (decide (false=true)) (decide (true=true))) (Tm.mk (Dy.mk (2000:Int) (1:Int) (4:Int)) (0:Int) (0:Int) (0:Int) (decide (false=true)) (decide (true=true)))).snd.nr=(0:Int)->(↑(a0a (105:Nat) (E3.mk [(86:UInt8),(69:UInt8),(86:UInt8),(69:UInt8),(78:UInt8),(84:UInt8)] [(117:UInt8)] [] (R2.mk (G9.mk (Tm.mk (Dy.mk (2000:Int) (1:Int) (1:Int)) (0:Int) (0:Int) (0:Int) (decide (true=true)) (decide (false=true))) []) [] [] [Rl.mk (3:Int) (1:Int) (0:Int) [] [] [] [] [] [] [] [] [] [] (0:Int)] [] [G9.mk (Tm.mk (Dy.mk (2000:Int) (1:Int) (2:Int)) (0:Int) (0:Int) (0:Int) (decide (true=true)) (decide (false=true))) []] [] [] []) [] []) (Tm.mk (Dy.mk (2000:Int) (1:Int) (1:Int)) (0:Int) (0:Int) (0:Int) (decide (false=true)) (decide (true=true))) (Tm.mk (Dy.mk (2000:Int) (1:Int) (4:Int)) (0:Int) (0:Int) (0:Int) (decide (false=true)) (decide (true=true)))).fst.length:Int)<=(1000000:Int)/\(bo ((a0a (105:Nat) (E3.mk [(86:UInt8),(69:UInt8),(86:UInt8),(69:UInt8),(78:UInt8),(84:UInt8)] [(117:UInt8)] [] (R2.mk (G9.mk (Tm.mk (Dy.mk (2000:Int) (1:Int) (1:Int)) (0:Int) (0:Int) (0:Int) (decide (true=true)) (decide (false=true))) []) [] [] [Rl.mk (3:Int) (1:Int) (0:Int) [] [] [] [] [] [] [] [] [] [] (0:Int)] [] [G9.mk (Tm.mk (Dy.mk (2000:Int) (1:Int) (2:Int)) (0:Int) (0:Int) (0:Int) (decide (true=true)) (decide (false=true))) []] [] [] []) [] []) (Tm.mk (Dy.mk (2000:Int) (1:Int) (1:Int)) (0:Int) (0:Int) (0:Int) (decide (false=true)) (decide (true=true))) (Tm.mk (Dy.mk (2000:Int) (1:Int) (4:Int)) (0:Int) (0:Int) (0:Int) (decide (false=true)) (decide (true=true)))).fst=[Ins.mk (Tm.mk (Dy.mk (2000:Int) (1:Int) (1:Int)) (0:Int) (0:Int) (0:Int) (decide (false=true)) (decide (true=true))) (Tm.mk (Dy.mk (2000:Int) (1:Int) (2:Int)) (0:Int) (0:Int) (0:Int) (decide (false=true)) (decide (true=true))) (Tm.mk (Dy.mk (2000:Int) (1:Int) (1:Int)) (0:Int) (0:Int) (0:Int) (decide (true=true)) (decide (false=true))) false,Ins.mk (Tm.mk (Dy.mk (2000:Int) (1:Int) (3:Int)) (0:Int) (0:Int) (0:Int) (decide (false=true)) (decide (true=true))) (Tm.mk (Dy.mk (2000:Int) (1:Int) (4:Int)) (0:Int) (0:Int) (0:Int) (decide (false=true)) (decide (true=true))) (Tm.mk (Dy.mk (2000:Int) (1:Int) (3:Int)) (0:Int) (0:Int) (0:Int) (decide (true=true)) (decide (false=true))) false])=true->a1n (E3.mk [(86:UInt8),(69:UInt8),(86:UInt8),(69:UInt8),(78:UInt8),(84:UInt8)] [(117:UInt8)] [] (R2.mk (G9.mk (Tm.mk (Dy.mk (2000:Int) (1:Int) (1:Int)) (0:Int) (0:Int) (0:Int) (decide (true=true)) (decide (false=true))) []) [] [] [Rl.mk (3:Int) (1:Int) (0:Int) [] [] [] [] [] [] [] [] [] [] (0:Int)] [] [G9.mk (Tm.mk (Dy.mk (2000:Int) (1:Int) (2:Int)) (0:Int) (0:Int) (0:Int) (decide (true=true)) (decide (false=true))) []] [] [] []) [] []))/\Q (decide (bo ((a0a (105:Nat) (E3.mk [(86:UInt8),(69:UInt8),(86:UInt8),(69:UInt8),(78:UInt8),(84:UInt8)] [(117:UInt8)] [] (R2.mk (G9.mk (Tm.mk (Dy.mk (2000:Int) (1:Int) (1:Int)) (0:Int) (0:Int) (0:Int) (decide (true=true)) (decide (false=true))) []) [] [] [Rl.mk (3:Int) (1:Int) (0:Int) [] [] [] [] [] [] [] [] [] [] (0:Int)] [] [G9.mk (Tm.mk (Dy.mk (2000:Int) (1:Int) (2:Int)) (0:Int) (0:Int) (0:Int) (decide (true=true)) (decide (false=true))) []] [] [] []) [] []) (Tm.mk (Dy.mk (2000:Int) (1:Int) (1:Int)) (0:Int) (0:Int) (0:Int) (decide (false=true)) (decide (true=true))) (Tm.mk (Dy.mk (2000:Int) (1:Int) (4:Int)) (0:Int) (0:Int) (0:Int) (decide (false=true)) (decide (true=true)))).fst=[Ins.mk (Tm.mk (Dy.mk (2000:Int) (1:Int) (1:Int)) (0:Int) (0:Int) (0:Int) (decide (false=true)) (decide (true=true))) (Tm.mk (Dy.mk (2000:Int) (1:Int) (2:Int)) (0:Int) (0:Int) (0:Int) (decide (false=true)) (decide (true=true))) (Tm.mk (Dy.mk (2000:Int) (1:Int) (1:Int)) (0:Int) (0:Int) (0:Int) (decide (true=true)) (decide (false=true))) false,Ins.mk (Tm.mk (Dy.mk (2000:Int) (1:Int) (3:Int)) (0:Int) (0:Int) (0:Int) (decide (false=true)) (decide (true=true))) (Tm.mk (Dy.mk (2000:Int) (1:Int) (4:Int)) (0:Int) (0:Int) (0:Int) (decide (false=true)) (decide (true=true))) (Tm.mk (Dy.mk (2000:Int) (1:Int) (3:Int)) (0:Int) (0:Int) (0:Int) (decide (true=true)) (decide (false=true))) false])=true/\a1H (E3.mk [(86:UInt8),(69:UInt8),(86:UInt8),(69:UInt8),(78:UInt8),(84:UInt8)] [(117:UInt8)] [] (R2.mk (G9.mk (Tm.mk (Dy.mk (2000:Int) (1:Int) (1:Int)) (0:Int) (0:Int) (0:Int) (decide (true=true)) (decide (false=true))) []) [] [] [Rl.mk (3:Int) (1:Int) (0:Int) [] [] [] [] [] [] [] [] [] [] (0:Int)] [] [G9.mk (Tm.mk (Dy.mk (2000:Int) (1:Int) (2:Int)) (0:Int) (0:Int) (0:Int) (decide (true=true)) (decide (false=true))) []] [] [] []) [] []) (R2.mk (G9.mk (Tm.mk (Dy.mk (2000:Int) (1:Int) (1:Int)) (0:Int) (0:Int) (0:Int) (decide (true=true)) (decide (false=true))) []) [] [] [Rl.mk (3:Int) (1:Int) (0:Int) [] [] [] [] [] [] [] [] [] [] (0:Int)] [] [G9.mk (Tm.mk (Dy.mk (2000:Int) (1:Int) (2:Int)) (0:Int) (0:Int) (0:Int) (decide (true=true)) (decide (false=true))) []] [] [] [])=(86400:Int))))/\(¬(a0a (105:Nat) (E3.mk [(86:UInt8),(69:UInt8),(86:UInt8),(69:UInt8),(78:UInt8),(84:UInt8)] [(117:UInt8)] [] (R2.mk (G9.mk (Tm.mk (Dy.mk (2000:Int) (1:Int) (1:Int)) (0:Int) (0:Int) (0:Int) (decide (true=true)) (decide (false=true))) []) [] [] [Rl.mk (3:Int) (1:Int) (0:Int) [] [] [] [] [] [] [] [] [] [] (0:Int)] [] [G9.mk (Tm.mk (Dy.mk (2000:Int) (1:Int) (2:Int)) (0:Int) (0:Int) (0:Int) (decide (true=true)) (decide (false=true))) []] [] [] []) [] []) (Tm.mk (Dy.mk (2000:Int) (1:Int) (1:Int)) (0:Int) (0:Int) (0:Int) (decide (false=true)) (decide (true=true))) (Tm.mk (Dy.mk (2000:Int) (1:Int) (4:Int)) (0:Int) (0:Int) (0:Int) (decide (false=true)) (decide (true=true)))).snd.nr=(0:Int)->Q false)
def d2T   : d05  (fun y0=>y0=true):=by
 unfold d05;refine⟨c19,fun _=>⟨?_,fun _=>c19,d4u ⟨?_,c30⟩⟩,fun h=>absurd ?_ h⟩
 . show((a0a 105 oEx (J2 1) (J2 4)).1.length:Int)<=1000000
   rw[b3o];decide
 . refine y6.2 ?_;show(a0a 105 oEx (J2 1) (J2 4)).1=_
   rw[b3o];rfl
 . show(a0a 105 oEx (J2 1) (J2 4)).2.nr=0
   rw[b3o];rfl
def d3F:Env:=Nqi.kL 8 AL.n (.bool) (fun _=>[]) (fun y=>true)
def Nl4v_ok:c8 d3F:=Nqi_ok.kL Tryz.call8 Tryz.func8 (inlHN_ok Nqi_ok H0_ok c52 2) (an:=c52 8) (fun _ _=>trivial) fun y ho=>kc (d2T  ) (by kernel_rfl)
end Go.Proofs.YtapnoejokajcoaaGreatDoor
namespace Go.Qu
open Go Go.Wk Go.Wl Go.Rx Go.Re Go.Li Go.Fo
noncomputable section
variable{qa:Nat}{o:E3}{a b:Int}
structure b7T(o:E3):Prop where
 ru:o.Main.b9=[]
 rd:o.Main.p4=[]
 ex:o.Main.q8=[]
 ov:o.Over=[]
def b0m(h:b7T o):R5 qa o a b=([o.Main.Start.Time],.nil):=by
 have e1:tmE qa o a b [o.Main.Start.Time] o.Main.b9=([o.Main.Start.Time],.nil):=by rw[h.ru];rfl
 have e2:tmA qa o a b=[o.Main.Start.Time]:=by unfold tmA W7;rw[e1,h.rd,h.ex];rfl
 have e3:a5C [o.Main.Start.Time]=[o.Main.Start.Time]:=d6f (d5Z _ _);unfold R5;rw[if_pos (by rw[e1]),e2,e3];rfl
def c89(h:b7T o):gaS qa o a b=if(u9 qa o o.Main.Start).2=.nil then(H9 a b ([],false) (u9 qa o o.Main.Start).1 (A2 o.Main) o.Main.Start.Time false,.nil)else(([],false),(u9 qa o o.Main.Start).2):=by
 have e0:ovM qa o [] o.Over=([],.nil):=by rw[h.ov];rfl
 have e1:ga1 qa o a b (ovM qa o [] o.Over).1 ([],false) (R5 qa o a b).1=if(u9 qa o o.Main.Start).2=.nil then(H9 a b ([],false) (u9 qa o o.Main.Start).1 (A2 o.Main) o.Main.Start.Time false,.nil)else(([],false),(u9 qa o o.Main.Start).2):=by rw[b0m h,e0];dsimp only;rw[ga1,if_neg (fun e=>by cases e)];rfl
 by_cases c:(u9 qa o o.Main.Start).2=.nil
 . rw[if_pos c]at e1 ⊢;rw[c4c (by rw[e0]) (by rw[b0m h]) (by rw[e1]),e1,h.ov];rfl
 . rw[if_neg c]at e1 ⊢;rw[c4z (by rw[e0]) (by rw[b0m h]) (by rw[e1];exact c),e1]
open Classical in
def c1J{f t:Tm}(hA:b71 o f t)(h:b7T o):a0a qa o f t =
  if(u9 qa o o.Main.Start).2=.nil then
   if inW (b8 f) (b8 t) (b8 (u9 qa o o.Main.Start).1) (A2 o.Main)then
    if(K3 (b8 (u9 qa o o.Main.Start).1+A2 o.Main) (u9 qa o o.Main.Start).1).Day.Year=0 then([],.no 3)
    else([mkI (u9 qa o o.Main.Start).1 (A2 o.Main) o.Main.Start.Time false],.nil)
   else([],.nil)
  else([],Q7 (u9 qa o o.Main.Start).2):=by
 have hw:H9 (b8 f) (b8 t) ([],false) (u9 qa o o.Main.Start).1 (A2 o.Main) o.Main.Start.Time false=if inW (b8 f) (b8 t) (b8 (u9 qa o o.Main.Start).1) (A2 o.Main)then(if(K3 (b8 (u9 qa o o.Main.Start).1+A2 o.Main) (u9 qa o o.Main.Start).1).Day.Year=0 then([],true)else([mkI (u9 qa o o.Main.Start).1 (A2 o.Main) o.Main.Start.Time false],false))else([],false):=by
  unfold H9 inW;by_cases c:b8 t<=b8 (u9 qa o o.Main.Start).1∨(b8 (u9 qa o o.Main.Start).1+A2 o.Main<=b8 f/\(0<A2 o.Main∨b8 (u9 qa o o.Main.Start).1<b8 f))
  . rw[if_pos c,if_neg];intro⟨h1,h2⟩;rcases c with c|c
    . omega
    . exact h2 c
  . have hin:b8 (u9 qa o o.Main.Start).1<b8 t/\¬(b8 (u9 qa o o.Main.Start).1+A2 o.Main<=b8 f/\(0<A2 o.Main∨b8 (u9 qa o o.Main.Start).1<b8 f)):=⟨by omega,fun e=>c (.inr e)⟩;rw[if_neg c,if_pos hin];rfl
 have s0:b1x []=[]:=d6f List.Pairwise.nil;have s1:∀x:Ins,b1x [x]=[x]:=fun x=>d6f (d5Z _ _);unfold a0a;rw[if_pos hA,b0m h,c89 h,hw];by_cases c:(u9 qa o o.Main.Start).2=.nil
 . rw[if_pos c,if_pos c];by_cases c2:inW (b8 f) (b8 t) (b8 (u9 qa o o.Main.Start).1) (A2 o.Main)
   . rw[if_pos c2,if_pos c2];by_cases c3:(K3 (b8 (u9 qa o o.Main.Start).1+A2 o.Main) (u9 qa o o.Main.Start).1).Day.Year=0
     . rw[if_pos c3,if_pos c3];simp
     . rw[if_neg c3,if_neg c3];simp[s1]
   . rw[if_neg c2,if_neg c2];simp[s0]
 . rw[if_neg c,if_neg c];simp[c]
end
noncomputable section
variable{qa:Nat}{o:E3}{a b:Int}
def exI(m:G9):List G9->List G9
 |[]=>[m]
 |x::r=>if b8 m.Time<b8 x.Time then m::x::r else x::exI m r
end
noncomputable section
variable{qa:Nat}{o:E3}{s:G9}
def tE(a t:Tm):Prop:=(a.Day.Year=t.Day.Year/\a.Day.Month=t.Day.Month/\a.Day.Date=t.Day.Date/\True)/\a.Hour=t.Hour/\a.Min=t.Min/\a.D5=t.D5/\(a.n9=true↔t.n9=true)/\(a.UTC=true↔t.UTC=true)/\True
instance {a t:Tm}:Decidable (tE a t):=inferInstanceAs (Decidable ((a.Day.Year=t.Day.Year/\a.Day.Month=t.Day.Month/\a.Day.Date=t.Day.Date/\True)/\a.Hour=t.Hour/\a.Min=t.Min/\a.D5=t.D5/\(a.n9=true↔t.n9=true)/\(a.UTC=true↔t.UTC=true)/\True))
def c7F{a t:Tm}:tE a t↔a=t:=teq
def a7n(s:G9)(o:E3):R2:=R2.mk s o.Main.End o.Main.Span [] [] [] o.Main.p7 o.Main.v7 o.Main.Extra
def a0x(s:G9)(o:E3):E3:=E3.mk o.Kind o.UID o.c9 (a7n s o) [] o.Extra
open Classical in
def c1u{f t:Tm}(hA:b71 (a0x s o) f t):a0a qa (a0x s o) f t =
  if(u9 qa (a0x s o) s).2=.nil then
   if inW (b8 f) (b8 t) (b8 (u9 qa (a0x s o) s).1) (A2 (a7n s o))then
    if(K3 (b8 (u9 qa (a0x s o) s).1+A2 (a7n s o)) (u9 qa (a0x s o) s).1).Day.Year=0 then([],.no 3)
    else([mkI (u9 qa (a0x s o) s).1 (A2 (a7n s o)) s.Time false],.nil)
   else([],.nil)
  else([],Q7 (u9 qa (a0x s o) s).2):=c1J hA ⟨rfl,rfl,rfl,rfl⟩
def c1R{e:l8}(h:Q7 e=.nil):e=.nil:=by
 unfold Q7 at h;split at h
 . cases h
 . exact h
def woR(m:G9)(l x:List G9)(p:Bool)(i:Int):Prop:=(0<=i/\i<=l.length/\(x.length:Int)=i+(if p=true then 1 else 0))/\exI m l=x++(if p=true then l.drop i.toNat else exI m (l.drop i.toNat))
def woR.no{m:G9}{l x:List G9}{p:Bool}{i:Int}(h:woR m l x p i)(hi:i<l.length)(hp:¬(¬p=true/\b8 m.Time<b8 (ix l i).Time)):woR m l (x++[ix l i]) p (i+1):=by
 obtain⟨⟨h0,h1,h2⟩,h3⟩:=h;refine⟨⟨by omega,by omega,by rw[d4o,d6q];omega⟩,?_⟩;rw[h3,a48 h0 hi];by_cases e:p=true
 . rw[if_pos e,if_pos e];simp
 . rw[if_neg e,if_neg e,exI,if_neg fun c=>hp ⟨e,c⟩];simp
end
end Go.Qu
namespace Go.Proofs.YtapnoejokajcoaaGreatDoor
open Go Go.Wk Go.Wl Go.Rx Go.Re Go.Li Go.Qu Go.Fo 
attribute [local irreducible] i7
def c4n:Nat->D1:=fun|6=>⟨175,nn,nn⟩|_=>⟨0,nn,nn⟩
def O9(o:E3)(f:Tm)(t:Tm):=a0a (105:Nat) (a0x (etM o.Main.Start) o) (j6 f) (j6 t)
def a1F(o:E3):=a4R (105:Nat) (a0x (etM o.Main.Start) o) (etM o.Main.Start)
def O6(o:E3):=a0x (etM o.Main.Start) o
def a1E(o:E3):=a7n (etM o.Main.Start) o
def R3(o:E3)(f:Tm)(t:Tm):=ix (O9 o f t).fst 0
def a08(o:E3):=j6 (a1F o).fst
def c9E(o:E3)(f:Tm)(t:Tm)(Q:Bool->Prop):Prop:=
((↑(a6Z (O6 o) (j6 t)).length:Int)<=1000000/\(↑([]:List UInt8).length:Int)<=1000000/\(↑(List.length o.Kind):Int)<=140737488355328/\(↑(List.length o.UID):Int)<=140737488355328)/\(¬¬c24 (O6 o) (j6 t)=true->a1n (O6 o))/\(bR ((((((¬c24 (O6 o) (j6 t)=true∨¬bo (a0S (O6 o))=true)∨¬o7 (j6 f)=true)∨¬o7 (j6 t)=true)∨¬f.UTC=true)∨¬t.UTC=true)∨b8 (j6 t)<b8 (j6 f)) (Q (decide (true=true))) (a1n (O6 o)/\a1n (O6 o)/\(bR ((a1F o).snd.nr≠0) (Q (decide ((O9 o f t).snd.nr=(a1F o).snd.nr/\true=true))) (a1n (O6 o)/\(b8 (a08 o)<b8 (j6 t)->c6 (b8 (a08 o)+a1H (O6 o) (a1E o)))/\(bR ((O9 o f t).snd.nr≠0) (Q (decide (((b8 (a08 o)<b8 (j6 t)/\(b8 (j6 f)<b8 (a08 o)+a1H (O6 o) (a1E o)∨a1H (O6 o) (a1E o)=0/\b8 (j6 f)<=b8 (a08 o)))/\(O9 o f t).snd.nr=3)/\true=true))) ((bR (¬(b8 (a08 o)<b8 (j6 t)/\(b8 (j6 f)<b8 (a08 o)+a1H (O6 o) (a1E o)∨a1H (O6 o) (a1E o)=0/\b8 (j6 f)<=b8 (a08 o)))) (Q (decide ((↑(O9 o f t).fst.length:Int)=0/\true=true))) ((((↑(O9 o f t).fst.length:Int)=1->(0:Int)<=0)/\((↑(O9 o f t).fst.length:Int)=1->0<(↑(O9 o f t).fst.length:Int)))/\(((↑(O9 o f t).fst.length:Int)=1/\tE ((R3 o f t).Start) ((a1F o).fst)->(0:Int)<=0)/\((↑(O9 o f t).fst.length:Int)=1/\tE ((R3 o f t).Start) ((a1F o).fst)->0<(↑(O9 o f t).fst.length:Int)))/\((↑(O9 o f t).fst.length:Int)=1/\tE ((R3 o f t).Start) ((a1F o).fst)->c6 (b8 (a08 o)+a1H (O6 o) (a1E o)))/\((((↑(O9 o f t).fst.length:Int)=1/\tE ((R3 o f t).Start) ((a1F o).fst))/\b8 (j6 (R3 o f t).End)=b8 (a08 o)+a1H (O6 o) (a1E o)->(0:Int)<=0)/\(((↑(O9 o f t).fst.length:Int)=1/\tE ((R3 o f t).Start) ((a1F o).fst))/\b8 (j6 (R3 o f t).End)=b8 (a08 o)+a1H (O6 o) (a1E o)->0<(↑(O9 o f t).fst.length:Int)))/\(((((↑(O9 o f t).fst.length:Int)=1/\tE ((R3 o f t).Start) ((a1F o).fst))/\b8 (j6 (R3 o f t).End)=b8 (a08 o)+a1H (O6 o) (a1E o))/\tE ((R3 o f t).u5) o.Main.Start.Time->(0:Int)<=0)/\((((↑(O9 o f t).fst.length:Int)=1/\tE ((R3 o f t).Start) ((a1F o).fst))/\b8 (j6 (R3 o f t).End)=b8 (a08 o)+a1H (O6 o) (a1E o))/\tE ((R3 o f t).u5) o.Main.Start.Time->0<(↑(O9 o f t).fst.length:Int)))/\Q (decide ((((((↑(O9 o f t).fst.length:Int)=1/\tE ((R3 o f t).Start) ((a1F o).fst))/\b8 (j6 (R3 o f t).End)=b8 (a08 o)+a1H (O6 o) (a1E o))/\tE ((R3 o f t).u5) o.Main.Start.Time)/\¬(R3 o f t).Over=true)/\true=true))))))))))
def V1{l:List J8}(h:a3n l=true):(∀p∈l,z7 p)/\(l.length:Int)<=1000000:=by have r:=y6.1 h;exact⟨(q9.list (p:=z7)).1 (fun j j0 j1=>a9c (r.2.1 j j0 j1)),by have:=r.1;omega⟩
def b13{x:R2}(h:a8l x=true):a2i x:=by obtain⟨⟨a,b,c,d,e,f,g,p⟩,r,al⟩:=y6.1 h;exact⟨by omega,by omega,by omega,by omega,by omega,by omega,by omega,(q9.list (p:=fun r:Rl=>F4 r=true)).1 r,(q9.list (p:=fun a:Alm=>(∀p∈a.Extra,z7 p)/\(a.Extra.length:Int)<=1000000)).1 fun j j0 j1=>V1 (al j j0 j1).2.2,(V1 p).1,(V1 p).2⟩
def c02{o:E3}(h:b0d o=true):a1n o:=by obtain⟨⟨k,z,v,p,m⟩,zr,ov,_⟩:=y6.1 h;exact⟨by omega,by omega,by omega,by omega,(V1 p).1,(V1 p).2,b13 m,(q9.list (p:=X1)).1 fun j j0 j1=>⟨by have:=(zr j j0 j1).1;omega,by have:=(zr j j0 j1).2.1;omega,(q9.list (p:=fun o:Obv=>0<(o.b9.length:Int)->F4 (ix o.b9 0)=true)).1 fun k k0 k1=>((zr j j0 j1).2.2 k k0 k1).2.2⟩,(q9.list (p:=a2i)).1 fun j j0 j1=>b13 (ov j j0 j1)⟩
def c6F{e:l8}(h:e.nr=0):e=.nil:=by
 cases e with
 |nil=>rfl
 |_ =>
  unfold l8.nr at h;simp only at h;split at h
  . split at h
    . omega
    . cases h
  . cases h
def d3i(o:E3)(f:Tm)(t:Tm)(hk:(o.Kind.length:Int)<=140737488355328)(hu:(o.UID.length:Int)<=140737488355328):c9E o f t (fun y0=>y0=true):=by
 unfold c9E a08 R3 a1E O6 a1F O9;simp only[x9,A6,B3,C5,C4,C6,C8,C3,B9,D0,B7,d4p,c7F];refine⟨⟨by unfold a6Z a0x a7n;simp,by simp,hk,hu⟩,fun h=>c02 (y6.1 (d4i.1 h)).2.1,fun _=>by trivial,fun hc=>?_⟩;have hR:=d4i.1 fun e=>hc (.inl (.inl (.inl (.inl (.inl (.inl e))))));have hO:=y6.1 (d4i.1 fun e=>hc (.inl (.inl (.inl (.inl (.inl (.inr e)))))));have h5:¬b8 t<b8 f:=fun e=>hc (.inr e);have hA:b71 (a0x o.Main.Start o) f t:=⟨hO,d4i.1 fun e=>hc (.inl (.inl (.inl (.inl (.inr e))))),d4i.1 fun e=>hc (.inl (.inl (.inl (.inr e)))),d4i.1 fun e=>hc (.inl (.inl (.inr e))),d4i.1 fun e=>hc (.inl (.inr e)),by omega⟩;have hI:=hO.2.2.2.1;have hfo:=c02 (y6.1 hR).2.1;have hM:a4R 105 (a0x o.Main.Start o) o.Main.Start=((u9 105 (a0x o.Main.Start o) o.Main.Start).1,Q7 (u9 105 (a0x o.Main.Start o) o.Main.Start).2):=if_pos ⟨hO,hI.1⟩;have hL:a1H (a0x o.Main.Start o) (a7n o.Main.Start o)=A2 (a7n o.Main.Start o):=if_pos ⟨hO,hI.1.1⟩;have hn:0<=A2 (a7n o.Main.Start o)/\A2 (a7n o.Main.Start o)<=400000000000:=b4N hI;have hone:=c1u (qa:=105 ) hA;rw[hM,hL];by_cases c1:(u9 105 (a0x o.Main.Start o) o.Main.Start).2=.nil
 . rw[if_pos c1]at hone;have hg:=(b4L hI.1.1 c1).1;have hsr:=Go.Re.y7 (show o7 (u9 105 (a0x o.Main.Start o) o.Main.Start).1=true from hg.rt);have hg2:(u9 105 (a0x o.Main.Start o) o.Main.Start).1.UTC=true:=hg.ut;rw[c1];clear hc hM hL hg c1;generalize (u9 105 (a0x o.Main.Start o) o.Main.Start).1=S at *;generalize A2 (a7n o.Main.Start o)=n at *;have hw0:inW (b8 f) (b8 t) (b8 S) n↔(b8 S<b8 t/\(b8 f<b8 S+n∨n=0/\b8 f<=b8 S)):=by unfold inW;omega
   rw[hw0]at hone;refine⟨hfo,hfo,fun e=>absurd rfl e,fun _=>⟨hfo,fun _=>⟨by omega,by omega⟩,fun e=>?_,fun e=>⟨fun hw=>?_,fun hw=>?_⟩⟩⟩
   . split at hone
     . rename_i hw;split at hone
       . rw[hone];exact d4u ⟨⟨hw,rfl⟩,trivial⟩
       . rw[hone]at e;exact absurd rfl e
     . rw[hone]at e;exact absurd rfl e
   . rw[if_neg hw]at hone;rw[hone];exact d4u ⟨rfl,trivial⟩
   . have hw:=d4i.1 hw;rw[if_pos hw]at hone;split at hone
     . rw[hone]at e;exact absurd (fun h=>by cases h) e
     . rename_i hy;have he:b8 (mkI S n o.Main.Start.Time false).End=b8 S+n:=(c4u hg2 hy).2;rw[hone];exact⟨⟨fun _=>d4D _,fun _=>d8k⟩,⟨fun _=>d4D _,fun _=>d8k⟩,fun _=>⟨by omega,by omega⟩,⟨fun _=>d4D _,fun _=>d8k⟩,⟨fun _=>d4D _,fun _=>d8k⟩,d4u ⟨⟨⟨⟨⟨rfl,rfl⟩,he⟩,rfl⟩,fun h=>by cases h⟩,trivial⟩⟩
 . rw[if_neg c1]at hone;refine⟨hfo,hfo,fun _=>?_,fun e=>absurd (c1R (c6F (d4i.1 e))) c1⟩;rw[hone];exact d4u ⟨rfl,trivial⟩
open Go.ChangeShapes Go.RowKit Go.WideShapes
def c5z:List (String×DataW Unit):=[("unicode/utf8.acceptRanges", Rows.laid_unicode_utf8_acceptRanges),("errors.errorType", Rows.laid_errors_errorType),("unicode/utf8.first", Rows.laid_unicode_utf8_first)]
def et0:Tryz.prog.globalNamed "errors.errorType" = some 0:=by kernel_rfl
def rt0:(Tryz.prog.cutTypes.find? (·.1 == "internal/reflectlite.rtype")).map (·.2)=some 177:=by kernel_rfl
def d0B:Tryz.prog.types.size=332:=by kernel_rfl
def c3Z:((List.range 332).filter fun t=>Tryz.prog.rowNamed t [101,114,114,111,114])=[43]:=by kernel_rfl
def b6U{W:World} (h:handlesMet Tryz.prog [("errors.errorType", Rows.laid_errors_errorType)] W):W.cell? ⟨0,0,none⟩=some a2b:=by
 obtain⟨name,u,ty,e1,e2,e3,e4,e5⟩:=h _ (d4q.2 rfl);obtain rfl:name=[101,114,114,111,114]:=(d5v e1).symm;obtain rfl:=d5v (rt0.symm.trans e2);have hm:ty∈(List.range 332).filter fun t=>Tryz.prog.rowNamed t [101,114,114,111,114]:=d4Q.2 ⟨d6Q.2 (by rw[<- d0B];exact e3),e4⟩;rw[c3Z]at hm;obtain rfl:=d4q.1 hm;have hh:typeHandle Tryz.prog 43=.pointer (some ⟨4,43,none⟩):=by kernel_rfl
 rw[hh]at e5;simpa[a2b]using World.var?_cell et0 e5 0
def b4H{W:World}(h:laidMetH Tryz.prog c5z W)(ho:W.ShapedOpen Tryz.prog):Gl.is (fun b=>b<W.heap.size) W:=by
 obtain⟨m,hm⟩:=cell_of_shapedOpen_int (g:=1) (t:=3) (k:=.i64) (zero:=#[.int .i64 0]) ho (d5e (by kernel_rfl)) (by kernel_rfl) (by kernel_rfl) (by kernel_rfl) (by kernel_rfl) Tryz.underlying3;have hs:1<W.heap.size:=by apply d5w;intro hn;unfold World.cell? at hm;rw[d5O (by show W.heap.size<=1;omega)]at hm;cases hm
 exact⟨⟨by omega,hs⟩,hs,b6U (show laidMet Tryz.prog [("unicode/utf8.acceptRanges", Rows.laid_unicode_utf8_acceptRanges),("unicode/utf8.first", Rows.laid_unicode_utf8_first)] W/\handlesMet Tryz.prog [("errors.errorType", Rows.laid_errors_errorType)] W from h).2,m,hm⟩
def b8C(os:Os):World:=
 let w0:=World.laidAll Tryz.prog os [("unicode/utf8.acceptRanges", Rows.laid_unicode_utf8_acceptRanges),("unicode/utf8.first", Rows.laid_unicode_utf8_first)]
 { w0 with heap:=w0.heap.modify 0 fun
   |.cells _ t frozen=>.cells #[a2b] t frozen
   |o=>o }
def b7E(os:Os)(args:Array Value):laidMetH Tryz.prog c5z ((b8C os).forCall (fun _ _=>0) ⟨#[],args,[]⟩).memory:=
 laidMetH_of_parts (laidMet_of_run' 8 (by kernel_rfl) (by kernel_rfl)) (by kernel_rfl)
def d0z:laidOutB Tryz.prog=true:=by kernel_rfl
def d3p:ownKnob Tryz.prog.godebug=none:=by kernel_rfl
def c97{P:Program}{ts:List TypeId}(h:(ts.all fun t=>P.readableRec t && decide (t<P.types.size))=true):∀t∈ts,P.readableRec t=true/\t<P.types.size:=fun t ht=>by have:=d4N.1 h t ht;rw[d4k,d5t]at this;exact this
def b6X{Z:Nat->Prop}{W:World}{v:Value}(h:e7 U eT (fun _=>none) Z W v (I0 true)):v=.bool true:=by cases h with|bl=>rfl
structure OB{α:Type}(t:TypeId)(r:Rd α) where
 m:α->Nat
 ok:∀{H:Type}{enc:TypeId×Value->H}{fuel:Nat}{w:World}{sp:Nat->Bool}{cs:List Value}{x:DataW H×List MemPlace},DataW.trod enc Tryz.prog w 0 sp true fuel t cs=some x->∃y,r.rd (fun _=>True) w cs y/\m y<Rows.uptoBulk x.1
structure FB{α:Type}(o:Nat)(fs:List Field)(r:Rd α) where
 m:α->Nat
 ok:∀{H:Type}{enc:TypeId×Value->H}{n:Nat}{w:World}{sp:Nat->Bool}{cs:List Value}{xs:List (DataW H×List MemPlace)},xs.length=fs.length ->
  (∀(i:Nat)(f:Field),fs[i]?=some f->DataW.trod enc Tryz.prog w 0 sp true n f.type ((cs.drop f.offset).take (Tryz.prog.cellsOf f.type))=xs[i]?)->∃y,r.rd (fun _=>True) w ((cs.drop o).take r.sz) y/\m y<=Rows.uptoBulkAll (xs.map (·.1))
def c9e{H:Type}(d:DataW H):0<Rows.uptoBulk d:=by
 cases d with
 |lit l=>cases l <;> simp[Rows.uptoBulk]
 |_=>simp[Rows.uptoBulk]
def OB.z{α:Type}{t:TypeId}{r:Rd α}(h:b02 Tryz.prog t r):OB t r:=⟨fun _=>0,fun k=>let⟨y,k⟩:=h k;⟨y,k,c9e _⟩⟩
def OB.s{t:TypeId}(ht:Tryz.prog.underlying t=some .string):OB t Z9:=⟨List.length,fun h=>by
 obtain⟨y,k⟩:=b3T ht h;obtain⟨s,rfl,rfl,_⟩:=d7P ht h;have e:sv y=.string s:=by simpa using k.1.symm
 refine⟨y,k,?_⟩;show y.length<Rows.uptoBulk (.lit (.string s.data.toList))
 have e2:y=s.data.toList:=by unfold sv at e;simp only[Value.string.injEq]at e;rw[<- e]
 rw[e2];simp[Rows.uptoBulk]⟩
def b1N{α H:Type}{m:α->Nat}:∀{l:List α}{es:List (DataW H×List MemPlace)},l.length=es.length->(∀i (h:i<l.length) (h':i<es.length),m l[i]<Rows.uptoBulk es[i].1)->l.length+(l.map m).sum<=Rows.uptoBulkAll (es.map (·.1))
 |[],_,_,_=>d5M _
 |a::r,[],e,_=>by cases e
 |a::r,x::es,e,h=>by have h0:=h 0 (Nat.succ_pos _) (Nat.succ_pos _);have ih:=b1N (m:=m) (l:=r) (es:=es) (Nat.succ.inj e) fun i h1 h2=>h (i+1) (Nat.succ_lt_succ h1) (Nat.succ_lt_succ h2);simp only[List.getElem_cons_zero]at h0;simp only[d5C,List.sum_cons,d4z,Rows.uptoBulkAll];omega
def OB.l{α:Type}{r:Rd α}{t e:TypeId}(ht:Tryz.prog.underlying t=some (.slice e))(hsz:Tryz.prog.cellsOf e=r.sz)(hp:0<r.sz)(ho:OB e r):OB t (o9 r):=⟨fun l=>l.length+(l.map ho.m).sum,fun{H enc fuel w sp cs x} h=>by
 rcases DataW.trod_slice ht h with⟨rfl,rfl⟩|⟨a,len,cap,elems,rest,n,_,rfl,rfl,_,hlc,hcm,hel,hget,_⟩
 . exact⟨[],a1r,by simp[Rows.uptoBulk]⟩
 . have each:∀i:Fin len,∃(y:α)(c:List Value),Cells w a.block (a.off+i*r.sz) c/\r.rd (fun _=>True) w c y/\a.spot=none/\ho.m y<Rows.uptoBulk (elems[i.1]'(by omega)).1:=fun⟨i,hi⟩=>by
     have h1:=hget i hi;rw[d4x (by omega)]at h1;simp only[d4y]at h1;obtain⟨c,hc,hx⟩:=h1;obtain⟨y,hy,hm⟩:=ho.ok hx;rw[hsz]at hc;have hc':=b2o hp hc;have hs0:a.spot=none:=by have h0:=hget 0 (by omega);rw[d4x (by omega)]at h0;simp only[d4y]at h0;obtain⟨c0,hc0,_⟩:=h0;rw[hsz]at hc0;simpa[Addr.add]using(b2o hp hc0).1
     refine⟨y,c,?_,hy,hs0,hm⟩;have:=hc'.2.2;unfold Addr.add at this;split at this
     . simp_all
     . exact this
   have⟨f,hf⟩:=Classical.axiomOfChoice each;refine⟨List.ofFn f,⟨?_,some a,cap,by simp,⟨fun h=>(by cases h),by simp_all⟩,fun i hi=>?_⟩,?_⟩
   . simp[maxLen]at hcm ⊢;omega
   . have hi':i<len:=by simpa using hi
     obtain⟨c,h1,h2,hs0,_⟩:=hf ⟨i,hi'⟩;refine⟨a.block,a.off,c,?_,trivial,h1,?_⟩
     . obtain⟨b,o,s⟩:=a;simp_all
     . simp_all
   . have:=b1N (m:=ho.m) (l:=List.ofFn f) (es:=elems) (by simp[hel]) fun i h1 h2=>by
       obtain⟨_,_,_,_,hb⟩:=hf ⟨i,by simpa using h1⟩;simpa using hb
     simp only[Rows.uptoBulk];omega⟩
section
variable{α β:Type}{r:Rd α}{s:Rd β}{o:Nat}{f:Field}{fs:List Field}{t:TypeId}
def FB.e(h:(f.offset,Tryz.prog.cellsOf f.type)=(o,r.sz))(a:OB f.type r):FB o [f] r:=⟨fun y=>a.m y+1,fun{H enc n w sp cs xs} hl hg=>by
 match xs,hl with
 |[x],_ =>
  have h0:=hg 0 f rfl;rw[(d6W h).1,(d6W h).2]at h0;obtain⟨y,k,b⟩:=a.ok h0;exact⟨y,k,by simp only[d5C,List.map_nil,Rows.uptoBulkAll];omega⟩⟩
def FB.c(h:(f.offset,Tryz.prog.cellsOf f.type)=(o,r.sz))(a:OB f.type r)(b:FB (o+r.sz) fs s):FB o (f::fs) (r.q s):=⟨fun y=>a.m y.1+1+b.m y.2,fun{H enc n w sp cs xs} hl hg=>by
 match xs,hl with
 |x::xs,hl =>
  have h0:=hg 0 f rfl;rw[(d6W h).1,(d6W h).2]at h0;obtain⟨y,k,bd⟩:=a.ok h0;obtain⟨z,k2,bd2⟩:=b.ok (xs:=xs) (Nat.succ.inj hl) fun i g e=>hg (i+1) g e;refine⟨(y,z),⟨_,_,?_,k,k2⟩,by simp only[d5C,Rows.uptoBulkAll];omega⟩;show(cs.drop o).take (r.sz+s.sz)=_
  rw[List.take_add,List.drop_drop]⟩
def OB.st{fs:Array Field}{p:α->β}(ht:Tryz.prog.underlying t=some (.struct fs))(hz:Tryz.prog.cellsOf t=s.sz)(b:FB 0 fs.toList s)(g:β->α)(hg:∀y,p (g y)=y):OB t (s.of p):=⟨fun x=>b.m (p x),fun h=>by
 obtain⟨xs,n,_,rfl,hlen,hxl,hget⟩:=DataW.trod_struct ht h;obtain⟨y,k,bd⟩:=b.ok (by rw[hxl,d6H]) fun i f e=>hget i f (by rw[<- d7v];exact e);refine⟨g y,?_,?_⟩
 . show s.rd _ _ _ (p (g y))
   rw[hg]
   rwa [List.drop_zero,d4M (by omega)]at k
 . rw[hg];simp only[Rows.uptoBulk];omega⟩
def b44{t:Nat}{x:Rd α}(p:TQ U eT x)(o:OB t x)(hn:2<=x.sz){H:Type}{enc:TypeId×Value->H}{W:World}{sp:Nat->Bool}{v:Value}{d:DataW H}{ps:List MemPlace}(h:DataW.Trod enc Tryz.prog W 0 sp true t v d ps):∃y,e7 U eT (fun _=>none) (fun b=>b<W.heap.size) W v (.agg (p.sv y))/\o.m y<Rows.uptoBulk d/\∃D,x.rd D W v.cells.toList y:=by
 obtain⟨n,h⟩:=h;obtain⟨y,k,b⟩:=o.ok h;have k:=Rd.a3F (D':=fun b=>b<W.heap.size) _ k (fun _ _ hb=>hb);refine⟨y,?_,b,_,k⟩;cases v with
 |agg cs=>exact p.sv_ok k
 |_=>exact absurd (Rd.len _ k) (by simp[Value.cells];omega)
end
def d4a:OB 24 dDy:=.st Tryz.underlying24 (by kernel_rfl) (.c (by kernel_rfl) (.z (w9 Tryz.underlying3)) (.c (by kernel_rfl) (.z (w9 Tryz.underlying3)) (.e (by kernel_rfl) (.z (w9 Tryz.underlying3))))) (fun y=>⟨y.1,y.2.1,y.2.2⟩) fun _=>rfl
def c0U:OB 26 dTm:=.st Tryz.underlying26 (by kernel_rfl) (.c (by kernel_rfl) d4a (.c (by kernel_rfl) (.z (w9 Tryz.underlying3)) (.c (by kernel_rfl) (.z (w9 Tryz.underlying3)) (.c (by kernel_rfl) (.z (w9 Tryz.underlying3)) (.c (by kernel_rfl) (.z (a5r Tryz.underlying4)) (.e (by kernel_rfl) (.z (a5r Tryz.underlying4)))))))) (fun y=>⟨y.1,y.2.1,y.2.2.1,y.2.2.2.1,y.2.2.2.2.1,y.2.2.2.2.2⟩) fun _=>rfl
def d1w:OB 240 dNt:=.st Tryz.underlying240 (by kernel_rfl) (.c (by kernel_rfl) (.z (w9 Tryz.underlying3)) (.e (by kernel_rfl) (.z (w9 Tryz.underlying3)))) (fun y=>⟨y.1,y.2⟩) fun _=>rfl
def d0f:OB 64 dRl:=.st Tryz.underlying64 (by kernel_rfl) (.c (by kernel_rfl) (.z (w9 Tryz.underlying3)) (.c (by kernel_rfl) (.z (w9 Tryz.underlying3)) (.c (by kernel_rfl) (.z (w9 Tryz.underlying3)) (.c (by kernel_rfl) (.l Tryz.underlying61 (by kernel_rfl) (by decide) c0U) (.c (by kernel_rfl) (.l Tryz.underlying30 (by kernel_rfl) (by decide) (.z (w9 Tryz.underlying3))) (.c (by kernel_rfl) (.l Tryz.underlying30 (by kernel_rfl) (by decide) (.z (w9 Tryz.underlying3))) (.c (by kernel_rfl) (.l Tryz.underlying30 (by kernel_rfl) (by decide) (.z (w9 Tryz.underlying3))) (.c (by kernel_rfl) (.l Tryz.underlying30 (by kernel_rfl) (by decide) (.z (w9 Tryz.underlying3))) (.c (by kernel_rfl) (.l Tryz.underlying62 (by kernel_rfl) (by decide) d1w) (.c (by kernel_rfl) (.l Tryz.underlying30 (by kernel_rfl) (by decide) (.z (w9 Tryz.underlying3))) (.c (by kernel_rfl) (.l Tryz.underlying30 (by kernel_rfl) (by decide) (.z (w9 Tryz.underlying3))) (.c (by kernel_rfl) (.l Tryz.underlying30 (by kernel_rfl) (by decide) (.z (w9 Tryz.underlying3))) (.c (by kernel_rfl) (.l Tryz.underlying30 (by kernel_rfl) (by decide) (.z (w9 Tryz.underlying3))) (.e (by kernel_rfl) (.z (w9 Tryz.underlying3)))))))))))))))) (fun y=>⟨y.1,y.2.1,y.2.2.1,y.2.2.2.1,y.2.2.2.2.1,y.2.2.2.2.2.1,y.2.2.2.2.2.2.1,y.2.2.2.2.2.2.2.1,y.2.2.2.2.2.2.2.2.1,y.2.2.2.2.2.2.2.2.2.1,y.2.2.2.2.2.2.2.2.2.2.1,y.2.2.2.2.2.2.2.2.2.2.2.1,y.2.2.2.2.2.2.2.2.2.2.2.2.1,y.2.2.2.2.2.2.2.2.2.2.2.2.2⟩) fun _=>rfl
def c8I:OB 101 b8W:=.st Tryz.underlying101 (by kernel_rfl) (.c (by kernel_rfl) (.s Tryz.underlying9) (.c (by kernel_rfl) c0U (.c (by kernel_rfl) (.z (w9 Tryz.underlying3)) (.c (by kernel_rfl) (.z (w9 Tryz.underlying3)) (.e (by kernel_rfl) (.l Tryz.underlying31 (by kernel_rfl) (by decide) d0f)))))) (fun y=>⟨y.1,y.2.1,y.2.2.1,y.2.2.2.1,y.2.2.2.2⟩) fun _=>rfl
def d3z:OB 92 b9o:=.st Tryz.underlying92 (by kernel_rfl) (.c (by kernel_rfl) (.s Tryz.underlying9) (.e (by kernel_rfl) (.l Tryz.underlying90 (by kernel_rfl) (by decide) c8I))) (fun y=>⟨y.1,y.2⟩) fun _=>rfl
def c09:OB 28 a9U:=.st Tryz.underlying28 (by kernel_rfl) (.c (by kernel_rfl) c0U (.e (by kernel_rfl) (.s Tryz.underlying9))) (fun y=>⟨y.1,y.2⟩) fun _=>rfl
def c8v:OB 130 a89:=.st Tryz.underlying130 (by kernel_rfl) (.c (by kernel_rfl) (.s Tryz.underlying9) (.e (by kernel_rfl) (.l Tryz.underlying128 (by kernel_rfl) (by decide) (.s Tryz.underlying9)))) (fun y=>⟨y.1,y.2⟩) fun _=>rfl
def c71:OB 86 b4i:=.st Tryz.underlying86 (by kernel_rfl) (.c (by kernel_rfl) (.s Tryz.underlying9) (.c (by kernel_rfl) (.s Tryz.underlying9) (.c (by kernel_rfl) (.l Tryz.underlying84 (by kernel_rfl) (by decide) c8v) (.e (by kernel_rfl) (.s Tryz.underlying9))))) (fun y=>⟨y.1,y.2.1,y.2.2.1,y.2.2.2⟩) fun _=>rfl
def c9h:OB 136 b9t:=.st Tryz.underlying136 (by kernel_rfl) (.c (by kernel_rfl) (.s Tryz.underlying9) (.c (by kernel_rfl) (.z (w9 Tryz.underlying3)) (.e (by kernel_rfl) (.l Tryz.underlying33 (by kernel_rfl) (by decide) c71)))) (fun y=>⟨y.1,y.2.1,y.2.2⟩) fun _=>rfl
def c9H:OB 35 b6J:=.st Tryz.underlying35 (by kernel_rfl) (.c (by kernel_rfl) c09 (.c (by kernel_rfl) (.l Tryz.underlying29 (by kernel_rfl) (by decide) c09) (.c (by kernel_rfl) (.l Tryz.underlying30 (by kernel_rfl) (by decide) (.z (w9 Tryz.underlying3))) (.c (by kernel_rfl) (.l Tryz.underlying31 (by kernel_rfl) (by decide) d0f) (.c (by kernel_rfl) (.l Tryz.underlying29 (by kernel_rfl) (by decide) c09) (.c (by kernel_rfl) (.l Tryz.underlying29 (by kernel_rfl) (by decide) c09) (.c (by kernel_rfl) (.l Tryz.underlying29 (by kernel_rfl) (by decide) c09) (.c (by kernel_rfl) (.l Tryz.underlying32 (by kernel_rfl) (by decide) c9h) (.e (by kernel_rfl) (.l Tryz.underlying33 (by kernel_rfl) (by decide) c71)))))))))) (fun y=>⟨y.1,y.2.1,y.2.2.1,y.2.2.2.1,y.2.2.2.2.1,y.2.2.2.2.2.1,y.2.2.2.2.2.2.1,y.2.2.2.2.2.2.2.1,y.2.2.2.2.2.2.2.2⟩) fun _=>rfl
def d3t:OB 38 c2j:=.st Tryz.underlying38 (by kernel_rfl) (.c (by kernel_rfl) (.s Tryz.underlying9) (.c (by kernel_rfl) (.s Tryz.underlying9) (.c (by kernel_rfl) (.l Tryz.underlying22 (by kernel_rfl) (by decide) d3z) (.c (by kernel_rfl) c9H (.c (by kernel_rfl) (.l Tryz.underlying36 (by kernel_rfl) (by decide) c9H) (.e (by kernel_rfl) (.l Tryz.underlying33 (by kernel_rfl) (by decide) c71))))))) (fun y=>⟨y.1,y.2.1,y.2.2.1,y.2.2.2.1,y.2.2.2.2.1,y.2.2.2.2.2⟩) fun _=>rfl
def c2m{H:Type}{enc:TypeId×Value->H}{W:World}{sp:Nat->Bool}{v:Value}{d:DataW H}{ps:List MemPlace}{y:Go.Qu.E3}{ts:List TypeId}{ds:List (DataW H)}(h:DataW.Trod enc Tryz.prog W 0 sp true 38 v d ps)(l:∃D,c2j.rd D W v.cells.toList y)(hw:(DataW.weightsEach Tryz.prog (38::ts) (d::ds)).all (· <= reachBytes)=true):(y.Kind.length:Int)<=140737488355328/\(y.UID.length:Int)<=140737488355328:=by
 obtain⟨_,h⟩:=h;obtain⟨xs,n,_,e,_,hl,hg⟩:=DataW.trod_struct Tryz.underlying38 h;obtain⟨D,c,d1,ec,⟨rfl,_⟩,c2,d2,rfl,⟨rfl,_⟩,_⟩:=l;have z:Tryz.prog.cellsOf 9=1:=by kernel_rfl
 have g0:=hg 0 _ rfl;have g1:=hg 1 _ rfl;rw[ec]at g0 g1;have str:∀(s:y8) x,DataW.trod enc Tryz.prog W 0 sp true n 9 [sv s]=some x->x.1=.lit (.string s):=fun s x hx=>by
  obtain⟨b,e1,e2,_⟩:=d7P Tryz.underlying9 hx;rw[e2];have e3:sv s=.string b:=by simpa using e1
  unfold sv at e3;simp only[Value.string.injEq]at e3;rw[<- e3]
 match xs,hl with
 |x0::x1::r,_ =>
  have q0:=str y.Kind x0 (by simpa[z]using g0);have q1:=str y.UID x1 (by simpa[z]using g1);have ed:d=.agg ((x0::x1::r).map (·.1)):=(d6W e).1;rw[d4N]at hw;have w:∀m,m=y.Kind.length∨m=y.UID.length->m∈DataW.weightsEach Tryz.prog (38::ts) (d::ds):=fun m hm=>by
   rw[ed];simp only[d5C,q0,q1];unfold DataW.weightsEach;refine d5a _ ?_;unfold DataW.weights;rw[Tryz.underlying38];rcases hm with rfl|rfl
   . simp[DataW.weightsEach,DataW.weights]
   . simp[DataW.weightsEach,DataW.weights]
  have h0:=d5e (hw _ (w _ (.inl rfl)));have h1:=d5e (hw _ (w _ (.inr rfl)));unfold reachBytes at h0 h1;omega
def lc1:(Rows.queryOnceRow.inPlace == Tryz.pinned.checked.prog.inPlace 6)=true:=by kernel_rfl
def lc2:(Rows.queryOnceRow.unfollowed == Tryz.pinned.checked.prog.unfollowed 6)=true:=by kernel_rfl
def lc3:(Rows.queryOnceRow.recurses == Tryz.pinned.checked.prog.recurses 6)=true:=by kernel_rfl
def lc4:(Rows.queryOnceRow.named == Tryz.pinned.checked.prog.varsNamed 6)=true:=by kernel_rfl
def lc5:joinedFacts Tryz.pinned.checked.prog 6 Tryz.f6 (OpenSpec.ofChange Rows.queryOnceSpec).bare Rows.queryOnceRow=true:=by unfold joinedFacts;rw[lc1,lc2,lc3,lc4];kernel_rfl
end Go.Proofs.YtapnoejokajcoaaGreatDoor
