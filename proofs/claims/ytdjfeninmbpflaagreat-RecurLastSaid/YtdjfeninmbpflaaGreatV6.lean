/- 75 texts, one behind the other. -/
import Derived.Test.YtdjfeninmbpflaaGreatV4
import Derived.Test.YtdjfeninmbpflaaGreatVEr
import Derived.Test.YtdjfeninmbpflaaGreatV1
import Derived.Shelf.Sort.Plain
import Derived.Ground.Names2Prog
import Derived.Shelf.Slices.Clone
import Derived.Shelf.Slices.CompactI
import Derived.Shelf.Slices.Cells
import Derived.Shelf.Slices.In.SortNone
import Derived.Test.YtdjfeninmbpflaaGreatProg
import Derived.Lib.SlicesCompact
set_option linter.unusedVariables false
set_option linter.unusedSimpArgs false
set_option maxRecDepth 100000
section
namespace Go.Proofs.YtdjfeninmbpflaaGreat
open Go Go.Wk Go.Wl Go.Rx Go.Re 
def Gl:Y2:=⟨fun _ _=>True,fun _ _ _ _=>trivial⟩
noncomputable def yoF (x:ClX Tryz.prog) (a:List (SV U)):Option (OR U 0):=match a with | [.int .i64 t]=>some ⟨[ClX.pre x t],[],blB (ClX.res x t),ClX.put x t⟩ | _=>none
noncomputable def yoC:OC U:=⟨0,yoF⟩
theorem d2i (x:ClX Tryz.prog) (args:List (SV U)) (r:OR U 0) (hr:yoF x args=some r) (ho:q6 r.ob) (D:Nat->Prop) (Z:Nat->Prop) (w:World) (vs:List Value) (b:Nat) (F:List Nat) (hz:∀ b,Z b->b<w.heap.size) (hF:∀ b∈F,¬ Z b) (hob:(obY Tryz.prog b).is Z w x F) (ha:Rep U eT (fun _=>none) D w (.tuple vs.toArray) (.tup args)) :
  T5 Tryz.prog b vs w (fun v w'=>∃ F',(obY Tryz.prog b).is Z w' r.x F'/\c2f w w' F F'/\Rep U eT (fun _=>none) (fun _=>False) w' v r.r/\q6 r.hy):=by
 unfold yoF at hr
 split at hr
 . rename_i t
   cases hr
   obtain ⟨v1,vr,rfl,h1,ha⟩:=Rep.tup_cons ha
   obtain rfl:=d5q ha
   cases h1 with | int hi =>
   exact (x.1.step Z w b F x.2 t hz hF hob ho.1 (hi rfl)).mono fun v w' ⟨e,F',h1,h2⟩=>⟨F',h1,h2,by subst e; exact ClX.bl,trivial⟩
 . cases hr
noncomputable def E0:Env:=⟨Tryz.prog,U,eT,tyU,fun _=>none,fun _=>none,fun _=>false,fun _=>none,fun _=>none,Gl,fun _=>none,fun t=>Nat.beq t 101,fun _=>none,fun _=>none,some yoC⟩
theorem d9f:j7 E0:=by
 refine ⟨by kernel_rfl,fun t k x h=>?_,fun K h=>?_,fun K fn h=>?_,fun K f args nx c h=>?_,fun K f args nx c h=>?_,fun K o x args r h=>?_,fun K o a x r h=>?_,fun K h=>?_,fun K o args its r h=>?_,fun K h=>?_,fun K C args its q h=>?_,fun o x args r h hr ho=>?_⟩ <;> first | (cases h; done) | skip
 cases h
 exact fun Z D w vs b F hz _ hF hob _ ha=>d2i x args r hr ho D Z w vs b F hz (fun b hb=>(hF b hb).1) hob ha
theorem Z5 {ρ:n9} {Z:Nat->Prop} {w:World} {cs:List Value} (h:Rep U eT ρ Z w (.tuple cs.toArray) (.tup [])):cs=[]:=by
 generalize e:Value.tuple cs.toArray=u at h
 cases h with | tup0=>simpa using e
theorem b8e {w w1 w2:World} {B:List Nat} (hs:Sim w w1) (h:Ext B w1 w2):Ext B w w2:=by
 obtain ⟨k,rfl⟩:=hs
 exact ⟨h.os,h.tape,h.output,h.size,h.block⟩
theorem c6n {K:Nat} {args:List (SV U)} {q:Q1 U} (h:∀ (D:Nat->Prop) (w:World) (vs:List Value),Rep U eT (fun _=>none) D w (.tuple vs.toArray) (.tup args)->∃ v,(∀ w',Rep U eT (fun _=>none) (fun _=>False) w' v q.v)/\q6 q.hy/\∀ w1,Sim w w1->Calls Tryz.prog K vs.toArray w1 fun e w'=>e=.returned v/\Ext [] w1 w'):A3 E0 K args ⟨q.ob,q.hy,q.v,[]⟩ :=
 fun D w vs _ _ ha w1 hs=>by
  obtain ⟨v,hr,hy,hc⟩:=h D w vs ha
  exact (hc w1 hs).mono fun e w2 ⟨h1,h2⟩=>⟨v,w2,h1,Sim.refl _,b8e hs h2,hr w2,hy⟩
theorem b5l (w:World) (o:Obj) (k:Nat) (hk:k<w.heap.size):(w.alloc o).heap[k]?=w.heap[k]? := by
 show (w.heap.push o)[k]?=_
 rw [Array.getElem?_push,if_neg (by omega)]
theorem c14 {w:World} {B:List Nat} (o:Obj):Ext B w (w.alloc o):=⟨rfl,rfl,rfl,(by show w.heap.size<=(w.heap.push o).size; rw [Array.size_push]; omega),fun k hk _=>b5l w o k hk⟩
def CvL (ρ:n9) (Z:Nat->Prop) (w:World):List (SV U)->List (SV U)->Prop
 | [],[]=>True
 | s::r,s'::r'=>(∀ v,Rep U eT ρ Z w v s->Rep U eT ρ Z w v s')/\CvL ρ Z w r r'
 | _,_=>False
theorem q9 {ρ:n9} {Z:Nat->Prop} {w:World}:∀ (a b:List (SV U)) (v:Value),CvL ρ Z w a b->Rep U eT ρ Z w v (.tup a)->Rep U eT ρ Z w v (.tup b)
 | [],[],_,_,h=>h
 | [],_::_,_,hc,_=>hc.elim
 | _::_,[],_,hc,_=>hc.elim
 | s::r,s'::r',v,hc,h=>by
  generalize e:SV.tup (s::r)=q at h
  cases h with
  | tup1 ha hr=>cases e; exact .tup1 (hc.1 _ ha) (q9 r r' _ hc.2 hr)
  | _=>cases e
theorem o7 {ρ:n9} {Z:Nat->Prop} {w:World} {v:Value} {ls:List (SV U)} {x:Tm} (e:y25.bk (.agg ls)=some x) (h:Rep U eT ρ Z w v (.agg ls)):Rep U eT ρ Z w v (.agg [.int .i64 x.Day.Year,.int .i64 x.Day.Month,.int .i64 x.Day.Date,.int .i64 x.Hour,.int .i64 x.Min,.int .i64 x.Sec,blB x.Bare,blB x.UTC]):=by
 obtain ⟨cs,rfl,hl⟩:=h.agg_inv
 exact y25.sv_ok (y25.bk_ok (s:=.agg ls) hl e)
theorem s9 {ρ:n9} {Z:Nat->Prop} {w:World} {v:Value} {ls:List (SV U)} {x:Rl} (e:y30.bk (.agg ls)=some x) (h:Rep U eT ρ Z w v (.agg ls)):Rep U eT ρ Z w v (.agg [.int .i64 x.Freq,.int .i64 x.Interval,.int .i64 x.Count,.sl (N:=U) 25 x.Until,.sl (N:=U) 3 x.Month,.sl (N:=U) 3 x.WeekNo,.sl (N:=U) 3 x.YearDay,.sl (N:=U) 3 x.MonthDay,.sl (N:=U) 60 x.Days,.sl (N:=U) 3 x.Hour,.sl (N:=U) 3 x.Minute,.sl (N:=U) 3 x.Second,.sl (N:=U) 3 x.SetPos,.int .i64 x.Wkst]):=by
 obtain ⟨cs,rfl,hl⟩:=h.agg_inv
 exact y30.sv_ok (y30.bk_ok (s:=.agg ls) hl e)
def cIs (a:List (SV U)):Option (Q1 U):=match a with | [.err e,.err (.no n)]=>some ⟨[],[],.bl (e.is n) inferInstance⟩ | _=>none
theorem d6u (args:List (SV U)) (q:Q1 U) (h:cIs args=some q) (_:q6 q.ob):A3 E0 38 args ⟨q.ob,q.hy,q.v,[]⟩:=by
 unfold cIs at h
 split at h
 . rename_i e n
   cases h
   refine c6n fun D w vs ha=>⟨.bool (decide (e.is n)),fun _=>.bl,trivial,fun w1 hs=>?_⟩
   have same:∀ {b:Bool},(Calls Tryz.prog 38 vs.toArray w1 fun e w'=>e=.returned (.bool b)/\w'=w1)->Calls Tryz.prog 38 vs.toArray w1 fun e w'=>e=.returned (.bool b)/\Ext [] w1 w':=fun h=>h.mono fun _ _ ⟨a,b⟩=>⟨a,by subst b; exact Ext.refl _ _⟩
   obtain ⟨v1,r1,rfl,h1,ha⟩:=Rep.tup_cons ha
   obtain ⟨v2,r2,rfl,h2,ha⟩:=Rep.tup_cons ha
   obtain rfl:=Z5 ha
   cases h1 with | err h1 =>
   cases h2 with | err h2 =>
   cases h2 with | no hn =>
   cases h1 with
   | nil =>
    have e:decide (Err.is .nil n)=false:=decide_eq_false (by simp [Err.is,Err.num])
    rw [e]; exact same (d2j n w1)
   | @no a ha' =>
    have e:decide (Err.is (.no a) n)=decide (a=n):=decide_eq_decide.2 (by simp [Err.is,Err.num])
    rw [e]; exact same (c7m a n w1)
   | @fault b a m hz ho ha' hm h0=>exact absurd rfl h0
   | @w t k s m ht hm hk =>
    obtain ⟨rfl,rfl⟩:=d2q ht
    have e:decide (Err.is (.w 87 s (.no m)) n)=decide (m=n):=decide_eq_decide.2 (by simp [Err.is,Err.num])
    rw [e]; exact (d6b (sv s) m n w1).mono fun _ _ ⟨a,o,b⟩=>⟨a,by subst b; exact c14 _⟩
   | @p t S b s m ht hz ho hm=>exact absurd ht (by unfold eT; simp)
 . cases h
noncomputable def N0:Env:=E0.addL 38 cIs
theorem c4a:j7 N0:=d9f.addL Tryz.call38 d6u
def H0:Nat->Option (GD U):=noH
theorem o9:∀ K o args its S,H0 K=some o->o.C args its=some S->R9 Tryz.prog U eT Gl K args its (2 * its.length) S:=d2u
end Go.Proofs.YtdjfeninmbpflaaGreat
end
section
namespace Go.Proofs.YtdjfeninmbpflaaGreat
open Go Go.Wk Go.Wl Go.Rx Go.Re 
attribute [local irreducible] m7
def e0i:Nat->Ann:=fun | 83=>⟨42,nn,nn⟩ | _=>⟨0,nn,nn⟩
def Vgl (y:Int) (m:Int) (Q:Int->Prop):Prop :=
(y<1 ∨ (9999:Int)<y->Q (0:Int))/\(¬(y<1 ∨ (9999:Int)<y)->(m=2->(4:Int)≠0/\(y.tmod (4:Int)=0->(100:Int)≠0)/\(y.tmod (4:Int)=0/\¬y.tmod (100:Int)≠0->(400:Int)≠0)/\(y.tmod (4:Int)=0/\(y.tmod (100:Int)≠0 ∨ y.tmod (400:Int)=0)->Q (29:Int))/\(¬(y.tmod (4:Int)=0/\(y.tmod (100:Int)≠0 ∨ y.tmod (400:Int)=0))->Q (28:Int)))/\(¬m=2->(m=1->(m=1->Q (31:Int))/\(¬m=1->(m=4->Q (30:Int))/\(¬m=4->(m=6->Q (30:Int))/\(¬m=6->(m=9->(m=9->Q (30:Int))/\(¬m=9->Q (0:Int)))/\(¬m=9->(m=11->Q (30:Int))/\(¬m=11->Q (0:Int)))))))/\(¬m=1->(m=3->(m=3->Q (31:Int))/\(¬m=3->(m=4->Q (30:Int))/\(¬m=4->(m=6->Q (30:Int))/\(¬m=6->(m=9->(m=9->Q (30:Int))/\(¬m=9->Q (0:Int)))/\(¬m=9->(m=11->Q (30:Int))/\(¬m=11->Q (0:Int)))))))/\(¬m=3->(m=5->(m=5->Q (31:Int))/\(¬m=5->(m=4->Q (30:Int))/\(¬m=4->(m=6->Q (30:Int))/\(¬m=6->(m=9->(m=9->Q (30:Int))/\(¬m=9->Q (0:Int)))/\(¬m=9->(m=11->Q (30:Int))/\(¬m=11->Q (0:Int)))))))/\(¬m=5->(m=7->(m=7->Q (31:Int))/\(¬m=7->(m=4->Q (30:Int))/\(¬m=4->(m=6->Q (30:Int))/\(¬m=6->(m=9->(m=9->Q (30:Int))/\(¬m=9->Q (0:Int)))/\(¬m=9->(m=11->Q (30:Int))/\(¬m=11->Q (0:Int)))))))/\(¬m=7->(m=8->(m=8->Q (31:Int))/\(¬m=8->(m=4->Q (30:Int))/\(¬m=4->(m=6->Q (30:Int))/\(¬m=6->(m=9->(m=9->Q (30:Int))/\(¬m=9->Q (0:Int)))/\(¬m=9->(m=11->Q (30:Int))/\(¬m=11->Q (0:Int)))))))/\(¬m=8->(m=10->(m=10->Q (31:Int))/\(¬m=10->(m=4->Q (30:Int))/\(¬m=4->(m=6->Q (30:Int))/\(¬m=6->(m=9->(m=9->Q (30:Int))/\(¬m=9->Q (0:Int)))/\(¬m=9->(m=11->Q (30:Int))/\(¬m=11->Q (0:Int)))))))/\(¬m=10->(m=12->Q (31:Int))/\(¬m=12->(m=4->Q (30:Int))/\(¬m=4->(m=6->Q (30:Int))/\(¬m=6->(m=9->(m=9->Q (30:Int))/\(¬m=9->Q (0:Int)))/\(¬m=9->(m=11->Q (30:Int))/\(¬m=11->Q (0:Int))))))))))))))
set_option maxHeartbeats 2000000 in
theorem pgl (y:Int) (m:Int)  : Vgl y m (fun y0=>y0=u9 y m):=by
 unfold Vgl
 refine ⟨fun h=>by unfold u9; rw [if_pos h],fun h=>?_⟩
 have e4:y.tmod 4=y % 4:=Int.tmod_eq_emod_of_nonneg (by omega)
 have e100:y.tmod 100=y % 100:=Int.tmod_eq_emod_of_nonneg (by omega)
 have e400:y.tmod 400=y % 400:=Int.tmod_eq_emod_of_nonneg (by omega)
 rw [e4,e100,e400]
 repeat' (first | intro _ | apply And.intro)
 all_goals (first | omega | (unfold u9; (repeat' split) <;> omega))
def cgl (a:List (SV U)):Option (Q1 U):=match a with | [.int .i64 y,.int .i64 m]=>some ⟨[],[],.int .i64 (u9 y m)⟩ | _=>none
noncomputable def Ngl:Env:=N0.addL 83 cgl
theorem b4o:j7 Ngl:=c4a.addL Tryz.call83 fun (args:List (SV U)) (q:Q1 U) (h:cgl args=some q) ho=>by
 unfold cgl at h
 split at h
 . rename_i y m
   cases h
   exact q8 (an:=e0i 83) c4a (j6 c4a o9 e0i 2) Tryz.func83 (k:=.int .i64) (x:=u9 y m) trivial (kc (pgl y m ) (by kernel_rfl)) 0
 . cases h
def d7o:Nat->Ann:=fun | 110=>⟨16,nn,nn⟩ | _=>⟨0,nn,nn⟩
def Vgf (a:Int) (b:Int) (Q:Int->Prop):Prop :=
b≠0/\b9 (a.tdiv b)/\b≠0/\(a.tmod b<0->b9 (a.tdiv b-1)/\Q (a.tdiv b-1))/\(¬a.tmod b<0->Q (a.tdiv b))
theorem c18 (a:Int) {b:Int} (h:0<b):a.tdiv b=a / b+(if a.tmod b<0 then 1 else 0)/\True:=by
 refine ⟨?_,trivial⟩
 have h1:=Int.tdiv_mul_add_tmod a b
 have h2:=Int.ediv_mul_add_emod a b
 have h3:=Int.emod_nonneg a (show b≠0 by omega)
 have h4:=Int.emod_lt_of_pos a h
 have h5:a.tmod b<b:=Int.tmod_lt_of_pos a h
 have h6:-b<a.tmod b:=Int.lt_tmod_of_pos a h
 by_cases hc:a.tmod b<0
 . rw [if_pos hc]
   have e:(a.tdiv b-a / b) * b=a % b-a.tmod b:=by rw [Int.sub_mul]; omega
   have g1:0<(a.tdiv b-a / b) * b:=by omega
   have g2:(a.tdiv b-a / b) * b<2 * b:=by omega
   have g3:0<a.tdiv b-a / b:=Int.pos_of_mul_pos_left g1 (by omega)
   have g4:a.tdiv b-a / b<2:=Int.lt_of_mul_lt_mul_right g2 (by omega)
   omega
 . rw [if_neg hc]
   have e:(a.tdiv b-a / b) * b=a % b-a.tmod b:=by rw [Int.sub_mul]; omega
   have g1:-b<(a.tdiv b-a / b) * b:=by omega
   have g2:(a.tdiv b-a / b) * b<b:=by omega
   have g3:-1<a.tdiv b-a / b:=Int.lt_of_mul_lt_mul_right (a:=b) (by omega) (by omega)
   have g4:a.tdiv b-a / b<1:=Int.lt_of_mul_lt_mul_right (a:=b) (by omega) (by omega)
   omega
theorem pgf (a:Int) (b:Int) (h0:0<b) (h1:b<=100000) (h2:b9 (a / b)) (h3:b9 (a / b+1)):Vgf a b (fun y0=>y0=a / b):=by
 unfold Vgf
 obtain ⟨q0,q1⟩:=c18 a h0
 have i1:b9 (a.tdiv b):=by
  rw [q0]; split
  . exact h3
  . rw [Int.add_zero]; exact h2
 refine ⟨by omega,i1,by omega,fun h=>?_,fun h=>?_⟩
 . have e:a.tdiv b-1=a / b:=by rw [q0,if_pos h]; omega
   rw [e]; exact ⟨h2,rfl⟩
 . rw [q0,if_neg h]; omega
def cgf (a:List (SV U)):Option (Q1 U):=match a with | [.int .i64 a,.int .i64 b]=>some ⟨[0<b,b<=100000,b9 (a / b),b9 (a / b+1)],[],.int .i64 (a / b)⟩ | _=>none
noncomputable def Ngf:Env:=Ngl.addL 110 cgf
theorem b51:j7 Ngf:=b4o.addL Tryz.call110 fun (args:List (SV U)) (q:Q1 U) (h:cgf args=some q) ho=>by
 unfold cgf at h
 split at h
 . rename_i a b
   cases h
   exact q8 (an:=d7o 110) b4o (j6 b4o o9 d7o 2) Tryz.func110 (k:=.int .i64) (x:=a / b) trivial (kc (pgf a b ho.1 ho.2.1 ho.2.2.1 ho.2.2.2.1) (by kernel_rfl)) 0
 . cases h
def d8q:Nat->Ann:=fun | 107=>⟨9,nn,nn⟩ | _=>⟨0,nn,nn⟩
def Vgw (n:Int) (Q:Int->Prop):Prop :=
(7:Int)≠0/\b9 (n.tmod (7:Int)+7)/\(7:Int)≠0/\b9 ((n.tmod (7:Int)+7).tmod (7:Int)+6)/\(7:Int)≠0/\Q (((n.tmod (7:Int)+7).tmod (7:Int)+6).tmod (7:Int))
theorem pgw (n:Int)  : Vgw n (fun y0=>y0=wdS n):=by
 unfold Vgw wdS
 have h1:n.tmod 7=n % 7 ∨ n.tmod 7=n % 7-7/\n % 7≠0:=by
  have h1:=Int.tdiv_mul_add_tmod n 7
  have h5:n.tmod 7<7:=Int.tmod_lt_of_pos n (by decide)
  have h6:-7<n.tmod 7:=Int.lt_tmod_of_pos n (by decide)
  omega
 have e1:(n.tmod 7+7).tmod 7=(n.tmod 7+7) % 7:=Int.tmod_eq_emod_of_nonneg (by omega)
 have e2:((n.tmod 7+7).tmod 7+6).tmod 7=((n.tmod 7+7).tmod 7+6) % 7:=Int.tmod_eq_emod_of_nonneg (by omega)
 rw [e2,e1]
 exact ⟨by decide,⟨by omega,by omega⟩,by decide,⟨by omega,by omega⟩,by decide,by omega⟩
def cgw (a:List (SV U)):Option (Q1 U):=match a with | [.int .i64 n]=>some ⟨[],[],.int .i64 (wdS n)⟩ | _=>none
noncomputable def Ngw:Env:=Ngf.addL 107 cgw
theorem b4s:j7 Ngw:=b51.addL Tryz.call107 fun (args:List (SV U)) (q:Q1 U) (h:cgw args=some q) ho=>by
 unfold cgw at h
 split at h
 . rename_i n
   cases h
   exact q8 (an:=d8q 107) b51 (j6 b51 o9 d8q 2) Tryz.func107 (k:=.int .i64) (x:=wdS n) trivial (kc (pgw n ) (by kernel_rfl)) 0
 . cases h
def e0e:Nat->Ann:=fun | 59=>⟨74,nn,fun | 8=>some ⟨[2],[.slot 0 (.int .i64),.slot 3 (.int .i64),.slot 4 (.int .i64)]⟩ | 12=>some ⟨[2],[.slot 0 (.int .i64),.slot 3 (.int .i64),.slot 4 (.int .i64),.slot 5 (.int .i64),.slot 6 (.int .i64)]⟩ | 14=>some ⟨[2],[.slot 0 (.int .i64),.slot 7 (.int .i64),.slot 8 (.int .i64)]⟩ | _=>none⟩ | _=>⟨0,nn,nn⟩
def Vgo (n:Int) (Q:Dy->Prop):Prop :=
(n<1 ∨ (3652059:Int)<n->Q (Dy.mk (0:Int) (0:Int) (0:Int)))/\(¬(n<1 ∨ (3652059:Int)<n)->b9 (n+305)/\(146097:Int)≠0/\b9 ((n+305).tdiv (146097:Int))/\(146097:Int)≠0/\(36524:Int)≠0/\b9 (((n+305).tmod (146097:Int)).tdiv (36524:Int))/\∃ (J:Int->Int->Int->Prop),(b9 ((bif false then max (((n+305).tmod (146097:Int)).tdiv (36524:Int)) (3:Int) else min (((n+305).tmod (146097:Int)).tdiv (36524:Int)) (3:Int)) * 36524)/\b9 ((n+305).tmod (146097:Int)-(bif false then max (((n+305).tmod (146097:Int)).tdiv (36524:Int)) (3:Int) else min (((n+305).tmod (146097:Int)).tdiv (36524:Int)) (3:Int)) * 36524)/\J ((n+305).tmod (146097:Int)-(bif false then max (((n+305).tmod (146097:Int)).tdiv (36524:Int)) (3:Int) else min (((n+305).tmod (146097:Int)).tdiv (36524:Int)) (3:Int)) * 36524) ((n+305).tdiv (146097:Int)) (bif false then max (((n+305).tmod (146097:Int)).tdiv (36524:Int)) (3:Int) else min (((n+305).tmod (146097:Int)).tdiv (36524:Int)) (3:Int)))/\∀ (x x_1 x_2:Int),J x x_1 x_2->(1461:Int)≠0/\b9 (x.tdiv (1461:Int))/\(1461:Int)≠0/\(365:Int)≠0/\b9 ((x.tmod (1461:Int)).tdiv (365:Int))/\∃ (J:Int->Int->Int->Int->Int->Prop),(b9 ((bif false then max ((x.tmod (1461:Int)).tdiv (365:Int)) (3:Int) else min ((x.tmod (1461:Int)).tdiv (365:Int)) (3:Int)) * 365)/\b9 (x.tmod (1461:Int)-(bif false then max ((x.tmod (1461:Int)).tdiv (365:Int)) (3:Int) else min ((x.tmod (1461:Int)).tdiv (365:Int)) (3:Int)) * 365)/\J (x.tmod (1461:Int)-(bif false then max ((x.tmod (1461:Int)).tdiv (365:Int)) (3:Int) else min ((x.tmod (1461:Int)).tdiv (365:Int)) (3:Int)) * 365) x_1 x_2 (x.tdiv (1461:Int)) (bif false then max ((x.tmod (1461:Int)).tdiv (365:Int)) (3:Int) else min ((x.tmod (1461:Int)).tdiv (365:Int)) (3:Int)))/\∀ (x x_3 x_4 x_5 x_6:Int),J x x_3 x_4 x_5 x_6->b9 ((400:Int) * x_3)/\b9 ((100:Int) * x_4)/\b9 ((400:Int) * x_3+100 * x_4)/\b9 ((4:Int) * x_5)/\b9 ((400:Int) * x_3+100 * x_4+4 * x_5)/\b9 ((400:Int) * x_3+100 * x_4+4 * x_5+x_6)/\∃ (J:Int->Int->Int->Prop),(b9 ((5:Int) * x)/\b9 ((5:Int) * x+2)/\(153:Int)≠0/\b9 (((5:Int) * x+2).tdiv (153:Int))/\J x ((400:Int) * x_3+100 * x_4+4 * x_5+x_6) (((5:Int) * x+2).tdiv (153:Int)))/\∀ (x x_7 x_8:Int),J x x_7 x_8->b9 ((153:Int) * x_8)/\b9 ((153:Int) * x_8+2)/\(5:Int)≠0/\b9 (((153:Int) * x_8+2).tdiv (5:Int))/\b9 (x-((153:Int) * x_8+2).tdiv (5:Int))/\b9 (x-((153:Int) * x_8+2).tdiv (5:Int)+1)/\b9 (x_8+3)/\((12:Int)<x_8+3->b9 (x_8+3-12)/\b9 (x_7+1)/\Q (Dy.mk (x_7+1) (x_8+3-12) (x-((153:Int) * x_8+2).tdiv (5:Int)+1)))/\(¬(12:Int)<x_8+3->Q (Dy.mk x_7 (x_8+3) (x-((153:Int) * x_8+2).tdiv (5:Int)+1))))
set_option maxHeartbeats 2000000 in
theorem pgo (n:Int)  : Vgo n (fun y0=>y0=ofS n):=by
 unfold Vgo
 have b0:∀ a b:Int,(bif false then max a b else min a b)=min a b:=fun _ _=>rfl
 refine ⟨fun h=>by unfold ofS; rw [if_pos h],fun h=>?_⟩
 have eo:ofS n=ofN (n+305):=by unfold ofS; rw [if_neg h]
 rw [eo]
 obtain ⟨⟨r1,r2⟩,⟨r3,r4⟩,⟨r5,r6⟩,⟨r7,r8⟩,r9,r10⟩:=e26 (n+305)
 have hN:0<=n+305/\n+305<=3652364:=by omega
 generalize n+305=N at *
 have t1:N.tdiv 146097=N / 146097:=Int.tdiv_eq_ediv_of_nonneg (by omega)
 have t2:N.tmod 146097=N % 146097:=Int.tmod_eq_emod_of_nonneg (by omega)
 have t3:(N % 146097).tdiv 36524=N % 146097 / 36524:=Int.tdiv_eq_ediv_of_nonneg (by omega)
 have t4:(o2 N).tdiv 1461=o2 N / 1461:=Int.tdiv_eq_ediv_of_nonneg (by omega)
 have t5:(o2 N).tmod 1461=o2 N % 1461:=Int.tmod_eq_emod_of_nonneg (by omega)
 have t6:(o2 N % 1461).tdiv 365=o2 N % 1461 / 365:=Int.tdiv_eq_ediv_of_nonneg (by omega)
 have t7:(5 * o4 N+2).tdiv 153=(5 * o4 N+2) / 153:=Int.tdiv_eq_ediv_of_nonneg (by omega)
 have t8:(153 * om N+2).tdiv 5=(153 * om N+2) / 5:=Int.tdiv_eq_ediv_of_nonneg (by omega)
 rw [t1,t2,t3,b0]
 refine ⟨⟨by omega,by omega⟩,by decide,⟨by omega,by omega⟩,by decide,by decide,⟨by omega,by omega⟩,fun a b c=>a=o2 N/\b=N / 146097/\c=oh N,⟨⟨by omega,by omega⟩,⟨by omega,by omega⟩,rfl,rfl,rfl⟩,?_⟩
 rintro _ _ _ ⟨rfl,rfl,rfl⟩
 rw [t4,t5,t6,b0]
 refine ⟨by decide,⟨by omega,by omega⟩,by decide,by decide,⟨by omega,by omega⟩,fun a b c d e=>a=o4 N/\b=N / 146097/\c=oh N/\d=o2 N / 1461/\e=oo N,⟨⟨by omega,by omega⟩,⟨by omega,by omega⟩,rfl,rfl,rfl,rfl,rfl⟩,?_⟩
 rintro _ _ _ _ _ ⟨rfl,rfl,rfl,rfl,rfl⟩
 rw [t7]
 refine ⟨⟨by omega,by omega⟩,⟨by omega,by omega⟩,⟨by omega,by omega⟩,⟨by omega,by omega⟩,⟨by omega,by omega⟩,⟨by omega,by omega⟩,fun a b c=>a=o4 N/\b=oy N/\c=om N,⟨⟨by omega,by omega⟩,⟨by omega,by omega⟩,by decide,⟨by omega,by omega⟩,rfl,rfl,rfl⟩,?_⟩
 rintro _ _ _ ⟨rfl,rfl,rfl⟩
 have hy:0<=oy N/\oy N<=20000:=by unfold oy; omega
 rw [t8]
 refine ⟨⟨by omega,by omega⟩,⟨by omega,by omega⟩,by decide,⟨by omega,by omega⟩,⟨by omega,by omega⟩,⟨by omega,by omega⟩,⟨by omega,by omega⟩,fun h=>⟨⟨by omega,by omega⟩,⟨by omega,by omega⟩,?_⟩,fun h=>?_⟩
 . unfold ofN; rw [if_pos h]
 . unfold ofN; rw [if_neg h]
def cgo (a:List (SV U)):Option (Q1 U):=match a with | [.int .i64 n]=>some ⟨[],[],.agg [.int .i64 (ofS n).Year,.int .i64 (ofS n).Month,.int .i64 (ofS n).Date]⟩ | _=>none
noncomputable def Ngo:Env:=Ngw.addL 59 cgo
theorem b50:j7 Ngo:=b4s.addL Tryz.call59 fun (args:List (SV U)) (q:Q1 U) (h:cgo args=some q) ho=>by
 unfold cgo at h
 split at h
 . rename_i n
   cases h
   exact q8 (an:=e0e 59) b4s (j6 b4s o9 e0e 2) Tryz.func59 (k:=.val 23) (x:=ofS n) ⟨_,_,rfl,rfl,rfl⟩ (kc (pgo n ) (by kernel_rfl)) 0
 . cases h
def e0w:Nat->Ann:=fun | 54=>⟨16,nn,nn⟩ | _=>⟨0,nn,nn⟩
def Vgr (d:Dy) (Q:Bool->Prop):Prop :=
Q (decide ((1:Int)<=d.Date/\d.Date<=u9 d.Year d.Month))
theorem pgr (d:Dy)  : Vgr d (fun y0=>y0=G1 d):=by
 unfold Vgr
 rfl
def e1p (d:Dy):Q1 U:=⟨[],[],blB (G1 d)⟩
def cgr (a:List (SV U)):Option (Q1 U):=match a with | [.agg [.int .i64 d0,.int .i64 d1,.int .i64 d2]]=>some (e1p (⟨d0,d1,d2⟩)) | _=>none
noncomputable def Ngr:Env:=Ngo.addL 54 cgr
theorem b80:j7 Ngr:=b50.addL Tryz.call54 fun (args:List (SV U)) (q:Q1 U) (h:cgr args=some q) ho=>by
 unfold cgr at h
 split at h
 . rename_i d0 d1 d2
   cases h
   exact q8 (an:=e0w 54) b50 (j6 b50 o9 e0w 2) Tryz.func54 (k:=.bool) (x:=G1 (⟨d0,d1,d2⟩:Dy)) trivial (kc (pgr (⟨d0,d1,d2⟩) ) (by kernel_rfl)) 0
 . cases h
def d7r:Nat->Ann:=fun | 94=>⟨33,nn,nn⟩ | _=>⟨0,nn,nn⟩
def Vgc (y:Int) (m:Int) (d:Int) (Q:Int->Prop):Prop :=
(m<3->b9 (y-1)/\b9 (m+12)/\b9 ((365:Int) * (y-1))/\(0:Int)<4/\(4:Int)<=100000/\b9 ((y-1) / (4:Int))/\b9 ((y-1) / (4:Int)+1)/\b9 ((365:Int) * (y-1)+(y-1) / (4:Int))/\(0:Int)<100/\(100:Int)<=100000/\b9 ((y-1) / (100:Int))/\b9 ((y-1) / (100:Int)+1)/\b9 ((365:Int) * (y-1)+(y-1) / (4:Int)-(y-1) / (100:Int))/\(0:Int)<400/\(400:Int)<=100000/\b9 ((y-1) / (400:Int))/\b9 ((y-1) / (400:Int)+1)/\b9 ((365:Int) * (y-1)+(y-1) / (4:Int)-(y-1) / (100:Int)+(y-1) / (400:Int))/\b9 (m+12-3)/\b9 ((153:Int) * (m+12-3))/\b9 ((153:Int) * (m+12-3)+2)/\(5:Int)≠0/\b9 (((153:Int) * (m+12-3)+2).tdiv (5:Int))/\b9 ((365:Int) * (y-1)+(y-1) / (4:Int)-(y-1) / (100:Int)+(y-1) / (400:Int)+((153:Int) * (m+12-3)+2).tdiv (5:Int))/\b9 ((365:Int) * (y-1)+(y-1) / (4:Int)-(y-1) / (100:Int)+(y-1) / (400:Int)+((153:Int) * (m+12-3)+2).tdiv (5:Int)+d)/\b9 ((365:Int) * (y-1)+(y-1) / (4:Int)-(y-1) / (100:Int)+(y-1) / (400:Int)+((153:Int) * (m+12-3)+2).tdiv (5:Int)+d-306)/\Q ((365:Int) * (y-1)+(y-1) / (4:Int)-(y-1) / (100:Int)+(y-1) / (400:Int)+((153:Int) * (m+12-3)+2).tdiv (5:Int)+d-306))/\(¬m<3->b9 ((365:Int) * y)/\(0:Int)<4/\(4:Int)<=100000/\b9 (y / (4:Int))/\b9 (y / (4:Int)+1)/\b9 ((365:Int) * y+y / (4:Int))/\(0:Int)<100/\(100:Int)<=100000/\b9 (y / (100:Int))/\b9 (y / (100:Int)+1)/\b9 ((365:Int) * y+y / (4:Int)-y / (100:Int))/\(0:Int)<400/\(400:Int)<=100000/\b9 (y / (400:Int))/\b9 (y / (400:Int)+1)/\b9 ((365:Int) * y+y / (4:Int)-y / (100:Int)+y / (400:Int))/\b9 (m-3)/\b9 ((153:Int) * (m-3))/\b9 ((153:Int) * (m-3)+2)/\(5:Int)≠0/\b9 (((153:Int) * (m-3)+2).tdiv (5:Int))/\b9 ((365:Int) * y+y / (4:Int)-y / (100:Int)+y / (400:Int)+((153:Int) * (m-3)+2).tdiv (5:Int))/\b9 ((365:Int) * y+y / (4:Int)-y / (100:Int)+y / (400:Int)+((153:Int) * (m-3)+2).tdiv (5:Int)+d)/\b9 ((365:Int) * y+y / (4:Int)-y / (100:Int)+y / (400:Int)+((153:Int) * (m-3)+2).tdiv (5:Int)+d-306)/\Q ((365:Int) * y+y / (4:Int)-y / (100:Int)+y / (400:Int)+((153:Int) * (m-3)+2).tdiv (5:Int)+d-306))
set_option maxHeartbeats 2000000 in
theorem pgc (y:Int) (m:Int) (d:Int) (y0:-100000<=y) (y1:y<=100000) (m0:1<=m) (m1:m<=12) (d0:-100000<=d) (d1:d<=100000):Vgc y m d (fun y0=>y0=E1 y m d):=by
 unfold Vgc E1
 have t1:(153 * (m+12-3)+2).tdiv 5=(153 * (m+12-3)+2) / 5:=Int.tdiv_eq_ediv_of_nonneg (by omega)
 refine ⟨fun h=>?_,fun h=>?_⟩
 . rw [t1,if_pos h]
   repeat' apply And.intro
   all_goals first | rfl | omega
 . have t2:(153 * (m-3)+2).tdiv 5=(153 * (m-3)+2) / 5:=Int.tdiv_eq_ediv_of_nonneg (by omega)
   rw [t2,if_neg h]
   repeat' apply And.intro
   all_goals first | rfl | omega
def cgc (a:List (SV U)):Option (Q1 U):=match a with | [.int .i64 y,.int .i64 m,.int .i64 d]=>some ⟨[-100000<=y,y<=100000,1<=m,m<=12,-100000<=d,d<=100000],[],.int .i64 (E1 y m d)⟩ | _=>none
noncomputable def Ngc:Env:=Ngr.addL 94 cgc
theorem b72:j7 Ngc:=b80.addL Tryz.call94 fun (args:List (SV U)) (q:Q1 U) (h:cgc args=some q) ho=>by
 unfold cgc at h
 split at h
 . rename_i y m d
   cases h
   exact q8 (an:=d7r 94) b80 (j6 b80 o9 d7r 2) Tryz.func94 (k:=.int .i64) (x:=E1 y m d) trivial (kc (pgc y m d ho.1 ho.2.1 ho.2.2.1 ho.2.2.2.1 ho.2.2.2.2.1 ho.2.2.2.2.2.1) (by kernel_rfl)) 0
 . cases h
def e0c:Nat->Ann:=fun | 93=>⟨7,nn,nn⟩ | _=>⟨0,nn,nn⟩
def Vgt (d:Dy) (Q:Err->Prop):Prop :=
(¬G1 (Dy.mk d.Year d.Month d.Date)=true->Q (Err.no (3:Int)))/\(¬¬G1 (Dy.mk d.Year d.Month d.Date)=true->Q Err.nil)
def I6 (d:Dy):Err:=if A9 d then .nil else .no 3
theorem b1o (d:Dy):I6 d=.nil ∨ ∃ n,I6 d=.no n:=by
 unfold I6
 split
 . exact .inl rfl
 . exact .inr ⟨3,rfl⟩
theorem pgt (d:Dy)  : Vgt d (fun y0=>y0=I6 d):=by
 unfold Vgt I6
 refine ⟨fun h=>?_,fun h=>?_⟩
 . rw [if_neg (fun hr=>h (F4.2 hr))]
 . rw [if_pos (F4.1 (Classical.not_not.1 h))]
def e2i (d:Dy):Q1 U:=⟨[],[],.err (I6 d)⟩
def cgt (a:List (SV U)):Option (Q1 U):=match a with | [.agg [.int .i64 d0,.int .i64 d1,.int .i64 d2]]=>some (e2i (⟨d0,d1,d2⟩)) | _=>none
noncomputable def Ngt:Env:=Ngc.addL 93 cgt
theorem b74:j7 Ngt:=b72.addL Tryz.call93 fun (args:List (SV U)) (q:Q1 U) (h:cgt args=some q) ho=>by
 unfold cgt at h
 split at h
 . rename_i d0 d1 d2
   cases h
   exact q8 (an:=e0c 93) b72 (j6 b72 o9 e0c 2) Tryz.func93 (k:=.err) (x:=I6 (⟨d0,d1,d2⟩:Dy)) (b1o _) (kc (pgt (⟨d0,d1,d2⟩) ) (by kernel_rfl)) 0
 . cases h
def e03:Nat->Ann:=fun | 56=>⟨14,nn,nn⟩ | _=>⟨0,nn,nn⟩
def Vgn (d:Dy) (Q:Int->Prop):Prop :=
((I6 (Dy.mk d.Year d.Month d.Date)).is (3:Int)->Q (0:Int))/\(¬(I6 (Dy.mk d.Year d.Month d.Date)).is (3:Int)->(-100000:Int)<=d.Year/\d.Year<=100000/\(1:Int)<=d.Month/\d.Month<=12/\(-100000:Int)<=d.Date/\d.Date<=100000/\Q (E1 d.Year d.Month d.Date))
theorem b1v {d:Dy}:(I6 d).is 3↔¬ A9 d:=by
 unfold I6
 split
 . rename_i h
   exact ⟨fun h'=>by simp [Err.is,Err.num] at h',fun h'=>absurd h h'⟩
 . rename_i h
   exact ⟨fun _=>h,fun _=>rfl⟩
theorem b3m {d:Dy}:I6 d≠Err.nil↔¬ A9 d:=by
 unfold I6
 split
 . rename_i h
   exact ⟨fun h'=>absurd rfl h',fun h'=>absurd h h'⟩
 . rename_i h
   exact ⟨fun _=>h,fun _ h'=>by cases h'⟩
theorem pgn (d:Dy)  : Vgn d (fun y0=>y0=j9 d):=by
 unfold Vgn j9
 refine ⟨fun h=>?_,fun h=>?_⟩
 . rw [if_neg (b1v.1 h)]
 . have hr:A9 d:=Classical.not_not.1 fun hn=>h (b1v.2 hn)
   obtain ⟨y0,y1,m0,m1,d0,d1⟩:=hr.ym
   rw [if_pos hr]
   exact ⟨by omega,by omega,m0,m1,by omega,by omega,a0m m0 m1⟩
def e36 (d:Dy):Q1 U:=⟨[],[],.int .i64 (j9 d)⟩
def cgn (a:List (SV U)):Option (Q1 U):=match a with | [.agg [.int .i64 d0,.int .i64 d1,.int .i64 d2]]=>some (e36 (⟨d0,d1,d2⟩)) | _=>none
noncomputable def Ngn:Env:=Ngt.addL 56 cgn
theorem b78:j7 Ngn:=b74.addL Tryz.call56 fun (args:List (SV U)) (q:Q1 U) (h:cgn args=some q) ho=>by
 unfold cgn at h
 split at h
 . rename_i d0 d1 d2
   cases h
   exact q8 (an:=e03 56) b74 (j6 b74 o9 e03 2) Tryz.func56 (k:=.int .i64) (x:=j9 (⟨d0,d1,d2⟩:Dy)) trivial (kc (pgn (⟨d0,d1,d2⟩) ) (by kernel_rfl)) 0
 . cases h
def e0d:Nat->Ann:=fun | 82=>⟨13,nn,nn⟩ | _=>⟨0,nn,nn⟩
def Vgy (d:Dy) (Q:Int->Prop):Prop :=
(I6 (Dy.mk d.Year d.Month d.Date)≠Err.nil->Q (0:Int))/\(¬I6 (Dy.mk d.Year d.Month d.Date)≠Err.nil->((-100000:Int)<=d.Year/\d.Year<=100000/\(1:Int)<=1/\(1:Int)<=12/\(-100000:Int)<=1/\(1:Int)<=100000)/\b9 (j9 (Dy.mk d.Year d.Month d.Date)-E1 d.Year (1:Int) (1:Int))/\b9 (j9 (Dy.mk d.Year d.Month d.Date)-E1 d.Year (1:Int) (1:Int)+1)/\Q (j9 (Dy.mk d.Year d.Month d.Date)-E1 d.Year (1:Int) (1:Int)+1))
theorem pgy (d:Dy)  : Vgy d (fun y0=>y0=ydS d):=by
 unfold Vgy ydS
 refine ⟨fun h=>?_,fun h=>?_⟩
 . rw [if_neg (b3m.1 h)]
 . have hr:A9 d:=Classical.not_not.1 fun hn=>h (b3m.2 hn)
   obtain ⟨y0,y1,m0,m1,d0,d1⟩:=hr.ym
   obtain ⟨n0,n1⟩:=H6 hr
   have a0:=A2 (show (0:Int)<=d.Year by omega)
   have a1:=A2 (show d.Year<=10000 by omega)
   have a2:j4 0=-366:=by decide
   have a3:j4 10000=3652059:=by decide
   have e:E1 d.Year 1 1=j4 d.Year+1:=by rw [a0m (by decide) (by decide)]; unfold F9; rw [if_pos (by decide)]; omega
   have en:j9 (Dy.mk d.Year d.Month d.Date)=D7 d:=by
    show j9 d=D7 d
    unfold j9; rw [if_pos hr]
   rw [if_pos hr,e,en]
   exact ⟨⟨by omega,by omega,by decide,by decide,by decide,by decide⟩,⟨by omega,by omega⟩,⟨by omega,by omega⟩,by omega⟩
def e1q (d:Dy):Q1 U:=⟨[],[],.int .i64 (ydS d)⟩
def cgy (a:List (SV U)):Option (Q1 U):=match a with | [.agg [.int .i64 d0,.int .i64 d1,.int .i64 d2]]=>some (e1q (⟨d0,d1,d2⟩)) | _=>none
noncomputable def Ngy:Env:=Ngn.addL 82 cgy
theorem b60:j7 Ngy:=b78.addL Tryz.call82 fun (args:List (SV U)) (q:Q1 U) (h:cgy args=some q) ho=>by
 unfold cgy at h
 split at h
 . rename_i d0 d1 d2
   cases h
   exact q8 (an:=e0d 82) b78 (j6 b78 o9 e0d 2) Tryz.func82 (k:=.int .i64) (x:=ydS (⟨d0,d1,d2⟩:Dy)) trivial (kc (pgy (⟨d0,d1,d2⟩) ) (by kernel_rfl)) 0
 . cases h
def d8a:Nat->Ann:=fun | 104=>⟨16,nn,nn⟩ | _=>⟨0,nn,nn⟩
def Vgb (y:Int) (f:Int) (Q:Int->Prop):Prop :=
(-100000:Int)<=y/\y<=100000/\(1:Int)<=1/\(1:Int)<=12/\(-100000:Int)<=4/\(4:Int)<=100000/\b9 (wdS (E1 y (1:Int) (4:Int))-f)/\b9 (wdS (E1 y (1:Int) (4:Int))-f+7)/\(7:Int)≠0/\b9 (E1 y (1:Int) (4:Int)-(wdS (E1 y (1:Int) (4:Int))-f+7).tmod (7:Int))/\Q (E1 y (1:Int) (4:Int)-(wdS (E1 y (1:Int) (4:Int))-f+7).tmod (7:Int))
theorem pgb (y:Int) (f:Int) (y0:0<=y) (y1:y<=10000) (f0:0<=f) (f1:f<=6):Vgb y f (fun y0=>y0=z8 y f):=by
 unfold Vgb z8
 have e:E1 y 1 4=j4 y+4:=by rw [a0m (by decide) (by decide)]; unfold F9; rw [if_pos (by decide)]; omega
 have w0:0<=wdS (j4 y+4)/\wdS (j4 y+4)<=6:=by unfold wdS; omega
 have a0:=A2 (show (0:Int)<=y by omega)
 have a1:=A2 (show y<=10000 by omega)
 have a2:j4 0=-366:=by decide
 have a3:j4 10000=3652059:=by decide
 rw [e]
 generalize wdS (j4 y+4)=w at w0 ⊢
 have t:(w-f+7).tmod 7=(w-f+7) % 7:=Int.tmod_eq_emod_of_nonneg (by omega)
 rw [t]
 refine ⟨by omega,by omega,by decide,by decide,by decide,by decide,⟨by omega,by omega⟩,⟨by omega,by omega⟩,by decide,⟨by omega,by omega⟩,rfl⟩
def cgb (a:List (SV U)):Option (Q1 U):=match a with | [.int .i64 y,.int .i64 f]=>some ⟨[0<=y,y<=10000,0<=f,f<=6],[],.int .i64 (z8 y f)⟩ | _=>none
noncomputable def Ngb:Env:=Ngy.addL 104 cgb
theorem b57:j7 Ngb:=b60.addL Tryz.call104 fun (args:List (SV U)) (q:Q1 U) (h:cgb args=some q) ho=>by
 unfold cgb at h
 split at h
 . rename_i y f
   cases h
   exact q8 (an:=d8a 104) b60 (j6 b60 o9 d8a 2) Tryz.func104 (k:=.int .i64) (x:=z8 y f) trivial (kc (pgb y f ho.1 ho.2.1 ho.2.2.1 ho.2.2.2.1) (by kernel_rfl)) 0
 . cases h
def d8o:Nat->Ann:=fun | 79=>⟨49,nn,nn⟩ | _=>⟨0,nn,nn⟩
def Vgk (n:Int) (f:Int) (Q:Int->Int->Prop):Prop :=
(((n<1 ∨ (3652059:Int)<n) ∨ f<0) ∨ (6:Int)<f->Q (0:Int) (0:Int))/\(¬(((n<1 ∨ (3652059:Int)<n) ∨ f<0) ∨ (6:Int)<f)->b9 ((ofS n).Year+1)/\(0:Int)<=(ofS n).Year+1/\(ofS n).Year+1<=10000/\(0:Int)<=f/\f<=6/\(z8 ((ofS n).Year+1) f<=n->b9 ((ofS n).Year+1)/\(0:Int)<=(ofS n).Year+1/\(ofS n).Year+1<=10000/\(0:Int)<=f/\f<=6/\b9 (n-z8 ((ofS n).Year+1) f)/\(7:Int)≠0/\b9 ((n-z8 ((ofS n).Year+1) f).tdiv (7:Int))/\b9 ((n-z8 ((ofS n).Year+1) f).tdiv (7:Int)+1)/\Q ((ofS n).Year+1) ((n-z8 ((ofS n).Year+1) f).tdiv (7:Int)+1))/\(¬z8 ((ofS n).Year+1) f<=n->(0:Int)<=(ofS n).Year/\(ofS n).Year<=10000/\(0:Int)<=f/\f<=6/\(n<z8 (ofS n).Year f->b9 ((ofS n).Year-1)/\(0:Int)<=(ofS n).Year-1/\(ofS n).Year-1<=10000/\(0:Int)<=f/\f<=6/\b9 (n-z8 ((ofS n).Year-1) f)/\(7:Int)≠0/\b9 ((n-z8 ((ofS n).Year-1) f).tdiv (7:Int))/\b9 ((n-z8 ((ofS n).Year-1) f).tdiv (7:Int)+1)/\Q ((ofS n).Year-1) ((n-z8 ((ofS n).Year-1) f).tdiv (7:Int)+1))/\(¬n<z8 (ofS n).Year f->(0:Int)<=(ofS n).Year/\(ofS n).Year<=10000/\(0:Int)<=f/\f<=6/\b9 (n-z8 (ofS n).Year f)/\(7:Int)≠0/\b9 ((n-z8 (ofS n).Year f).tdiv (7:Int))/\b9 ((n-z8 (ofS n).Year f).tdiv (7:Int)+1)/\Q (ofS n).Year ((n-z8 (ofS n).Year f).tdiv (7:Int)+1))))
set_option maxHeartbeats 2000000 in
theorem pgk (n:Int) (f:Int)  : Vgk n f (fun y0 y1=>y0=(w8 n f).1/\y1=(w8 n f).2):=by
 unfold Vgk w8
 refine ⟨fun h=>by rw [if_pos h]; exact ⟨rfl,rfl⟩,fun h=>?_⟩
 rw [if_neg h]
 obtain ⟨hr,hn⟩:=Q5 (n:=n) (by omega) (by omega)
 obtain ⟨y0,y1,_⟩:=hr.ym
 have hi:=K9 hr
 rw [hn] at hi
 unfold wkY
 generalize (ofS n).Year=y at *
 obtain ⟨q0,q1⟩:=N1 (y+1) f
 obtain ⟨q2,q3⟩:=N1 y f
 obtain ⟨q4,q5⟩:=N1 (y-1) f
 obtain ⟨r0,r1⟩:=C3 (y:=y+1) (by omega) (by omega)
 obtain ⟨r2,r3⟩:=C3 (y:=y) (by omega) (by omega)
 obtain ⟨r4,r5⟩:=C3 (y:=y-1) (by omega) (by omega)
 have hs:=I7 (y-1)
 rw [show y-1+1=y by omega] at hs
 have hs2:j4 (y-1)+365<=j4 y:=by split at hs <;> omega
 refine ⟨⟨by omega,by omega⟩,by omega,by omega,by omega,by omega,fun h1=>?_,fun h1=>?_⟩
 . have t:(n-z8 (y+1) f).tdiv 7=(n-z8 (y+1) f) / 7:=Int.tdiv_eq_ediv_of_nonneg (by omega)
   rw [if_pos h1,t]
   exact ⟨⟨by omega,by omega⟩,by omega,by omega,by omega,by omega,⟨by omega,by omega⟩,by decide,⟨by omega,by omega⟩,⟨by omega,by omega⟩,rfl,rfl⟩
 . rw [if_neg h1]
   refine ⟨by omega,by omega,by omega,by omega,fun h2=>?_,fun h2=>?_⟩
   . have t:(n-z8 (y-1) f).tdiv 7=(n-z8 (y-1) f) / 7:=Int.tdiv_eq_ediv_of_nonneg (by omega)
     rw [if_pos h2,t]
     exact ⟨⟨by omega,by omega⟩,by omega,by omega,by omega,by omega,⟨by omega,by omega⟩,by decide,⟨by omega,by omega⟩,⟨by omega,by omega⟩,rfl,rfl⟩
   . have t:(n-z8 y f).tdiv 7=(n-z8 y f) / 7:=Int.tdiv_eq_ediv_of_nonneg (by omega)
     rw [if_neg h2,t]
     exact ⟨by omega,by omega,by omega,by omega,⟨by omega,by omega⟩,by decide,⟨by omega,by omega⟩,⟨by omega,by omega⟩,rfl,rfl⟩
def cgk (a:List (SV U)):Option (Q1 U):=match a with | [.int .i64 n,.int .i64 f]=>some ⟨[],[],.tup [.int .i64 ((w8 n f).1),.int .i64 ((w8 n f).2)]⟩ | _=>none
noncomputable def Ngk:Env:=Ngb.addL 79 cgk
theorem b7u:j7 Ngk:=b57.addL Tryz.call79 fun (args:List (SV U)) (q:Q1 U) (h:cgk args=some q) ho=>by
 unfold cgk at h
 split at h
 . rename_i n f
   cases h
   exact d1w (an:=d8o 79) b57 (j6 b57 o9 d8o 2) Tryz.func79 (k1:=.int .i64) (k2:=.int .i64) (x1:=(w8 n f).1) (x2:=(w8 n f).2) trivial trivial (kc (pgk n f ) (by kernel_rfl)) 0
 . cases h
def d9t:Nat->Ann:=fun | 80=>⟨28,nn,nn⟩ | _=>⟨0,nn,nn⟩
def Vgm (y:Int) (f:Int) (Q:Int->Prop):Prop :=
(((y<1 ∨ (9999:Int)<y) ∨ f<0) ∨ (6:Int)<f->Q (0:Int))/\(¬(((y<1 ∨ (9999:Int)<y) ∨ f<0) ∨ (6:Int)<f)->b9 (y+1)/\(0:Int)<=y+1/\y+1<=10000/\(0:Int)<=f/\f<=6/\(0:Int)<=y/\y<=10000/\(0:Int)<=f/\f<=6/\b9 (z8 (y+1) f-z8 y f)/\(7:Int)≠0/\b9 ((z8 (y+1) f-z8 y f).tdiv (7:Int))/\Q ((z8 (y+1) f-z8 y f).tdiv (7:Int)))
theorem pgm (y:Int) (f:Int)  : Vgm y f (fun y0=>y0=F3 y f):=by
 unfold Vgm F3
 refine ⟨fun h=>by rw [if_pos h],fun h=>?_⟩
 rw [if_neg h]
 obtain ⟨q0,q1⟩:=N1 (y+1) f
 obtain ⟨q2,q3⟩:=N1 y f
 obtain ⟨r0,r1⟩:=C3 (y:=y+1) (by omega) (by omega)
 obtain ⟨r2,r3⟩:=C3 (y:=y) (by omega) (by omega)
 have hs:=I7 y
 have hs2:j4 y+365<=j4 (y+1):=by split at hs <;> omega
 have t:(z8 (y+1) f-z8 y f).tdiv 7=(z8 (y+1) f-z8 y f) / 7:=Int.tdiv_eq_ediv_of_nonneg (by omega)
 rw [t]
 exact ⟨⟨by omega,by omega⟩,by omega,by omega,by omega,by omega,by omega,by omega,by omega,by omega,⟨by omega,by omega⟩,by decide,⟨by omega,by omega⟩,rfl⟩
def cgm (a:List (SV U)):Option (Q1 U):=match a with | [.int .i64 y,.int .i64 f]=>some ⟨[],[],.int .i64 (F3 y f)⟩ | _=>none
noncomputable def Ngm:Env:=Ngk.addL 80 cgm
theorem d6z:j7 Ngm:=b7u.addL Tryz.call80 fun (args:List (SV U)) (q:Q1 U) (h:cgm args=some q) ho=>by
 unfold cgm at h
 split at h
 . rename_i y f
   cases h
   exact q8 (an:=d9t 80) b7u (j6 b7u o9 d9t 2) Tryz.func80 (k:=.int .i64) (x:=F3 y f) trivial (kc (pgm y f ) (by kernel_rfl)) 0
 . cases h
noncomputable def d4g:Env:=Ngm.addI 55 Tryz.f55
theorem b0h:j7 d4g:=d6z.addI Tryz.call55 Tryz.func55
def d9w:Nat->Ann:=fun | 29=>⟨42,nn,nn⟩ | 55=>⟨12,nn,nn⟩ | _=>⟨0,nn,nn⟩
def Vwr (t:Tm) (Q:Bool->Prop):Prop :=
(t.Bare=true/\(((t.Hour≠0 ∨ t.Min≠0) ∨ t.Sec≠0) ∨ t.UTC=true)->Q false)/\(¬(t.Bare=true/\(((t.Hour≠0 ∨ t.Min≠0) ∨ t.Sec≠0) ∨ t.UTC=true))->(G1 (Dy.mk t.Day.Year t.Day.Month t.Day.Date)=true->((0:Int)<=t.Hour/\t.Hour<=23->((0:Int)<=t.Min/\t.Min<=59->Q (decide ((0:Int)<=t.Sec/\t.Sec<=59)))/\(¬((0:Int)<=t.Min/\t.Min<=59)->Q false))/\(¬((0:Int)<=t.Hour/\t.Hour<=23)->Q false))/\(¬G1 (Dy.mk t.Day.Year t.Day.Month t.Day.Date)=true->Q false))
theorem pwr (t:Tm)  : Vwr t (fun y0=>y0=n7 t):=by
 unfold Vwr
 have e:(Dy.mk t.Day.Year t.Day.Month t.Day.Date)=t.Day:=rfl
 rw [e]
 refine ⟨fun h=>?_,fun h=>⟨fun hd=>⟨fun hh=>⟨fun hm=>?_,fun hm=>?_⟩,fun hh=>?_⟩,fun hd=>?_⟩⟩
 . exact (decide_eq_false fun hr=>hr.2.2.2.2 h).symm
 . by_cases hs:0<=t.Sec/\t.Sec<=59
   . rw [decide_eq_true hs]; exact (decide_eq_true ⟨F4.1 hd,hh,hm,hs,h⟩).symm
   . rw [decide_eq_false hs]; exact (decide_eq_false fun hr=>hs hr.2.2.2.1).symm
 . exact (decide_eq_false fun hr=>hm hr.2.2.1).symm
 . exact (decide_eq_false fun hr=>hh hr.2.1).symm
 . exact (decide_eq_false fun hr=>hd (F4.2 hr.1)).symm
noncomputable def e2l (t:Tm):Q1 U:=⟨[],[],blB (n7 t)⟩
noncomputable def cwr (a:List (SV U)):Option (Q1 U):=match a with | [.agg l_t]=>(y25.bk (.agg l_t)).bind fun t=>some (e2l t) | _=>none
noncomputable def Nwr:Env:=d4g.addL 29 cwr
theorem b7n:j7 Nwr:=b0h.addL Tryz.call29 fun (args:List (SV U)) (q:Q1 U) (h:cwr args=some q) ho=>by
 unfold cwr at h
 split at h
 . rename_i l_t
   obtain ⟨t,hb_t,h⟩:=Option.bind_eq_some_iff.1 h
   cases h
   refine A3.conv (E:=d4g) (args':=[.agg [.int .i64 t.Day.Year,.int .i64 t.Day.Month,.int .i64 t.Day.Date,.int .i64 t.Hour,.int .i64 t.Min,.int .i64 t.Sec,blB t.Bare,blB t.UTC]]) (q8 (an:=d9w 29) b0h (j6 b0h o9 d9w 2) Tryz.func29 (k:=.bool) trivial (kc (pwr t ) (by kernel_rfl)) 0) fun D w vs hr=>q9 [.agg l_t] [.agg [.int .i64 t.Day.Year,.int .i64 t.Day.Month,.int .i64 t.Day.Date,.int .i64 t.Hour,.int .i64 t.Min,.int .i64 t.Sec,blB t.Bare,blB t.UTC]] _ ⟨fun _ h=>o7 hb_t h,trivial⟩ hr
 . cases h
def d8z:Nat->Ann:=fun | 31=>⟨22,nn,nn⟩ | _=>⟨0,nn,nn⟩
def Vws (t:Tm) (Q:Int->Prop):Prop :=
(¬n7 (Tm.mk (Dy.mk t.Day.Year t.Day.Month t.Day.Date) t.Hour t.Min t.Sec (decide (t.Bare=true)) (decide (t.UTC=true)))=true->Q (-1:Int))/\(¬¬n7 (Tm.mk (Dy.mk t.Day.Year t.Day.Month t.Day.Date) t.Hour t.Min t.Sec (decide (t.Bare=true)) (decide (t.UTC=true)))=true->b9 (j9 (Dy.mk t.Day.Year t.Day.Month t.Day.Date)-1)/\b9 ((j9 (Dy.mk t.Day.Year t.Day.Month t.Day.Date)-1) * 86400)/\b9 (t.Hour * 3600)/\b9 ((j9 (Dy.mk t.Day.Year t.Day.Month t.Day.Date)-1) * 86400+t.Hour * 3600)/\b9 (t.Min * 60)/\b9 ((j9 (Dy.mk t.Day.Year t.Day.Month t.Day.Date)-1) * 86400+t.Hour * 3600+t.Min * 60)/\b9 ((j9 (Dy.mk t.Day.Year t.Day.Month t.Day.Date)-1) * 86400+t.Hour * 3600+t.Min * 60+t.Sec)/\Q ((j9 (Dy.mk t.Day.Year t.Day.Month t.Day.Date)-1) * 86400+t.Hour * 3600+t.Min * 60+t.Sec))
theorem pws (t:Tm)  : Vws t (fun y0=>y0=b8 t):=by
 unfold Vws b8
 simp only [Bool.decide_eq_true]
 refine ⟨fun h=>by rw [if_neg (fun hr=>h (u7.2 hr))],fun h=>?_⟩
 have hr:a09 t:=u7.1 (Classical.not_not.1 h)
 have hrg:=a1v hr
 rw [if_pos hr]
 obtain ⟨hd,hh,hm,hs,_⟩:=hr
 obtain ⟨n0,n1⟩:=H6 hd
 have en:j9 (Dy.mk t.Day.Year t.Day.Month t.Day.Date)=D7 t.Day:=by
  show j9 t.Day=D7 t.Day
  unfold j9; rw [if_pos hd]
 rw [en]
 unfold N4 at *
 exact ⟨⟨by omega,by omega⟩,⟨by omega,by omega⟩,⟨by omega,by omega⟩,⟨by omega,by omega⟩,⟨by omega,by omega⟩,⟨by omega,by omega⟩,⟨by omega,by omega⟩,rfl⟩
noncomputable def e2s (t:Tm):Q1 U:=⟨[],[],.int .i64 (b8 t)⟩
noncomputable def cws (a:List (SV U)):Option (Q1 U):=match a with | [.agg l_t]=>(y25.bk (.agg l_t)).bind fun t=>some (e2s t) | _=>none
noncomputable def Nws:Env:=Nwr.addL 31 cws
theorem b6i:j7 Nws:=b7n.addL Tryz.call31 fun (args:List (SV U)) (q:Q1 U) (h:cws args=some q) ho=>by
 unfold cws at h
 split at h
 . rename_i l_t
   obtain ⟨t,hb_t,h⟩:=Option.bind_eq_some_iff.1 h
   cases h
   refine A3.conv (E:=Nwr) (args':=[.agg [.int .i64 t.Day.Year,.int .i64 t.Day.Month,.int .i64 t.Day.Date,.int .i64 t.Hour,.int .i64 t.Min,.int .i64 t.Sec,blB t.Bare,blB t.UTC]]) (q8 (an:=d8z 31) b7n (j6 b7n o9 d8z 2) Tryz.func31 (k:=.int .i64) trivial (kc (pws t ) (by kernel_rfl)) 0) fun D w vs hr=>q9 [.agg l_t] [.agg [.int .i64 t.Day.Year,.int .i64 t.Day.Month,.int .i64 t.Day.Date,.int .i64 t.Hour,.int .i64 t.Min,.int .i64 t.Sec,blB t.Bare,blB t.UTC]] _ ⟨fun _ h=>o7 hb_t h,trivial⟩ hr
 . cases h
def d8v:Nat->Ann:=fun | 36=>⟨46,nn,nn⟩ | _=>⟨0,nn,nn⟩
def Vwa (n:Int) (t:Tm) (Q:Tm->Prop):Prop :=
((¬n<0/\t.Bare=true)/\¬t.UTC=true->(86400:Int)≠0)/\(n<0 ∨ t.Bare=true/\(t.UTC=true ∨ n.tmod (86400:Int)≠0)->Q (Tm.mk (Dy.mk (0:Int) (0:Int) (0:Int)) (0:Int) (0:Int) (0:Int) false false))/\(¬(n<0 ∨ t.Bare=true/\(t.UTC=true ∨ n.tmod (86400:Int)≠0))->(86400:Int)≠0/\b9 (n.tdiv (86400:Int))/\b9 (n.tdiv (86400:Int)+1)/\((ofS (n.tdiv (86400:Int)+1)).Year=0/\(ofS (n.tdiv (86400:Int)+1)).Month=0/\(ofS (n.tdiv (86400:Int)+1)).Date=0/\True->Q (Tm.mk (Dy.mk (0:Int) (0:Int) (0:Int)) (0:Int) (0:Int) (0:Int) false false))/\(¬((ofS (n.tdiv (86400:Int)+1)).Year=0/\(ofS (n.tdiv (86400:Int)+1)).Month=0/\(ofS (n.tdiv (86400:Int)+1)).Date=0/\True)->(86400:Int)≠0/\(3600:Int)≠0/\b9 ((n.tmod (86400:Int)).tdiv (3600:Int))/\(60:Int)≠0/\b9 ((n.tmod (86400:Int)).tdiv (60:Int))/\(60:Int)≠0/\(60:Int)≠0/\Q (Tm.mk (Dy.mk (ofS (n.tdiv (86400:Int)+1)).Year (ofS (n.tdiv (86400:Int)+1)).Month (ofS (n.tdiv (86400:Int)+1)).Date) ((n.tmod (86400:Int)).tdiv (3600:Int)) (((n.tmod (86400:Int)).tdiv (60:Int)).tmod (60:Int)) ((n.tmod (86400:Int)).tmod (60:Int)) (decide (t.Bare=true)) (decide (t.UTC=true)))))
theorem pwa (n:Int) (t:Tm) (hn:n<=9000000000000000000):Vwa n t (fun y0=>y0=atS n t):=by
 unfold Vwa atS
 simp only [Bool.decide_eq_true]
 refine ⟨fun _=>by decide,fun h=>?_,fun h=>?_⟩
 . by_cases h0:n<0
   . rw [if_pos (.inl h0)]
   . have e:n.tmod 86400=n % 86400:=Int.tmod_eq_emod_of_nonneg (by omega)
     rw [e] at h
     rw [if_pos (.inr (.inl (h.resolve_left h0)))]
 . have h0:¬ n<0:=fun h'=>h (.inl h')
   have e1:n.tdiv 86400=n / 86400:=Int.tdiv_eq_ediv_of_nonneg (by omega)
   have e2:n.tmod 86400=n % 86400:=Int.tmod_eq_emod_of_nonneg (by omega)
   have e3:(n % 86400).tdiv 3600=n % 86400 / 3600:=Int.tdiv_eq_ediv_of_nonneg (by omega)
   have e4:(n % 86400).tdiv 60=n % 86400 / 60:=Int.tdiv_eq_ediv_of_nonneg (by omega)
   have e5:(n % 86400 / 60).tmod 60=n % 86400 / 60 % 60:=Int.tmod_eq_emod_of_nonneg (by omega)
   have e6:(n % 86400).tmod 60=n % 86400 % 60:=Int.tmod_eq_emod_of_nonneg (by omega)
   rw [e2] at h
   rw [e1,e2,e3,e4,e5,e6]
   by_cases hl:3652059<n / 86400+1
   . have eo:ofS (n / 86400+1)=⟨0,0,0⟩:=by unfold ofS; rw [if_pos (.inr hl)]
     rw [if_pos (.inr (.inr hl)),eo]
     exact ⟨by decide,⟨by omega,by omega⟩,⟨by omega,by omega⟩,fun _=>rfl,fun hh=>absurd ⟨rfl,rfl,rfl,trivial⟩ hh⟩
   . obtain ⟨hr,_⟩:=Q5 (n:=n / 86400+1) (by omega) (by omega)
     obtain ⟨y0,_⟩:=hr.ym
     rw [if_neg (by rintro (h' | h' | h')
                    . exact h0 h'
                    . exact h (.inr h')
                    . exact hl h')]
     exact ⟨by decide,⟨by omega,by omega⟩,⟨by omega,by omega⟩,fun hz=>absurd hz.1 (by omega),fun _=>⟨by decide,by decide,⟨by omega,by omega⟩,by decide,⟨by omega,by omega⟩,by decide,by decide,rfl⟩⟩
noncomputable def e2y (n:Int) (t:Tm):Q1 U:=⟨[n<=9000000000000000000],[],.agg [.int .i64 (atS n t).Day.Year,.int .i64 (atS n t).Day.Month,.int .i64 (atS n t).Day.Date,.int .i64 (atS n t).Hour,.int .i64 (atS n t).Min,.int .i64 (atS n t).Sec,blB (atS n t).Bare,blB (atS n t).UTC]⟩
noncomputable def cwa (a:List (SV U)):Option (Q1 U):=match a with | [.int .i64 n,.agg l_t]=>(y25.bk (.agg l_t)).bind fun t=>some (e2y n t) | _=>none
noncomputable def Nwa:Env:=Nws.addL 36 cwa
theorem b5b:j7 Nwa:=b6i.addL Tryz.call36 fun (args:List (SV U)) (q:Q1 U) (h:cwa args=some q) ho=>by
 unfold cwa at h
 split at h
 . rename_i n l_t
   obtain ⟨t,hb_t,h⟩:=Option.bind_eq_some_iff.1 h
   cases h
   refine A3.conv (E:=Nws) (args':=[.int .i64 n,.agg [.int .i64 t.Day.Year,.int .i64 t.Day.Month,.int .i64 t.Day.Date,.int .i64 t.Hour,.int .i64 t.Min,.int .i64 t.Sec,blB t.Bare,blB t.UTC]]) (q8 (an:=d8v 36) b6i (j6 b6i o9 d8v 2) Tryz.func36 (k:=.val 25) ⟨_,_,rfl,rfl,rfl⟩ (kc (pwa n t ho.1) (by kernel_rfl)) 0) fun D w vs hr=>q9 [.int .i64 n,.agg l_t] [.int .i64 n,.agg [.int .i64 t.Day.Year,.int .i64 t.Day.Month,.int .i64 t.Day.Date,.int .i64 t.Hour,.int .i64 t.Min,.int .i64 t.Sec,blB t.Bare,blB t.UTC]] _ ⟨fun _ h=>h,fun _ h=>o7 hb_t h,trivial⟩ hr
 . cases h
def d7q:Nat->Ann:=fun | 97=>⟨16,nn,nn⟩ | _=>⟨0,nn,nn⟩
def Vry (y:Int) (Q:Int->Prop):Prop :=
(400:Int)≠0/\(¬y.tmod (400:Int)=0->(4:Int)≠0)/\(¬y.tmod (400:Int)=0/\y.tmod (4:Int)=0->(100:Int)≠0)/\(y.tmod (400:Int)=0 ∨ y.tmod (4:Int)=0/\y.tmod (100:Int)≠0->Q (366:Int))/\(¬(y.tmod (400:Int)=0 ∨ y.tmod (4:Int)=0/\y.tmod (100:Int)≠0)->Q (365:Int))
theorem pry (y:Int)  : Vry y (fun y0=>y0=a1f y):=by
 unfold Vry a1f
 refine ⟨by decide,fun _=>by decide,fun _=>by decide,fun h=>?_,fun h=>?_⟩
 . rw [tm0,tm0,ne_eq,tm0] at h
   rw [if_pos (by omega)]
 . rw [tm0,tm0,ne_eq,tm0] at h
   rw [if_neg (by omega)]
def cry (a:List (SV U)):Option (Q1 U):=match a with | [.int .i64 y]=>some ⟨[],[],.int .i64 (a1f y)⟩ | _=>none
noncomputable def Nry:Env:=Nwa.addL 97 cry
theorem b7l:j7 Nry:=b5b.addL Tryz.call97 fun (args:List (SV U)) (q:Q1 U) (h:cry args=some q) ho=>by
 unfold cry at h
 split at h
 . rename_i y
   cases h
   exact q8 (an:=d7q 97) b5b (j6 b5b o9 d7q 2) Tryz.func97 (k:=.int .i64) (x:=a1f y) trivial (kc (pry y ) (by kernel_rfl)) 0
 . cases h
def d7v:Nat->Ann:=fun | 65=>⟨31,nn,nn⟩ | _=>⟨0,nn,nn⟩
def Vrl (y:Int) (m:Int) (Q:Int->Prop):Prop :=
(((y<1 ∨ (9999:Int)<y) ∨ m<1) ∨ (12:Int)<m->Q (0:Int))/\(¬(((y<1 ∨ (9999:Int)<y) ∨ m<1) ∨ (12:Int)<m)->(m=2->b9 (a1f y-337)/\Q (a1f y-337))/\(¬m=2->b9 (m-1)/\(0:Int)<=m-1/\m-1<(↑[(31:Int),(28:Int),(31:Int),(30:Int),(31:Int),(30:Int),(31:Int),(31:Int),(30:Int),(31:Int),(30:Int),(31:Int)].length:Int)/\(b9 (ix [(31:Int),(28:Int),(31:Int),(30:Int),(31:Int),(30:Int),(31:Int),(31:Int),(30:Int),(31:Int),(30:Int),(31:Int)] (m-1))->Q (ix [(31:Int),(28:Int),(31:Int),(30:Int),(31:Int),(30:Int),(31:Int),(31:Int),(30:Int),(31:Int),(30:Int),(31:Int)] (m-1)))))
theorem prl (y:Int) (m:Int)  : Vrl y m (fun y0=>y0=u9 y m):=by
 unfold Vrl
 refine ⟨fun h=>?_,fun h=>⟨fun h2=>?_,fun h2=>⟨⟨by omega,by omega⟩,by omega,by show m-1<12; omega,fun _=>?_⟩⟩⟩
 . unfold u9
   by_cases hy:y<1 ∨ 9999<y
   . rw [if_pos hy]
   . rw [if_neg hy,if_neg (by omega),if_neg (by omega),if_neg (by omega)]
 . subst h2
   unfold u9
   rw [if_neg (show ¬ (y<1 ∨ 9999<y) by omega),if_pos rfl]
   unfold a1f
   by_cases hl:y % 4=0/\(y % 100≠0 ∨ y % 400=0)
   . rw [if_pos hl,if_pos hl]; exact ⟨⟨by decide,by decide⟩,rfl⟩
   . rw [if_neg hl,if_neg hl]; exact ⟨⟨by decide,by decide⟩,rfl⟩
 . have hm:m=1 ∨ m=3 ∨ m=4 ∨ m=5 ∨ m=6 ∨ m=7 ∨ m=8 ∨ m=9 ∨ m=10 ∨ m=11 ∨ m=12:=by omega
   unfold u9
   rw [if_neg (by omega)]
   rcases hm with rfl | rfl | rfl | rfl | rfl | rfl | rfl | rfl | rfl | rfl | rfl <;> rfl
def crl (a:List (SV U)):Option (Q1 U):=match a with | [.int .i64 y,.int .i64 m]=>some ⟨[],[],.int .i64 (u9 y m)⟩ | _=>none
noncomputable def Nrl:Env:=Nry.addL 65 crl
theorem b71:j7 Nrl:=b7l.addL Tryz.call65 fun (args:List (SV U)) (q:Q1 U) (h:crl args=some q) ho=>by
 unfold crl at h
 split at h
 . rename_i y m
   cases h
   exact q8 (an:=d7v 65) b7l (j6 b7l o9 d7v 2) Tryz.func65 (k:=.int .i64) (x:=u9 y m) trivial (kc (prl y m ) (by kernel_rfl)) 0
 . cases h
def e06:Nat->Ann:=fun | 64=>⟨18,nn,nn⟩ | _=>⟨0,nn,nn⟩
def Vra (y:Int) (Q:Int->Prop):Prop :=
b9 (y-1)/\b9 ((365:Int) * (y-1))/\b9 (y-1)/\(4:Int)≠0/\b9 ((y-1).tdiv (4:Int))/\b9 ((365:Int) * (y-1)+(y-1).tdiv (4:Int))/\b9 (y-1)/\(100:Int)≠0/\b9 ((y-1).tdiv (100:Int))/\b9 ((365:Int) * (y-1)+(y-1).tdiv (4:Int)-(y-1).tdiv (100:Int))/\b9 (y-1)/\(400:Int)≠0/\b9 ((y-1).tdiv (400:Int))/\b9 ((365:Int) * (y-1)+(y-1).tdiv (4:Int)-(y-1).tdiv (100:Int)+(y-1).tdiv (400:Int))/\Q ((365:Int) * (y-1)+(y-1).tdiv (4:Int)-(y-1).tdiv (100:Int)+(y-1).tdiv (400:Int))
theorem pra (y:Int) (y0:1<=y) (y1:y<=100000):Vra y (fun y0=>y0=j4 y):=by
 unfold Vra j4
 have e1:(y-1).tdiv 4=(y-1) / 4:=Int.tdiv_eq_ediv_of_nonneg (by omega)
 have e2:(y-1).tdiv 100=(y-1) / 100:=Int.tdiv_eq_ediv_of_nonneg (by omega)
 have e3:(y-1).tdiv 400=(y-1) / 400:=Int.tdiv_eq_ediv_of_nonneg (by omega)
 rw [e1,e2,e3]
 repeat' apply And.intro
 all_goals first | rfl | omega
def cra (a:List (SV U)):Option (Q1 U):=match a with | [.int .i64 y]=>some ⟨[1<=y,y<=100000],[],.int .i64 (j4 y)⟩ | _=>none
noncomputable def Nra:Env:=Nrl.addL 64 cra
theorem b56:j7 Nra:=b71.addL Tryz.call64 fun (args:List (SV U)) (q:Q1 U) (h:cra args=some q) ho=>by
 unfold cra at h
 split at h
 . rename_i y
   cases h
   exact q8 (an:=e06 64) b71 (j6 b71 o9 e06 2) Tryz.func64 (k:=.int .i64) (x:=j4 y) trivial (kc (pra y ho.1 ho.2.1) (by kernel_rfl)) 0
 . cases h
def e0s:Nat->Ann:=fun | 92=>⟨14,nn,nn⟩ | _=>⟨0,nn,nn⟩
def Vrw (n:Int) (Q:Int->Prop):Prop :=
(7:Int)≠0/\(n.tmod (7:Int)<0->b9 (n.tmod (7:Int)+7)/\(n.tmod (7:Int)+7=0->Q (6:Int))/\(¬n.tmod (7:Int)+7=0->b9 (n.tmod (7:Int)+7-1)/\Q (n.tmod (7:Int)+7-1)))/\(¬n.tmod (7:Int)<0->(n.tmod (7:Int)=0->Q (6:Int))/\(¬n.tmod (7:Int)=0->b9 (n.tmod (7:Int)-1)/\Q (n.tmod (7:Int)-1)))
theorem prw (n:Int)  : Vrw n (fun y0=>y0=wdS n):=by
 unfold Vrw wdS
 have h1:n.tmod 7=n % 7 ∨ n.tmod 7=n % 7-7/\n % 7≠0:=by
  have h1:=Int.tdiv_mul_add_tmod n 7
  have h5:n.tmod 7<7:=Int.tmod_lt_of_pos n (by decide)
  have h6:-7<n.tmod 7:=Int.lt_tmod_of_pos n (by decide)
  omega
 generalize n.tmod 7=r at h1 ⊢
 refine ⟨by decide,fun h=>⟨⟨by omega,by omega⟩,fun _=>by omega,fun _=>⟨⟨by omega,by omega⟩,by omega⟩⟩,fun h=>⟨fun _=>by omega,fun _=>⟨⟨by omega,by omega⟩,by omega⟩⟩⟩
def crw (a:List (SV U)):Option (Q1 U):=match a with | [.int .i64 n]=>some ⟨[],[],.int .i64 (wdS n)⟩ | _=>none
noncomputable def Nrw:Env:=Nra.addL 92 crw
theorem b7t:j7 Nrw:=b56.addL Tryz.call92 fun (args:List (SV U)) (q:Q1 U) (h:crw args=some q) ho=>by
 unfold crw at h
 split at h
 . rename_i n
   cases h
   exact q8 (an:=e0s 92) b56 (j6 b56 o9 e0s 2) Tryz.func92 (k:=.int .i64) (x:=wdS n) trivial (kc (prw n ) (by kernel_rfl)) 0
 . cases h
def d9i:Nat->Ann:=fun | 42=>⟨16,nn,nn⟩ | _=>⟨0,nn,nn⟩
def Vrr (d:Dy) (Q:Bool->Prop):Prop :=
Q (decide ((1:Int)<=d.Date/\d.Date<=u9 d.Year d.Month))
theorem prr (d:Dy)  : Vrr d (fun y0=>y0=G1 d):=by
 unfold Vrr
 rfl
def e2d (d:Dy):Q1 U:=⟨[],[],blB (G1 d)⟩
def crr (a:List (SV U)):Option (Q1 U):=match a with | [.agg [.int .i64 d0,.int .i64 d1,.int .i64 d2]]=>some (e2d (⟨d0,d1,d2⟩)) | _=>none
noncomputable def Nrr:Env:=Nrw.addL 42 crr
theorem b5s:j7 Nrr:=b7t.addL Tryz.call42 fun (args:List (SV U)) (q:Q1 U) (h:crr args=some q) ho=>by
 unfold crr at h
 split at h
 . rename_i d0 d1 d2
   cases h
   exact q8 (an:=d9i 42) b7t (j6 b7t o9 d9i 2) Tryz.func42 (k:=.bool) (x:=G1 (⟨d0,d1,d2⟩:Dy)) trivial (kc (prr (⟨d0,d1,d2⟩) ) (by kernel_rfl)) 0
 . cases h
def d7e:Nat->Ann:=fun | 39=>⟨27,fun | 5=>some ⟨[1],[.slot 3 (.int .i64),.slot 4 (.int .i64)]⟩ | _=>none,nn⟩ | _=>⟨0,nn,nn⟩
def Vrn (d:Dy) (Q:Int->Prop):Prop :=
(¬G1 (Dy.mk d.Year d.Month d.Date)=true->Q (0:Int))/\(¬¬G1 (Dy.mk d.Year d.Month d.Date)=true->((1:Int)<=d.Year/\d.Year<=100000)/\b9 (j4 d.Year+d.Date)/\∃ (I:Int->Int->Prop),∃ (m:Int->Int->Nat),I (j4 d.Year+d.Date) (1:Int)/\∀ (x x_1:Int),I x x_1->(x_1<d.Month->b9 (x+u9 d.Year x_1)/\b9 (x_1+1)/\I (x+u9 d.Year x_1) (x_1+1)/\m (x+u9 d.Year x_1) (x_1+1)<m x x_1)/\(¬x_1<d.Month->Q x))
theorem prn (d:Dy)  : Vrn d (fun y0=>y0=j9 d):=by
 unfold Vrn
 have ed:(Dy.mk d.Year d.Month d.Date)=d:=rfl
 rw [ed]
 refine ⟨fun h=>by unfold j9; rw [if_neg (fun hr=>h (F4.2 hr))],fun h=>?_⟩
 have hr:A9 d:=F4.1 (Classical.not_not.1 h)
 obtain ⟨y0,y1,m0,m1,d0,d1⟩:=hr.ym
 obtain ⟨a0,a1⟩:=C3 (y:=d.Year) (by omega) (by omega)
 refine ⟨⟨y0,by omega⟩,⟨by omega,by omega⟩,fun x k=>1<=k/\k<=d.Month/\x=j4 d.Year+d.Date+F9 d.Year k,fun _ k=>(13-k).toNat,⟨Int.le_refl 1,m0,by rw [d1b]; omega⟩,?_⟩
 rintro x k ⟨k0,k1,hx⟩
 refine ⟨fun hk=>?_,fun hk=>?_⟩
 . have hc:=a80 (y:=d.Year) k0 (by omega) y0 y1 (by omega)
   obtain ⟨c0,c1⟩:=b08 d.Year k
   obtain ⟨c2,c3⟩:=b08 d.Year (k+1)
   exact ⟨⟨by omega,by omega⟩,⟨by omega,by omega⟩,⟨by omega,by omega,by omega⟩,by dsimp only; omega⟩
 . have e:k=d.Month:=by omega
   subst e
   unfold j9 D7
   rw [if_pos hr]; omega
def e2w (d:Dy):Q1 U:=⟨[],[],.int .i64 (j9 d)⟩
def crn (a:List (SV U)):Option (Q1 U):=match a with | [.agg [.int .i64 d0,.int .i64 d1,.int .i64 d2]]=>some (e2w (⟨d0,d1,d2⟩)) | _=>none
noncomputable def Nrn:Env:=Nrr.addL 39 crn
theorem b5f:j7 Nrn:=b5s.addL Tryz.call39 fun (args:List (SV U)) (q:Q1 U) (h:crn args=some q) ho=>by
 unfold crn at h
 split at h
 . rename_i d0 d1 d2
   cases h
   exact q8 (an:=d7e 39) b5s (j6 b5s o9 d7e 2) Tryz.func39 (k:=.int .i64) (x:=j9 (⟨d0,d1,d2⟩:Dy)) trivial (kc (prn (⟨d0,d1,d2⟩) ) (by kernel_rfl)) 0
 . cases h
def d8f:Nat->Ann:=fun | 88=>⟨12,nn,nn⟩ | _=>⟨0,nn,nn⟩
def Vrd (d:Dy) (Q:Int->Prop):Prop :=
(¬G1 (Dy.mk d.Year d.Month d.Date)=true->Q (0:Int))/\(¬¬G1 (Dy.mk d.Year d.Month d.Date)=true->((1:Int)<=d.Year/\d.Year<=100000)/\b9 (j9 (Dy.mk d.Year d.Month d.Date)-j4 d.Year)/\Q (j9 (Dy.mk d.Year d.Month d.Date)-j4 d.Year))
theorem prd (d:Dy)  : Vrd d (fun y0=>y0=ydS d):=by
 unfold Vrd
 have ed:(Dy.mk d.Year d.Month d.Date)=d:=rfl
 rw [ed]
 refine ⟨fun h=>by unfold ydS; rw [if_neg (fun hr=>h (F4.2 hr))],fun h=>?_⟩
 have hr:A9 d:=F4.1 (Classical.not_not.1 h)
 obtain ⟨y0,y1,m0,m1,d0,d1⟩:=hr.ym
 obtain ⟨a0,a1⟩:=C3 (y:=d.Year) (by omega) (by omega)
 obtain ⟨n0,n1⟩:=H6 hr
 unfold ydS j9
 rw [if_pos hr,if_pos hr]
 exact ⟨⟨y0,by omega⟩,⟨by omega,by omega⟩,rfl⟩
def e24 (d:Dy):Q1 U:=⟨[],[],.int .i64 (ydS d)⟩
def crd (a:List (SV U)):Option (Q1 U):=match a with | [.agg [.int .i64 d0,.int .i64 d1,.int .i64 d2]]=>some (e24 (⟨d0,d1,d2⟩)) | _=>none
noncomputable def Nrd:Env:=Nrn.addL 88 crd
theorem b68:j7 Nrd:=b5f.addL Tryz.call88 fun (args:List (SV U)) (q:Q1 U) (h:crd args=some q) ho=>by
 unfold crd at h
 split at h
 . rename_i d0 d1 d2
   cases h
   exact q8 (an:=d8f 88) b5f (j6 b5f o9 d8f 2) Tryz.func88 (k:=.int .i64) (x:=ydS (⟨d0,d1,d2⟩:Dy)) trivial (kc (prd (⟨d0,d1,d2⟩) ) (by kernel_rfl)) 0
 . cases h
def d7i:Nat->Ann:=fun | 109=>⟨8,nn,nn⟩ | _=>⟨0,nn,nn⟩
def Vrf (y:Int) (Q:Int->Prop):Prop :=
(y=0->Q (-365:Int))/\(¬y=0->(1:Int)<=y/\y<=100000/\b9 (j4 y+1)/\Q (j4 y+1))
theorem prf (y:Int) (y0:0<=y) (y1:y<=10000):Vrf y (fun y0=>y0=j4 y+1):=by
 unfold Vrf
 obtain ⟨a0,a1⟩:=C3 y0 y1
 refine ⟨fun h=>by subst h; decide,fun h=>⟨by omega,by omega,⟨by omega,by omega⟩,rfl⟩⟩
def crf (a:List (SV U)):Option (Q1 U):=match a with | [.int .i64 y]=>some ⟨[0<=y,y<=10000],[],.int .i64 (j4 y+1)⟩ | _=>none
noncomputable def Nrf:Env:=Nrd.addL 109 crf
theorem b7f:j7 Nrf:=b68.addL Tryz.call109 fun (args:List (SV U)) (q:Q1 U) (h:crf args=some q) ho=>by
 unfold crf at h
 split at h
 . rename_i y
   cases h
   exact q8 (an:=d7i 109) b68 (j6 b68 o9 d7i 2) Tryz.func109 (k:=.int .i64) (x:=j4 y+1) trivial (kc (prf y ho.1 ho.2.1) (by kernel_rfl)) 0
 . cases h
def d9r:Nat->Ann:=fun | 43=>⟨49,fun | 7=>some ⟨[2,3,4],[.own 4 [(.int .i64),(.int .i64),(.int .i64)]]⟩ | 4=>some ⟨[0,2],[.slot 3 (.int .i64)]⟩ | _=>none,nn⟩ | _=>⟨0,nn,nn⟩
def Vro (n:Int) (Q:Dy->Prop):Prop :=
(n<1 ∨ (3652059:Int)<n->Q (Dy.mk (0:Int) (0:Int) (0:Int)))/\(¬(n<1 ∨ (3652059:Int)<n)->b9 (n-1)/\(366:Int)≠0/\b9 ((n-1).tdiv (366:Int))/\b9 ((1:Int)+(n-1).tdiv (366:Int))/\∃ (I:Int->Prop),∃ (m:Int->Nat),I ((1:Int)+(n-1).tdiv (366:Int))/\∀ (x:Int),I x->b9 (x+1)/\(1:Int)<=x+1/\x+1<=100000/\(j4 (x+1)<n->b9 (x+1)/\I (x+1)/\m (x+1)<m x)/\(¬j4 (x+1)<n->(1:Int)<=x/\x<=100000/\b9 (n-j4 x)/\∃ (I:Int->Int->Int->Prop),∃ (m:Int->Int->Int->Nat),I x (1:Int) (n-j4 x)/\∀ (x_1 x_2 x_3:Int),I x_1 x_2 x_3->(u9 x x_2<x_3->b9 (x_3-u9 x x_2)/\b9 (x_2+1)/\I x_1 (x_2+1) (x_3-u9 x x_2)/\m x_1 (x_2+1) (x_3-u9 x x_2)<m x_1 x_2 x_3)/\(¬u9 x x_2<x_3->Q (Dy.mk x_1 x_2 x_3))))
set_option maxHeartbeats 2000000 in
theorem pro (n:Int)  : Vro n (fun y0=>y0=ofS n):=by
 unfold Vro
 refine ⟨fun h=>by unfold ofS; rw [if_pos h],fun h=>?_⟩
 have t:(n-1).tdiv 366=(n-1) / 366:=Int.tdiv_eq_ediv_of_nonneg (by omega)
 rw [t]
 have h366:=c25 (y:=1+(n-1) / 366) (by omega)
 refine ⟨⟨by omega,by omega⟩,by decide,⟨by omega,by omega⟩,⟨by omega,by omega⟩,fun y=>1<=y/\y<=9999/\j4 y<n,fun y=>(10000-y).toNat,⟨by omega,by omega,by omega⟩,?_⟩
 rintro y ⟨y0,y1,hy⟩
 obtain ⟨a0,a1⟩:=C3 (y:=y) (by omega) (by omega)
 have e4:j4 10000=3652059:=by decide
 refine ⟨⟨by omega,by omega⟩,by omega,by omega,fun h2=>⟨⟨by omega,by omega⟩,⟨by omega,?_,h2⟩,by dsimp only; omega⟩,fun h2=>⟨y0,by omega,⟨by omega,by omega⟩,fun y' m t=>y'=y/\1<=m/\m<=12/\t=n-j4 y-F9 y m/\1<=t,fun _ m _=>(13-m).toNat,⟨rfl,Int.le_refl 1,by decide,by rw [d1b]; omega,by omega⟩,?_⟩⟩
 . by_cases e:y=9999
   . subst e
     have e5:j4 (9999+1)=3652059:=by decide
     omega
   . omega
 rintro y' m t ⟨rfl,m0,m1,ht,t0⟩
 have hs:=b3z y'
 have hg:=a4s y0 y1 m0 m1
 obtain ⟨c0,c1⟩:=b08 y' m
 refine ⟨fun h3=>?_,fun h3=>?_⟩
 . by_cases e:m=12
   . subst e
     rcases a2s y0 y1 m0 m1 with e2 | ⟨_,e2⟩
     . unfold F9 at e2; simp at e2; omega
     . omega
   . have hc:=a80 (y:=y') m0 (by omega) y0 y1 (by omega)
     exact ⟨⟨by omega,by omega⟩,⟨by omega,by omega⟩,⟨rfl,by omega,by omega,by omega,by omega⟩,by dsimp only; omega⟩
 . refine of_eq (d:=⟨y',m,t⟩) ⟨t0,show t<=u9 y' m by omega⟩ ?_ (by omega) (by omega)
   show j4 y'+F9 y' m+t=n
   omega
def cro (a:List (SV U)):Option (Q1 U):=match a with | [.int .i64 n]=>some ⟨[],[],.agg [.int .i64 (ofS n).Year,.int .i64 (ofS n).Month,.int .i64 (ofS n).Date]⟩ | _=>none
noncomputable def Nro:Env:=Nrf.addL 43 cro
theorem d5o:j7 Nro:=b7f.addL Tryz.call43 fun (args:List (SV U)) (q:Q1 U) (h:cro args=some q) ho=>by
 unfold cro at h
 split at h
 . rename_i n
   cases h
   exact q8 (an:=d9r 43) b7f (j6 b7f o9 d9r 2) Tryz.func43 (k:=.val 23) (x:=ofS n) ⟨_,_,rfl,rfl,rfl⟩ (kc (pro n ) (by kernel_rfl)) 0
 . cases h
noncomputable def d1e:Env:=Nro.addI 108 Tryz.f108
theorem a5i:j7 d1e:=d5o.addI Tryz.call108 Tryz.func108
def d9s:Nat->Ann:=fun | 89=>⟨48,nn,nn⟩ | 108=>⟨14,nn,nn⟩ | _=>⟨0,nn,nn⟩
def Vrk (n:Int) (f:Int) (Q:Int->Int->Prop):Prop :=
(((n<1 ∨ (3652059:Int)<n) ∨ f<0) ∨ (6:Int)<f->Q (0:Int) (0:Int))/\(¬(((n<1 ∨ (3652059:Int)<n) ∨ f<0) ∨ (6:Int)<f)->b9 (wdS n-f)/\b9 (wdS n-f+7)/\(7:Int)≠0/\b9 (n-(wdS n-f+7).tmod (7:Int))/\b9 (n-(wdS n-f+7).tmod (7:Int)+3)/\(0:Int)<=(ofS n).Year/\(ofS n).Year<=10000/\(n-(wdS n-f+7).tmod (7:Int)+3<j4 (ofS n).Year+1->b9 ((ofS n).Year-1)/\b9 ((ofS n).Year-1+1)/\(0:Int)<=(ofS n).Year-1+1/\(ofS n).Year-1+1<=10000/\(j4 ((ofS n).Year-1+1)+1<=n-(wdS n-f+7).tmod (7:Int)+3->b9 ((ofS n).Year-1+1)/\(0:Int)<=(ofS n).Year-1+1/\(ofS n).Year-1+1<=10000/\b9 (n-(wdS n-f+7).tmod (7:Int)+3-(j4 ((ofS n).Year-1+1)+1))/\(7:Int)≠0/\b9 ((n-(wdS n-f+7).tmod (7:Int)+3-(j4 ((ofS n).Year-1+1)+1)).tdiv (7:Int))/\b9 ((n-(wdS n-f+7).tmod (7:Int)+3-(j4 ((ofS n).Year-1+1)+1)).tdiv (7:Int)+1)/\Q ((ofS n).Year-1+1) ((n-(wdS n-f+7).tmod (7:Int)+3-(j4 ((ofS n).Year-1+1)+1)).tdiv (7:Int)+1))/\(¬j4 ((ofS n).Year-1+1)+1<=n-(wdS n-f+7).tmod (7:Int)+3->(0:Int)<=(ofS n).Year-1/\(ofS n).Year-1<=10000/\b9 (n-(wdS n-f+7).tmod (7:Int)+3-(j4 ((ofS n).Year-1)+1))/\(7:Int)≠0/\b9 ((n-(wdS n-f+7).tmod (7:Int)+3-(j4 ((ofS n).Year-1)+1)).tdiv (7:Int))/\b9 ((n-(wdS n-f+7).tmod (7:Int)+3-(j4 ((ofS n).Year-1)+1)).tdiv (7:Int)+1)/\Q ((ofS n).Year-1) ((n-(wdS n-f+7).tmod (7:Int)+3-(j4 ((ofS n).Year-1)+1)).tdiv (7:Int)+1)))/\(¬n-(wdS n-f+7).tmod (7:Int)+3<j4 (ofS n).Year+1->b9 ((ofS n).Year+1)/\(0:Int)<=(ofS n).Year+1/\(ofS n).Year+1<=10000/\(j4 ((ofS n).Year+1)+1<=n-(wdS n-f+7).tmod (7:Int)+3->b9 ((ofS n).Year+1)/\(0:Int)<=(ofS n).Year+1/\(ofS n).Year+1<=10000/\b9 (n-(wdS n-f+7).tmod (7:Int)+3-(j4 ((ofS n).Year+1)+1))/\(7:Int)≠0/\b9 ((n-(wdS n-f+7).tmod (7:Int)+3-(j4 ((ofS n).Year+1)+1)).tdiv (7:Int))/\b9 ((n-(wdS n-f+7).tmod (7:Int)+3-(j4 ((ofS n).Year+1)+1)).tdiv (7:Int)+1)/\Q ((ofS n).Year+1) ((n-(wdS n-f+7).tmod (7:Int)+3-(j4 ((ofS n).Year+1)+1)).tdiv (7:Int)+1))/\(¬j4 ((ofS n).Year+1)+1<=n-(wdS n-f+7).tmod (7:Int)+3->(0:Int)<=(ofS n).Year/\(ofS n).Year<=10000/\b9 (n-(wdS n-f+7).tmod (7:Int)+3-(j4 (ofS n).Year+1))/\(7:Int)≠0/\b9 ((n-(wdS n-f+7).tmod (7:Int)+3-(j4 (ofS n).Year+1)).tdiv (7:Int))/\b9 ((n-(wdS n-f+7).tmod (7:Int)+3-(j4 (ofS n).Year+1)).tdiv (7:Int)+1)/\Q (ofS n).Year ((n-(wdS n-f+7).tmod (7:Int)+3-(j4 (ofS n).Year+1)).tdiv (7:Int)+1))))
set_option maxHeartbeats 2000000 in
theorem prk (n:Int) (f:Int)  : Vrk n f (fun y0 y1=>y0=(w8 n f).1/\y1=(w8 n f).2):=by
 unfold Vrk w8
 refine ⟨fun h=>by rw [if_pos h]; exact ⟨rfl,rfl⟩,fun h=>?_⟩
 rw [if_neg h]
 obtain ⟨hr,hn⟩:=Q5 (n:=n) (by omega) (by omega)
 obtain ⟨y0,y1,_⟩:=hr.ym
 have hi:=K9 hr
 rw [hn] at hi
 unfold wkY
 generalize (ofS n).Year=y at *
 have f0:0<=f:=by omega
 have f1:f<=6:=by omega
 obtain ⟨u1,v1⟩:=a9n n (y+1) f0 f1
 obtain ⟨u2,v2⟩:=a9n n y f0 f1
 obtain ⟨u3,v3⟩:=a9n n (y-1) f0 f1
 obtain ⟨q0,q1⟩:=N1 (y+1) f
 obtain ⟨q2,q3⟩:=N1 y f
 obtain ⟨q4,q5⟩:=N1 (y-1) f
 obtain ⟨r0,r1⟩:=C3 (y:=y+1) (by omega) (by omega)
 obtain ⟨r2,r3⟩:=C3 (y:=y) (by omega) (by omega)
 obtain ⟨r4,r5⟩:=C3 (y:=y-1) (by omega) (by omega)
 have hs:=I7 (y-1)
 have hs3:=I7 y
 have ey:y-1+1=y:=by omega
 rw [ey] at hs ⊢
 have hs2:j4 (y-1)+365<=j4 y:=by split at hs <;> omega
 have hs4:j4 y+365<=j4 (y+1):=by split at hs3 <;> omega
 have w0:0<=wdS n/\wdS n<=6:=by unfold wdS; omega
 have tt:(wdS n-f+7).tmod 7=(wdS n-f+7) % 7:=Int.tmod_eq_emod_of_nonneg (by omega)
 rw [tt]
 have hm:0<=(wdS n-f+7) % 7/\(wdS n-f+7) % 7<=6:=by omega
 generalize (wdS n-f+7) % 7=r at *
 refine ⟨⟨by omega,by omega⟩,⟨by omega,by omega⟩,by decide,⟨by omega,by omega⟩,⟨by omega,by omega⟩,by omega,by omega,fun h1=>?_,fun h1=>?_⟩
 . refine ⟨⟨by omega,by omega⟩,⟨by omega,by omega⟩,by omega,by omega,fun h2=>absurd h2 (by omega),fun _=>?_⟩
   have c1:¬ z8 (y+1) f<=n:=by omega
   have c2:n<z8 y f:=by omega
   have c3:z8 (y-1) f<=n:=by omega
   have t:(n-r+3-(j4 (y-1)+1)).tdiv 7=(n-r+3-(j4 (y-1)+1)) / 7:=Int.tdiv_eq_ediv_of_nonneg (by omega)
   rw [if_neg c1,if_pos c2,t,v3 c3]
   exact ⟨by omega,by omega,⟨by omega,by omega⟩,by decide,⟨by omega,by omega⟩,⟨by omega,by omega⟩,rfl,rfl⟩
 . refine ⟨⟨by omega,by omega⟩,by omega,by omega,fun h2=>?_,fun h2=>?_⟩
   . have c1:z8 (y+1) f<=n:=by omega
     have t:(n-r+3-(j4 (y+1)+1)).tdiv 7=(n-r+3-(j4 (y+1)+1)) / 7:=Int.tdiv_eq_ediv_of_nonneg (by omega)
     rw [if_pos c1,t,v1 c1]
     exact ⟨⟨by omega,by omega⟩,by omega,by omega,⟨by omega,by omega⟩,by decide,⟨by omega,by omega⟩,⟨by omega,by omega⟩,rfl,rfl⟩
   . have c1:¬ z8 (y+1) f<=n:=by omega
     have c2:¬ n<z8 y f:=by omega
     have t:(n-r+3-(j4 y+1)).tdiv 7=(n-r+3-(j4 y+1)) / 7:=Int.tdiv_eq_ediv_of_nonneg (by omega)
     rw [if_neg c1,if_neg c2,t,v2 (by omega)]
     exact ⟨by omega,by omega,⟨by omega,by omega⟩,by decide,⟨by omega,by omega⟩,⟨by omega,by omega⟩,rfl,rfl⟩
def crk (a:List (SV U)):Option (Q1 U):=match a with | [.int .i64 n,.int .i64 f]=>some ⟨[],[],.tup [.int .i64 ((w8 n f).1),.int .i64 ((w8 n f).2)]⟩ | _=>none
noncomputable def Nrk:Env:=d1e.addL 89 crk
theorem b4g:j7 Nrk:=a5i.addL Tryz.call89 fun (args:List (SV U)) (q:Q1 U) (h:crk args=some q) ho=>by
 unfold crk at h
 split at h
 . rename_i n f
   cases h
   exact d1w (an:=d9s 89) a5i (j6 a5i o9 d9s 2) Tryz.func89 (k1:=.int .i64) (k2:=.int .i64) (x1:=(w8 n f).1) (x2:=(w8 n f).2) trivial trivial (kc (prk n f ) (by kernel_rfl)) 0
 . cases h
def d9l:Nat->Ann:=fun | 90=>⟨40,fun | 5=>some ⟨[0,1],[.slot 5 (.int .i64),.slot 6 (.int .i64)]⟩ | _=>none,nn⟩ | _=>⟨0,nn,nn⟩
def Vrm (y:Int) (f:Int) (Q:Int->Prop):Prop :=
(((y<1 ∨ (9999:Int)<y) ∨ f<0) ∨ (6:Int)<f->Q (0:Int))/\(¬(((y<1 ∨ (9999:Int)<y) ∨ f<0) ∨ (6:Int)<f)->(0:Int)<=y/\y<=10000/\∃ (I:Int->Int->Prop),∃ (m:Int->Int->Nat),I (0:Int) (j4 y+1)/\∀ (x x_1:Int),I x x_1->b9 (y+1)/\(0:Int)<=y+1/\y+1<=10000/\(x_1<j4 (y+1)+1->b9 (wdS x_1-f)/\b9 (wdS x_1-f+7)/\(7:Int)≠0/\((wdS x_1-f+7).tmod (7:Int)=3->b9 (x+1)/\b9 (x_1+1)/\I (x+1) (x_1+1)/\m (x+1) (x_1+1)<m x x_1)/\(¬(wdS x_1-f+7).tmod (7:Int)=3->b9 (x_1+1)/\I x (x_1+1)/\m x (x_1+1)<m x x_1))/\(¬x_1<j4 (y+1)+1->Q x))
set_option maxHeartbeats 2000000 in
theorem prm (y:Int) (f:Int)  : Vrm y f (fun y0=>y0=F3 y f):=by
 unfold Vrm F3
 refine ⟨fun h=>by rw [if_pos h],fun h=>?_⟩
 rw [if_neg h]
 have f0:0<=f:=by omega
 have f1:f<=6:=by omega
 obtain ⟨r0,r1⟩:=C3 (y:=y+1) (by omega) (by omega)
 obtain ⟨r2,r3⟩:=C3 (y:=y) (by omega) (by omega)
 obtain ⟨q2,q3⟩:=N1 y f
 obtain ⟨e1,e2⟩:=c0z y f0 f1
 have hm:=A2 (show y<=y+1 by omega)
 refine ⟨by omega,by omega,fun c x=>j4 y+1<=x/\x<=j4 (y+1)+1/\c=(x-z8 y f+3) / 7,fun _ x=>(j4 (y+1)+1-x).toNat,⟨Int.le_refl _,by omega,e2.symm⟩,?_⟩
 rintro c x ⟨x0,x1,hc⟩
 have hs:=b6f y x f0 f1
 have w0:0<=wdS x/\wdS x<=6:=by unfold wdS; omega
 have tt:(wdS x-f+7).tmod 7=(wdS x-f+7) % 7:=Int.tmod_eq_emod_of_nonneg (by omega)
 rw [tt]
 refine ⟨⟨by omega,by omega⟩,by omega,by omega,fun hx=>⟨⟨by omega,by omega⟩,⟨by omega,by omega⟩,by decide,fun h3=>?_,fun h3=>?_⟩,fun hx=>?_⟩
 . rw [if_pos h3] at hs
   exact ⟨⟨by omega,by omega⟩,⟨by omega,by omega⟩,⟨by omega,by omega,by omega⟩,by dsimp only; omega⟩
 . rw [if_neg h3] at hs
   exact ⟨⟨by omega,by omega⟩,⟨by omega,by omega,by omega⟩,by dsimp only; omega⟩
 . have e:x=j4 (y+1)+1:=by omega
   rw [hc,e,e1]
def crm (a:List (SV U)):Option (Q1 U):=match a with | [.int .i64 y,.int .i64 f]=>some ⟨[],[],.int .i64 (F3 y f)⟩ | _=>none
noncomputable def Nrm:Env:=Nrk.addL 90 crm
theorem d4h:j7 Nrm:=b4g.addL Tryz.call90 fun (args:List (SV U)) (q:Q1 U) (h:crm args=some q) ho=>by
 unfold crm at h
 split at h
 . rename_i y f
   cases h
   exact q8 (an:=d9l 90) b4g (j6 b4g o9 d9l 2) Tryz.func90 (k:=.int .i64) (x:=F3 y f) trivial (kc (prm y f ) (by kernel_rfl)) 0
 . cases h
noncomputable def d4b:Env:=Nrm.addI 41 Tryz.f41
theorem a9i:j7 d4b:=d4h.addI Tryz.call41 Tryz.func41
def e1e:Nat->Ann:=fun | 19=>⟨50,nn,nn⟩ | 41=>⟨12,nn,nn⟩ | _=>⟨0,nn,nn⟩
def Vtr (t:Tm) (Q:Bool->Prop):Prop :=
((0:Int)<=t.Hour/\t.Hour<=23->((0:Int)<=t.Min/\t.Min<=59->Q (decide ((G1 (Dy.mk t.Day.Year t.Day.Month t.Day.Date)=true/\(0:Int)<=t.Sec/\t.Sec<=59)/\(¬t.Bare=true ∨ ((t.Hour=0/\t.Min=0)/\t.Sec=0)/\¬t.UTC=true))))/\(¬((0:Int)<=t.Min/\t.Min<=59)->Q (decide ((G1 (Dy.mk t.Day.Year t.Day.Month t.Day.Date)=true/\False)/\(¬t.Bare=true ∨ ((t.Hour=0/\t.Min=0)/\t.Sec=0)/\¬t.UTC=true)))))/\(¬((0:Int)<=t.Hour/\t.Hour<=23)->Q (decide ((G1 (Dy.mk t.Day.Year t.Day.Month t.Day.Date)=true/\False)/\(¬t.Bare=true ∨ ((t.Hour=0/\t.Min=0)/\t.Sec=0)/\¬t.UTC=true))))
theorem ptr (t:Tm)  : Vtr t (fun y0=>y0=n7 t):=by
 unfold Vtr
 have e:(Dy.mk t.Day.Year t.Day.Month t.Day.Date)=t.Day:=rfl
 rw [e]
 have hb:(¬t.Bare=true ∨ ((t.Hour=0/\t.Min=0)/\t.Sec=0)/\¬t.UTC=true)↔¬ (t.Bare=true/\(((t.Hour≠0 ∨ t.Min≠0) ∨ t.Sec≠0) ∨ t.UTC=true)):=by
  by_cases b1:t.Bare=true <;> by_cases b2:t.UTC=true <;> simp [b1,b2] <;> omega
 refine ⟨fun hh=>⟨fun hm=>decide_eq_decide.2 ?_,fun hm=>decide_eq_decide.2 ?_⟩,fun hh=>decide_eq_decide.2 ?_⟩
 . rw [hb,F4]
   exact ⟨fun h=>⟨h.1.1,hh,hm,h.1.2,h.2⟩,fun h=>⟨⟨h.1,h.2.2.2.1⟩,h.2.2.2.2⟩⟩
 . exact ⟨fun h=>h.1.2.elim,fun h=>absurd h.2.2.1 hm⟩
 . exact ⟨fun h=>h.1.2.elim,fun h=>absurd h.2.1 hh⟩
noncomputable def e2z (t:Tm):Q1 U:=⟨[],[],blB (n7 t)⟩
noncomputable def ctr (a:List (SV U)):Option (Q1 U):=match a with | [.agg l_t]=>(y25.bk (.agg l_t)).bind fun t=>some (e2z t) | _=>none
noncomputable def Ntr:Env:=d4b.addL 19 ctr
theorem b4t:j7 Ntr:=a9i.addL Tryz.call19 fun (args:List (SV U)) (q:Q1 U) (h:ctr args=some q) ho=>by
 unfold ctr at h
 split at h
 . rename_i l_t
   obtain ⟨t,hb_t,h⟩:=Option.bind_eq_some_iff.1 h
   cases h
   refine A3.conv (E:=d4b) (args':=[.agg [.int .i64 t.Day.Year,.int .i64 t.Day.Month,.int .i64 t.Day.Date,.int .i64 t.Hour,.int .i64 t.Min,.int .i64 t.Sec,blB t.Bare,blB t.UTC]]) (q8 (an:=e1e 19) a9i (j6 a9i o9 e1e 2) Tryz.func19 (k:=.bool) trivial (kc (ptr t ) (by kernel_rfl)) 0) fun D w vs hr=>q9 [.agg l_t] [.agg [.int .i64 t.Day.Year,.int .i64 t.Day.Month,.int .i64 t.Day.Date,.int .i64 t.Hour,.int .i64 t.Min,.int .i64 t.Sec,blB t.Bare,blB t.UTC]] _ ⟨fun _ h=>o7 hb_t h,trivial⟩ hr
 . cases h
def e0y:Nat->Ann:=fun | 17=>⟨22,nn,nn⟩ | _=>⟨0,nn,nn⟩
def Vts (t:Tm) (Q:Int->Prop):Prop :=
(¬n7 (Tm.mk (Dy.mk t.Day.Year t.Day.Month t.Day.Date) t.Hour t.Min t.Sec (decide (t.Bare=true)) (decide (t.UTC=true)))=true->Q (-1:Int))/\(¬¬n7 (Tm.mk (Dy.mk t.Day.Year t.Day.Month t.Day.Date) t.Hour t.Min t.Sec (decide (t.Bare=true)) (decide (t.UTC=true)))=true->b9 (j9 (Dy.mk t.Day.Year t.Day.Month t.Day.Date)-1)/\b9 ((86400:Int) * (j9 (Dy.mk t.Day.Year t.Day.Month t.Day.Date)-1))/\b9 ((3600:Int) * t.Hour)/\b9 ((86400:Int) * (j9 (Dy.mk t.Day.Year t.Day.Month t.Day.Date)-1)+3600 * t.Hour)/\b9 ((60:Int) * t.Min)/\b9 ((86400:Int) * (j9 (Dy.mk t.Day.Year t.Day.Month t.Day.Date)-1)+3600 * t.Hour+60 * t.Min)/\b9 ((86400:Int) * (j9 (Dy.mk t.Day.Year t.Day.Month t.Day.Date)-1)+3600 * t.Hour+60 * t.Min+t.Sec)/\Q ((86400:Int) * (j9 (Dy.mk t.Day.Year t.Day.Month t.Day.Date)-1)+3600 * t.Hour+60 * t.Min+t.Sec))
theorem pts (t:Tm)  : Vts t (fun y0=>y0=b8 t):=by
 unfold Vts b8
 simp only [Bool.decide_eq_true]
 refine ⟨fun h=>by rw [if_neg (fun hr=>h (u7.2 hr))],fun h=>?_⟩
 have hr:a09 t:=u7.1 (Classical.not_not.1 h)
 have hrg:=a1v hr
 rw [if_pos hr]
 obtain ⟨hd,hh,hm,hs,_⟩:=hr
 obtain ⟨n0,n1⟩:=H6 hd
 have en:j9 (Dy.mk t.Day.Year t.Day.Month t.Day.Date)=D7 t.Day:=by
  show j9 t.Day=D7 t.Day
  unfold j9; rw [if_pos hd]
 rw [en]
 unfold N4 at *
 exact ⟨⟨by omega,by omega⟩,⟨by omega,by omega⟩,⟨by omega,by omega⟩,⟨by omega,by omega⟩,⟨by omega,by omega⟩,⟨by omega,by omega⟩,⟨by omega,by omega⟩,by omega⟩
noncomputable def e27 (t:Tm):Q1 U:=⟨[],[],.int .i64 (b8 t)⟩
noncomputable def cts (a:List (SV U)):Option (Q1 U):=match a with | [.agg l_t]=>(y25.bk (.agg l_t)).bind fun t=>some (e27 t) | _=>none
noncomputable def Nts:Env:=Ntr.addL 17 cts
theorem b7r:j7 Nts:=b4t.addL Tryz.call17 fun (args:List (SV U)) (q:Q1 U) (h:cts args=some q) ho=>by
 unfold cts at h
 split at h
 . rename_i l_t
   obtain ⟨t,hb_t,h⟩:=Option.bind_eq_some_iff.1 h
   cases h
   refine A3.conv (E:=Ntr) (args':=[.agg [.int .i64 t.Day.Year,.int .i64 t.Day.Month,.int .i64 t.Day.Date,.int .i64 t.Hour,.int .i64 t.Min,.int .i64 t.Sec,blB t.Bare,blB t.UTC]]) (q8 (an:=e0y 17) b4t (j6 b4t o9 e0y 2) Tryz.func17 (k:=.int .i64) trivial (kc (pts t ) (by kernel_rfl)) 0) fun D w vs hr=>q9 [.agg l_t] [.agg [.int .i64 t.Day.Year,.int .i64 t.Day.Month,.int .i64 t.Day.Date,.int .i64 t.Hour,.int .i64 t.Min,.int .i64 t.Sec,blB t.Bare,blB t.UTC]] _ ⟨fun _ h=>o7 hb_t h,trivial⟩ hr
 . cases h
def d8h:Nat->Ann:=fun | 20=>⟨35,nn,nn⟩ | _=>⟨0,nn,nn⟩
def Vta (n:Int) (t:Tm) (Q:Tm->Prop):Prop :=
(n<0 ∨ (315537897600:Int)<=n->Q (Tm.mk (Dy.mk (0:Int) (0:Int) (0:Int)) (0:Int) (0:Int) (0:Int) false false))/\(¬(n<0 ∨ (315537897600:Int)<=n)->((86400:Int)≠0/\b9 (n.tdiv (86400:Int)))/\b9 (n.tdiv (86400:Int)+1)/\(86400:Int)≠0/\((3600:Int)≠0/\b9 ((n.tmod (86400:Int)).tdiv (3600:Int)))/\(3600:Int)≠0/\((60:Int)≠0/\b9 ((n.tmod (3600:Int)).tdiv (60:Int)))/\(60:Int)≠0/\(¬n7 (Tm.mk (Dy.mk (ofS (n.tdiv (86400:Int)+1)).Year (ofS (n.tdiv (86400:Int)+1)).Month (ofS (n.tdiv (86400:Int)+1)).Date) ((n.tmod (86400:Int)).tdiv (3600:Int)) ((n.tmod (3600:Int)).tdiv (60:Int)) (n.tmod (60:Int)) (decide (t.Bare=true)) (decide (t.UTC=true)))=true->Q (Tm.mk (Dy.mk (0:Int) (0:Int) (0:Int)) (0:Int) (0:Int) (0:Int) false false))/\(¬¬n7 (Tm.mk (Dy.mk (ofS (n.tdiv (86400:Int)+1)).Year (ofS (n.tdiv (86400:Int)+1)).Month (ofS (n.tdiv (86400:Int)+1)).Date) ((n.tmod (86400:Int)).tdiv (3600:Int)) ((n.tmod (3600:Int)).tdiv (60:Int)) (n.tmod (60:Int)) (decide (t.Bare=true)) (decide (t.UTC=true)))=true->Q (Tm.mk (Dy.mk (ofS (n.tdiv (86400:Int)+1)).Year (ofS (n.tdiv (86400:Int)+1)).Month (ofS (n.tdiv (86400:Int)+1)).Date) ((n.tmod (86400:Int)).tdiv (3600:Int)) ((n.tmod (3600:Int)).tdiv (60:Int)) (n.tmod (60:Int)) (decide (t.Bare=true)) (decide (t.UTC=true)))))
set_option maxHeartbeats 2000000 in
theorem pta (n:Int) (t:Tm)  : Vta n t (fun y0=>y0=atS n t):=by
 unfold Vta
 simp only [Bool.decide_eq_true]
 refine ⟨fun h=>?_,fun h=>?_⟩
 . unfold atS
   by_cases h0:n<0
   . rw [if_pos (.inl h0)]
   . rw [if_pos (.inr (.inr (by omega)))]
 . have e1:n.tdiv 86400=n / 86400:=Int.tdiv_eq_ediv_of_nonneg (by omega)
   have e2:n.tmod 86400=n % 86400:=Int.tmod_eq_emod_of_nonneg (by omega)
   have e3:(n % 86400).tdiv 3600=n % 86400 / 3600:=Int.tdiv_eq_ediv_of_nonneg (by omega)
   have e4:n.tmod 3600=n % 3600:=Int.tmod_eq_emod_of_nonneg (by omega)
   have e5:(n % 3600).tdiv 60=n % 86400 / 60 % 60:=by rw [Int.tdiv_eq_ediv_of_nonneg (by omega)]; omega
   have e6:n.tmod 60=n % 86400 % 60:=by rw [Int.tmod_eq_emod_of_nonneg (by omega)]; omega
   rw [e1,e2,e3,e4,e5,e6]
   have eD:(Dy.mk (ofS (n / 86400+1)).Year (ofS (n / 86400+1)).Month (ofS (n / 86400+1)).Date)=ofS (n / 86400+1):=rfl
   rw [eD]
   obtain ⟨hr,_⟩:=Q5 (n:=n / 86400+1) (by omega) (by omega)
   have hR:n7 ⟨ofS (n / 86400+1),n % 86400 / 3600,n % 86400 / 60 % 60,n % 86400 % 60,t.Bare,t.UTC⟩=true↔¬ (t.Bare=true/\(t.UTC=true ∨ n % 86400≠0)):=by
    rw [u7]
    constructor
    . rintro ⟨_,_,_,_,hb⟩ ⟨b1,b2⟩
      refine hb ⟨b1,?_⟩
      rcases b2 with b2 | b2
      . exact .inr b2
      . left
        show (n % 86400 / 3600≠0 ∨ n % 86400 / 60 % 60≠0) ∨ n % 86400 % 60≠0
        omega
    . intro hb
      refine ⟨hr,⟨by show 0<=n % 86400 / 3600; omega,by show n % 86400 / 3600<=23; omega⟩,⟨by show 0<=n % 86400 / 60 % 60; omega,by show n % 86400 / 60 % 60<=59; omega⟩,⟨by show 0<=n % 86400 % 60; omega,by show n % 86400 % 60<=59; omega⟩,?_⟩
      rintro ⟨b1,b2⟩
      refine hb ⟨b1,?_⟩
      rcases b2 with b2 | b2
      . right
        have b2:(n % 86400 / 3600≠0 ∨ n % 86400 / 60 % 60≠0) ∨ n % 86400 % 60≠0:=b2
        omega
      . exact .inl b2
   refine ⟨⟨by decide,by omega,by omega⟩,⟨by omega,by omega⟩,by decide,⟨by decide,by omega,by omega⟩,by decide,⟨by decide,by omega,by omega⟩,by decide,fun hn=>?_,fun hn=>?_⟩
   . unfold atS
     rw [if_pos (.inr (.inl (Classical.not_not.1 fun hc=>hn (hR.2 hc))))]
   . unfold atS
     rw [if_neg (by rintro (h' | h' | h')
                    . omega
                    . exact hR.1 (Classical.not_not.1 hn) h'
                    . omega)]
noncomputable def e2b (n:Int) (t:Tm):Q1 U:=⟨[],[],.agg [.int .i64 (atS n t).Day.Year,.int .i64 (atS n t).Day.Month,.int .i64 (atS n t).Day.Date,.int .i64 (atS n t).Hour,.int .i64 (atS n t).Min,.int .i64 (atS n t).Sec,blB (atS n t).Bare,blB (atS n t).UTC]⟩
noncomputable def cta (a:List (SV U)):Option (Q1 U):=match a with | [.int .i64 n,.agg l_t]=>(y25.bk (.agg l_t)).bind fun t=>some (e2b n t) | _=>none
noncomputable def Nta:Env:=Nts.addL 20 cta
theorem b5x:j7 Nta:=b7r.addL Tryz.call20 fun (args:List (SV U)) (q:Q1 U) (h:cta args=some q) ho=>by
 unfold cta at h
 split at h
 . rename_i n l_t
   obtain ⟨t,hb_t,h⟩:=Option.bind_eq_some_iff.1 h
   cases h
   refine A3.conv (E:=Nts) (args':=[.int .i64 n,.agg [.int .i64 t.Day.Year,.int .i64 t.Day.Month,.int .i64 t.Day.Date,.int .i64 t.Hour,.int .i64 t.Min,.int .i64 t.Sec,blB t.Bare,blB t.UTC]]) (q8 (an:=d8h 20) b7r (j6 b7r o9 d8h 2) Tryz.func20 (k:=.val 25) ⟨_,_,rfl,rfl,rfl⟩ (kc (pta n t ) (by kernel_rfl)) 0) fun D w vs hr=>q9 [.int .i64 n,.agg l_t] [.int .i64 n,.agg [.int .i64 t.Day.Year,.int .i64 t.Day.Month,.int .i64 t.Day.Date,.int .i64 t.Hour,.int .i64 t.Min,.int .i64 t.Sec,blB t.Bare,blB t.UTC]] _ ⟨fun _ h=>h,fun _ h=>o7 hb_t h,trivial⟩ hr
 . cases h
end Go.Proofs.YtdjfeninmbpflaaGreat
end
section
namespace Go.Re
open Go.Wl
def a15 (a b:Nt):Prop:=a.Day<b.Day ∨ a.Day=b.Day/\a.N<b.N
instance:∀ a b,Decidable (a15 a b):=fun _ _=>inferInstanceAs (Decidable (_ ∨ _))
def a68 (a b:Nt):Bool:=decide (a15 a b)
def E8 (l:List Int):Int:=if (l.length:Int)=0 then 1 else (l.length:Int)
def OkN (lo hi:Int) (b:Bool) (n:Int):Prop:=if (b=true/\n<0)/\-hi<=n then lo<=-n/\-n<=hi else lo<=n/\n<=hi
structure M5 (l:List Int) (lo hi:Int) (b:Bool):Prop where
 ok:∀ i:Int,0<=i->i<l.length->OkN lo hi b (ix l i)
 up:∀ i:Int,0<i->i<l.length->ix l (i-1)<ix l i
 few:(l.length:Int)<=24
open Classical in
noncomputable def l9 (l:List Int) (lo hi:Int) (b:Bool):Bool:=decide (M5 l lo hi b)
open Classical in
theorem a7j {l:List Int} {lo hi:Int} {b:Bool}:l9 l lo hi b=true↔M5 l lo hi b:=by
 unfold l9
 exact decide_eq_true_iff
theorem a4w {l:List Int} {lo hi:Int} {b:Bool} (h:¬ M5 l lo hi b):l9 l lo hi b=false:=by
 cases e:l9 l lo hi b with
 | true=>exact absurd (a7j.1 e) h
 | false=>rfl
theorem R6 {α:Type} [Inhabited α] {l:List α} {i:Int} (h0:0<=i) (h1:i<l.length):ix l i∈l:=by
 have h:i.toNat<l.length:=by omega
 rw [A8 h]
 exact List.getElem_mem h
def c6u (L:List Int):Bool:=L.all fun n=>decide (n<=60)
theorem c3c {L:List Int} (h:∀ j:Int,0<=j->j<L.length->ix L j<=60):c6u L=true:=List.all_eq_true.2 fun n hn=>by
 obtain ⟨k,hk,e⟩:=List.getElem_of_mem hn
 have:=h k (by omega) (by omega)
 rw [A8 (by omega)] at this
 have e:L[(k:Int).toNat]'(by omega)=n:=e
 rw [e] at this
 exact decide_eq_true this
theorem c8u {L:List Int} {j:Int} (h0:0<=j) (h1:j<L.length) (h:60<ix L j):c6u L=false:=by
 cases e:c6u L with
 | false=>rfl
 | true =>
  have:=of_decide_eq_true (List.all_eq_true.1 e _ (R6 h0 h1))
  omega
def w4 (r:Rl):Bool:=c6u [(r.Month.length:Int),r.WeekNo.length,r.YearDay.length,r.MonthDay.length,r.Days.length,r.Hour.length,r.Minute.length,r.Second.length,r.SetPos.length,r.Until.length]
end Go.Re
end
section
namespace Go.Proofs.YtdjfeninmbpflaaGreat
open Go Go.Wk Go.Wl Go.Rx Go.Re 
attribute [local irreducible] m7
def d9m:Nat->Ann:=fun | 76=>⟨24,nn,nn⟩ | _=>⟨0,nn,nn⟩
def Vql (a:Nt) (b:Nt) (Q:Bool->Prop):Prop :=
Q (decide (a.Day<b.Day ∨ a.Day=b.Day/\a.N<b.N))
theorem pql (a:Nt) (b:Nt)  : Vql a b (fun y0=>y0=a68 a b):=by
 unfold Vql
 rfl
def e25 (a:Nt) (b:Nt):Q1 U:=⟨[],[],blB (a68 a b)⟩
def cql (a:List (SV U)):Option (Q1 U):=match a with | [.agg [.int .i64 a0,.int .i64 a1],.agg [.int .i64 b0,.int .i64 b1]]=>some (e25 (⟨a0,a1⟩) (⟨b0,b1⟩)) | _=>none
noncomputable def Nql:Env:=Nta.addL 76 cql
theorem b6t:j7 Nql:=b5x.addL Tryz.call76 fun (args:List (SV U)) (q:Q1 U) (h:cql args=some q) ho=>by
 unfold cql at h
 split at h
 . rename_i a0 a1 b0 b1
   cases h
   exact q8 (an:=d9m 76) b5x (j6 b5x o9 d9m 2) Tryz.func76 (k:=.bool) (x:=a68 (⟨a0,a1⟩:Nt) (⟨b0,b1⟩:Nt)) trivial (kc (pql (⟨a0,a1⟩) (⟨b0,b1⟩) ) (by kernel_rfl)) 0
 . cases h
def d7f:Nat->Ann:=fun | 77=>⟨8,nn,nn⟩ | _=>⟨0,nn,nn⟩
def Vqg (l:List Int) (Q:Int->Prop):Prop :=
((↑l.length:Int)=0->Q (1:Int))/\(¬(↑l.length:Int)=0->Q (↑l.length:Int))
theorem pqg (l:List Int)  : Vqg l (fun y0=>y0=E8 l):=by
 unfold Vqg E8
 exact ⟨fun h=>by rw [if_pos h],fun h=>by rw [if_neg h]⟩
def cqg (a:List (SV U)):Option (Q1 U):=match a with | [.sl 3 l]=>some ⟨[],[],.int .i64 (E8 l)⟩ | _=>none
noncomputable def Nqg:Env:=Nql.addL 77 cqg
theorem b7o:j7 Nqg:=b6t.addL Tryz.call77 fun (args:List (SV U)) (q:Q1 U) (h:cqg args=some q) ho=>by
 unfold cqg at h
 split at h
 . rename_i l
   cases h
   exact q8 (an:=d7f 77) b6t (j6 b6t o9 d7f 2) Tryz.func77 (k:=.int .i64) (x:=E8 l) trivial (kc (pqg l ) (by kernel_rfl)) 0
 . cases h
def e0p:Nat->Ann:=fun | 75=>⟨56,fun | 2=>some ⟨[0,1,2,3],[.slot 9 (.int .i64)]⟩ | _=>none,nn⟩ | _=>⟨0,nn,nn⟩
def Vqr (l:List Int) (lo:Int) (hi:Int) (b:Bool) (Q:Bool->Prop):Prop :=
∃ (I:Int->Prop),∃ (m:Int->Nat),I (0:Int)/\∀ (x:Int),I x->(x<(↑l.length:Int)->(0:Int)<=x/\x<(↑l.length:Int)/\(b9 (ix l x)->((0:Int)<x->b9 (x-1))/\((0:Int)<x->(0:Int)<=x-1)/\((0:Int)<x->x-1<(↑l.length:Int))/\(((0:Int)<x->b9 (ix l (x-1)))->((0:Int)<x/\ix l x<=ix l (x-1)->Q false)/\(¬((0:Int)<x/\ix l x<=ix l (x-1))->(b=true/\ix l x<0->b9 ((0:Int)-hi))/\((b=true/\ix l x<0)/\(0:Int)-hi<=ix l x->b9 ((0:Int)-ix l x)/\((0:Int)-ix l x<lo ∨ hi<(0:Int)-ix l x->Q false)/\(¬((0:Int)-ix l x<lo ∨ hi<(0:Int)-ix l x)->b9 (x+1)/\I (x+1)/\m (x+1)<m x))/\(¬((b=true/\ix l x<0)/\(0:Int)-hi<=ix l x)->(ix l x<lo ∨ hi<ix l x->Q false)/\(¬(ix l x<lo ∨ hi<ix l x)->b9 (x+1)/\I (x+1)/\m (x+1)<m x))))))/\(¬x<(↑l.length:Int)->Q (decide ((↑l.length:Int)<=24)))
theorem pqr (l:List Int) (lo:Int) (hi:Int) (b:Bool) (l0:0<=lo) (l1:lo<=1000) (h0:0<=hi) (h1:hi<=1000) (hl:l.length<=1000000):Vqr l lo hi b (fun y0=>y0=l9 l lo hi b):=by
 unfold Vqr
 have z:∀ n:Int,0-n=-n:=fun n=>by omega
 simp only [z]
 refine ⟨fun x=>0<=x/\x<=l.length/\(∀ i:Int,0<=i->i<x->OkN lo hi b (ix l i))/\∀ i:Int,0<i->i<x->ix l (i-1)<ix l i,fun x=>((l.length:Int)-x).toNat,⟨Int.le_refl 0,by omega,fun i a b=>by omega,fun i a b=>by omega⟩,?_⟩
 rintro x ⟨x0,x1,hk,hu⟩
 refine ⟨fun hx=>⟨x0,hx,fun hi=>⟨fun _=>⟨by omega,by omega⟩,fun _=>by omega,fun _=>by omega,fun _=>⟨fun h=>?_,fun h=>⟨fun _=>⟨by omega,by omega⟩,fun hn=>⟨⟨by omega,by omega⟩,fun h2=>?_,fun h2=>?_⟩,fun hn=>⟨fun h2=>?_,fun h2=>?_⟩⟩⟩⟩⟩,fun hx=>?_⟩
 . exact (a4w fun hr=>by have:=hr.up x h.1 hx; omega).symm
 . exact (a4w fun hr=>by
     have:=hr.ok x x0 hx
     unfold OkN at this
     rw [if_pos hn] at this
     omega).symm
 . refine ⟨⟨by omega,by omega⟩,⟨by omega,by omega,fun i i0 i1=>?_,fun i i0 i1=>?_⟩,by dsimp only; omega⟩
   . by_cases e:i=x
     . subst e; unfold OkN; rw [if_pos hn]; omega
     . exact hk i i0 (by omega)
   . by_cases e:i=x
     . subst e; omega
     . exact hu i i0 (by omega)
 . exact (a4w fun hr=>by
     have:=hr.ok x x0 hx
     unfold OkN at this
     rw [if_neg hn] at this
     omega).symm
 . refine ⟨⟨by omega,by omega⟩,⟨by omega,by omega,fun i i0 i1=>?_,fun i i0 i1=>?_⟩,by dsimp only; omega⟩
   . by_cases e:i=x
     . subst e; unfold OkN; rw [if_neg hn]; omega
     . exact hk i i0 (by omega)
   . by_cases e:i=x
     . subst e; omega
     . exact hu i i0 (by omega)
 . by_cases h24:(l.length:Int)<=24
   . rw [decide_eq_true h24]
     exact (a7j.2 ⟨fun i a b=>hk i a (by omega),fun i a b=>hu i a (by omega),h24⟩).symm
   . rw [decide_eq_false h24]
     exact (a4w fun hr=>h24 hr.few).symm
noncomputable def e2e (l:List Int) (lo:Int) (hi:Int) (b:Bool):Q1 U:=⟨[0<=lo,lo<=1000,0<=hi,hi<=1000,List.length (α:=Int) l<=1000000],[],blB (l9 l lo hi b)⟩
noncomputable def cqr (a:List (SV U)):Option (Q1 U):=match a with | [.sl 3 l,.int .i64 lo,.int .i64 hi,x_b]=>(b0b x_b).bind fun b=>some (e2e l lo hi b) | _=>none
noncomputable def Nqr:Env:=Nqg.addL 75 cqr
theorem b4r:j7 Nqr:=b7o.addL Tryz.call75 fun (args:List (SV U)) (q:Q1 U) (h:cqr args=some q) ho=>by
 unfold cqr at h
 split at h
 . rename_i l lo hi x_b
   obtain ⟨b,hb_b,h⟩:=Option.bind_eq_some_iff.1 h
   cases h
   refine A3.conv (E:=Nqg) (args':=[.sl 3 l,.int .i64 lo,.int .i64 hi,blB b]) (q8 (an:=e0p 75) b7o (j6 b7o o9 e0p 2) Tryz.func75 (k:=.bool) trivial (kc (pqr l lo hi b ho.1 ho.2.1 ho.2.2.1 ho.2.2.2.1 ho.2.2.2.2.1) (by kernel_rfl)) 0) fun D w vs hr=>q9 [.sl 3 l,.int .i64 lo,.int .i64 hi,x_b] [.sl (N:=U) 3 l,.int .i64 lo,.int .i64 hi,blB b] _ ⟨fun _ h=>h,fun _ h=>h,fun _ h=>h,fun _ h=>a18 (E:=Nqg) hb_b h,trivial⟩ hr
 . cases h
def d7z:Nat->Ann:=fun | 10=>⟨44,fun | 2=>some ⟨[35,36],[.slot 37 (.int .i64)]⟩ | _=>none,nn⟩ | _=>⟨0,nn,nn⟩
def Vqf (r:Rl) (Q:Bool->Prop):Prop :=
∃ (I:Int->Prop),∃ (m:Int->Nat),I (0:Int)/\∀ (x:Int),I x->(x<(↑[(↑r.Month.length:Int),(↑r.WeekNo.length:Int),(↑r.YearDay.length:Int),(↑r.MonthDay.length:Int),(↑r.Days.length:Int),(↑r.Hour.length:Int),(↑r.Minute.length:Int),(↑r.Second.length:Int),(↑r.SetPos.length:Int),(↑r.Until.length:Int)].length:Int)->(0:Int)<=x/\x<(↑[(↑r.Month.length:Int),(↑r.WeekNo.length:Int),(↑r.YearDay.length:Int),(↑r.MonthDay.length:Int),(↑r.Days.length:Int),(↑r.Hour.length:Int),(↑r.Minute.length:Int),(↑r.Second.length:Int),(↑r.SetPos.length:Int),(↑r.Until.length:Int)].length:Int)/\(b9 (ix [(↑r.Month.length:Int),(↑r.WeekNo.length:Int),(↑r.YearDay.length:Int),(↑r.MonthDay.length:Int),(↑r.Days.length:Int),(↑r.Hour.length:Int),(↑r.Minute.length:Int),(↑r.Second.length:Int),(↑r.SetPos.length:Int),(↑r.Until.length:Int)] x)->((60:Int)<ix [(↑r.Month.length:Int),(↑r.WeekNo.length:Int),(↑r.YearDay.length:Int),(↑r.MonthDay.length:Int),(↑r.Days.length:Int),(↑r.Hour.length:Int),(↑r.Minute.length:Int),(↑r.Second.length:Int),(↑r.SetPos.length:Int),(↑r.Until.length:Int)] x->Q false)/\(¬(60:Int)<ix [(↑r.Month.length:Int),(↑r.WeekNo.length:Int),(↑r.YearDay.length:Int),(↑r.MonthDay.length:Int),(↑r.Days.length:Int),(↑r.Hour.length:Int),(↑r.Minute.length:Int),(↑r.Second.length:Int),(↑r.SetPos.length:Int),(↑r.Until.length:Int)] x->b9 (x+1)/\I (x+1)/\m (x+1)<m x)))/\(¬x<(↑[(↑r.Month.length:Int),(↑r.WeekNo.length:Int),(↑r.YearDay.length:Int),(↑r.MonthDay.length:Int),(↑r.Days.length:Int),(↑r.Hour.length:Int),(↑r.Minute.length:Int),(↑r.Second.length:Int),(↑r.SetPos.length:Int),(↑r.Until.length:Int)].length:Int)->Q true)
theorem pqf (r:Rl)  : Vqf r (fun y0=>y0=w4 r):=by
 unfold Vqf w4
 generalize hL:([(r.Month.length:Int),r.WeekNo.length,r.YearDay.length,r.MonthDay.length,r.Days.length,r.Hour.length,r.Minute.length,r.Second.length,r.SetPos.length,r.Until.length]:List Int)=L
 have hl:L.length=10:=by rw [<- hL]; rfl
 refine ⟨fun x=>0<=x/\∀ j:Int,0<=j->j<x->ix L j<=60,fun x=>((L.length:Int)-x).toNat,⟨Int.le_refl 0,fun j a b=>by omega⟩,?_⟩
 rintro x ⟨x0,hx⟩
 refine ⟨fun h=>⟨x0,h,fun hi=>⟨fun h60=>(c8u x0 h h60).symm,fun h60=>⟨⟨by omega,by omega⟩,⟨by omega,fun j a b=>?_⟩,by dsimp only; omega⟩⟩⟩,fun h=>(c3c fun j a b=>hx j a (by omega)).symm⟩
 by_cases e:j=x
 . subst e; omega
 . exact hx j a (by omega)
noncomputable def e33 (r:Rl):Q1 U:=⟨[],[],blB (w4 r)⟩
noncomputable def cqf (a:List (SV U)):Option (Q1 U):=match a with | [.agg l_r]=>(y30.bk (.agg l_r)).bind fun r=>some (e33 r) | _=>none
noncomputable def Nqf:Env:=Nqr.addL 10 cqf
theorem b5n:j7 Nqf:=b4r.addL Tryz.call10 fun (args:List (SV U)) (q:Q1 U) (h:cqf args=some q) ho=>by
 unfold cqf at h
 split at h
 . rename_i l_r
   obtain ⟨r,hb_r,h⟩:=Option.bind_eq_some_iff.1 h
   cases h
   refine A3.conv (E:=Nqr) (args':=[.agg [.int .i64 r.Freq,.int .i64 r.Interval,.int .i64 r.Count,.sl 25 r.Until,.sl 3 r.Month,.sl 3 r.WeekNo,.sl 3 r.YearDay,.sl 3 r.MonthDay,.sl 60 r.Days,.sl 3 r.Hour,.sl 3 r.Minute,.sl 3 r.Second,.sl 3 r.SetPos,.int .i64 r.Wkst]]) (q8 (an:=d7z 10) b4r (j6 b4r o9 d7z 2) Tryz.func10 (k:=.bool) trivial (kc (pqf r ) (by kernel_rfl)) 0) fun D w vs hr=>q9 [.agg l_r] [.agg [.int .i64 r.Freq,.int .i64 r.Interval,.int .i64 r.Count,.sl (N:=U) 25 r.Until,.sl (N:=U) 3 r.Month,.sl (N:=U) 3 r.WeekNo,.sl (N:=U) 3 r.YearDay,.sl (N:=U) 3 r.MonthDay,.sl (N:=U) 60 r.Days,.sl (N:=U) 3 r.Hour,.sl (N:=U) 3 r.Minute,.sl (N:=U) 3 r.Second,.sl (N:=U) 3 r.SetPos,.int .i64 r.Wkst]] _ ⟨fun _ h=>s9 hb_r h,trivial⟩ hr
 . cases h
end Go.Proofs.YtdjfeninmbpflaaGreat
end
section
namespace Go.Re
open Go.Wl
open Go.Rx (b9)
def D3 (r:Rl):Int:=if r.Freq=1 then 5 else if r.Freq=0/\(r.WeekNo.length:Int)=0 then 53 else 0
def c5c (m:Int) (d:Nt):Prop:=0<=d.Day/\d.Day<=6/\d.N<=m/\-m<=d.N
def b36 (r:Rl):Prop:=0<=r.Freq/\r.Freq<=6/\1<=r.Interval/\r.Interval<=9999/\0<=r.Count/\r.Count<=9999/\0<=r.Wkst/\r.Wkst<=6
def b5q (r:Rl):Prop:=(r.Until.length:Int)<=1/\((r.Until.length:Int)=1->r.Count<=0/\n7 (ix r.Until 0)=true)
structure b07 (r:Rl):Prop where
 mo:M5 r.Month 1 12 false
 wn:M5 r.WeekNo 1 53 true
 yd:M5 r.YearDay 1 366 true
 md:M5 r.MonthDay 1 31 true
 ho:M5 r.Hour 0 23 false
 mi:M5 r.Minute 0 59 false
 se:M5 r.Second 0 59 false
 sp:M5 r.SetPos 1 366 true
structure d2b (l:List Nt) (m:Int):Prop where
 ok:∀ i:Int,0<=i->i<l.length->c5c m (ix l i)
 up:∀ i:Int,0<i->i<l.length->a15 (ix l (i-1)) (ix l i)
def b2w (r:Rl):Prop:=¬ (((r.Freq≠0/\0<(r.WeekNo.length:Int)) ∨ ((1<=r.Freq/\r.Freq<=3)/\0<(r.YearDay.length:Int))) ∨ r.Freq=2/\0<(r.MonthDay.length:Int))
def c0a (r:Rl):Prop:=(0<(r.Month.length:Int)+r.WeekNo.length+r.YearDay.length+r.MonthDay.length+r.Days.length+r.Hour.length+r.Minute.length+r.Second.length ∨ (r.SetPos.length:Int)=0)/\E8 r.Hour * E8 r.Minute * E8 r.Second<=48
structure b67 (r:Rl):Prop where
 head:b36 r
 til:b5q r
 lists:b07 r
 few:(r.Days.length:Int)<=24
 days:d2b r.Days (D3 r)
 fit:b2w r
 some:c0a r
open Classical in
noncomputable def A6 (r:Rl):Bool:=decide (b67 r)
open Classical in
theorem m8 {r:Rl}:A6 r=true↔b67 r:=by
 unfold A6
 exact decide_eq_true_iff
theorem o6 {r:Rl} (h:¬ b67 r):A6 r=false:=by
 cases e:A6 r with
 | true=>exact absurd (m8.1 e) h
 | false=>rfl
theorem a8z {a b:Nt}:a68 a b=true↔a15 a b:=by unfold a68; exact decide_eq_true_iff
theorem c9d {L:List Int} (h:c6u L=true) {n:Int} (hn:n∈L):n<=60:=of_decide_eq_true (List.all_eq_true.1 h n hn)
structure e28 (r:Rl):Prop where
 mo:(r.Month.length:Int)<=60
 wn:(r.WeekNo.length:Int)<=60
 yd:(r.YearDay.length:Int)<=60
 md:(r.MonthDay.length:Int)<=60
 dy:(r.Days.length:Int)<=60
 ho:(r.Hour.length:Int)<=60
 mi:(r.Minute.length:Int)<=60
 se:(r.Second.length:Int)<=60
 sp:(r.SetPos.length:Int)<=60
 ti:(r.Until.length:Int)<=60
theorem Q8 {r:Rl} (h:w4 r=true):e28 r:=by
 unfold w4 at h
 constructor <;> exact c9d h (by simp)
theorem U6 {l:List Int}:(E8 l=1/\(l.length:Int)=0) ∨ (E8 l=(l.length:Int)/\1<=(l.length:Int)):=by
 unfold E8
 by_cases h:(l.length:Int)=0
 . rw [if_pos h]; omega
 . rw [if_neg h]; omega
theorem c4v {a b:Int} (h0:1<=a) (h1:a<=3600) (h2:1<=b) (h3:b<=60):1<=a * b/\a * b<=216000:=by
 constructor
 . have:=Int.mul_le_mul h0 h2 (by decide) (by omega); omega
 . have:=Int.mul_le_mul h1 h3 (by omega) (by decide); omega
theorem d1h {a b c:Int} (ha:1<=a/\a<=60) (hb:1<=b/\b<=60) (hc:1<=c/\c<=60):b9 (a * b)/\b9 (a * b * c):=by
 have h1:1<=a * b:=by have:=Int.mul_le_mul ha.1 hb.1 (by decide) (by omega); omega
 have h2:a * b<=3600:=by have:=Int.mul_le_mul ha.2 hb.2 (by omega) (by decide); omega
 have h3:=c4v h1 h2 hc.1 hc.2
 exact ⟨⟨by omega,by omega⟩,⟨by omega,by omega⟩⟩
structure O9 (l:List Nt) (m:Int) (x:Int):Prop where
 ok:∀ i:Int,0<=i->i<x->c5c m (ix l i)
 up:∀ i:Int,0<i->i<x->a15 (ix l (i-1)) (ix l i)
theorem O9.nil {l:List Nt} {m:Int}:O9 l m 0:=⟨fun i a b=>by omega,fun i a b=>by omega⟩
theorem O9.step {l:List Nt} {m x:Int} (h:O9 l m x) (h1:c5c m (ix l x)) (h2:0<x->a15 (ix l (x-1)) (ix l x)):O9 l m (x+1):=by
 constructor
 . intro i a b
   by_cases e:i=x
   . subst e; exact h1
   . exact h.ok i a (by omega)
 . intro i a b
   by_cases e:i=x
   . subst e; exact h2 a
   . exact h.up i a (by omega)
theorem O9.done {l:List Nt} {m x:Int} (h:O9 l m x) (hx:¬ x<l.length):d2b l m:=⟨fun i a b=>h.ok i a (by omega),fun i a b=>h.up i a (by omega)⟩
end Go.Re
end
section
namespace Go.Proofs.YtdjfeninmbpflaaGreat
open Go Go.Wk Go.Wl Go.Rx Go.Re 
attribute [local irreducible] m7
def e1i:Nat->Ann:=fun | 44=>⟨267,fun | 15=>some ⟨[1,3],[.slot 4 (.int .i64)]⟩ | _=>none,fun | 12=>some ⟨[1],[.slot 3 (.int .i64)]⟩ | 14=>some ⟨[1],[.slot 3 (.int .i64)]⟩ | _=>none⟩ | _=>⟨0,nn,nn⟩
def VqR (r:Rl) (Q:Bool->Prop):Prop :=
(((((((r.Freq<0 ∨ (6:Int)<r.Freq) ∨ r.Interval<1) ∨ (9999:Int)<r.Interval) ∨ r.Count<0) ∨ (9999:Int)<r.Count) ∨ r.Wkst<0) ∨ (6:Int)<r.Wkst->Q false)/\(¬(((((((r.Freq<0 ∨ (6:Int)<r.Freq) ∨ r.Interval<1) ∨ (9999:Int)<r.Interval) ∨ r.Count<0) ∨ (9999:Int)<r.Count) ∨ r.Wkst<0) ∨ (6:Int)<r.Wkst)->((¬(1:Int)<(↑r.Until.length:Int)/\(↑r.Until.length:Int)=1)/\¬(0:Int)<r.Count->(0:Int)<=0)/\((¬(1:Int)<(↑r.Until.length:Int)/\(↑r.Until.length:Int)=1)/\¬(0:Int)<r.Count->(0:Int)<(↑r.Until.length:Int))/\(((¬(1:Int)<(↑r.Until.length:Int)/\(↑r.Until.length:Int)=1)/\¬(0:Int)<r.Count->b9 (ix r.Until (0:Int)).Day.Year)->((¬(1:Int)<(↑r.Until.length:Int)/\(↑r.Until.length:Int)=1)/\¬(0:Int)<r.Count->b9 (ix r.Until (0:Int)).Day.Month)->((¬(1:Int)<(↑r.Until.length:Int)/\(↑r.Until.length:Int)=1)/\¬(0:Int)<r.Count->b9 (ix r.Until (0:Int)).Day.Date)->((¬(1:Int)<(↑r.Until.length:Int)/\(↑r.Until.length:Int)=1)/\¬(0:Int)<r.Count->b9 (ix r.Until (0:Int)).Hour)->((¬(1:Int)<(↑r.Until.length:Int)/\(↑r.Until.length:Int)=1)/\¬(0:Int)<r.Count->b9 (ix r.Until (0:Int)).Min)->((¬(1:Int)<(↑r.Until.length:Int)/\(↑r.Until.length:Int)=1)/\¬(0:Int)<r.Count->b9 (ix r.Until (0:Int)).Sec)->((1:Int)<(↑r.Until.length:Int) ∨ (↑r.Until.length:Int)=1/\((0:Int)<r.Count ∨ ¬n7 (Tm.mk (Dy.mk (ix r.Until (0:Int)).Day.Year (ix r.Until (0:Int)).Day.Month (ix r.Until (0:Int)).Day.Date) (ix r.Until (0:Int)).Hour (ix r.Until (0:Int)).Min (ix r.Until (0:Int)).Sec (decide ((ix r.Until (0:Int)).Bare=true)) (decide ((ix r.Until (0:Int)).UTC=true)))=true)->Q false)/\(¬((1:Int)<(↑r.Until.length:Int) ∨ (↑r.Until.length:Int)=1/\((0:Int)<r.Count ∨ ¬n7 (Tm.mk (Dy.mk (ix r.Until (0:Int)).Day.Year (ix r.Until (0:Int)).Day.Month (ix r.Until (0:Int)).Day.Date) (ix r.Until (0:Int)).Hour (ix r.Until (0:Int)).Min (ix r.Until (0:Int)).Sec (decide ((ix r.Until (0:Int)).Bare=true)) (decide ((ix r.Until (0:Int)).UTC=true)))=true))->(0:Int)<=1/\(1:Int)<=1000/\(0:Int)<=12/\(12:Int)<=1000/\r.Month.length<=1000000/\(¬¬l9 r.Month (1:Int) (12:Int) false=true->(0:Int)<=1)/\(¬¬l9 r.Month (1:Int) (12:Int) false=true->(1:Int)<=1000)/\(¬¬l9 r.Month (1:Int) (12:Int) false=true->(0:Int)<=53)/\(¬¬l9 r.Month (1:Int) (12:Int) false=true->(53:Int)<=1000)/\(¬¬l9 r.Month (1:Int) (12:Int) false=true->r.WeekNo.length<=1000000)/\(¬(¬l9 r.Month (1:Int) (12:Int) false=true ∨ ¬l9 r.WeekNo (1:Int) (53:Int) true=true)->(0:Int)<=1)/\(¬(¬l9 r.Month (1:Int) (12:Int) false=true ∨ ¬l9 r.WeekNo (1:Int) (53:Int) true=true)->(1:Int)<=1000)/\(¬(¬l9 r.Month (1:Int) (12:Int) false=true ∨ ¬l9 r.WeekNo (1:Int) (53:Int) true=true)->(0:Int)<=366)/\(¬(¬l9 r.Month (1:Int) (12:Int) false=true ∨ ¬l9 r.WeekNo (1:Int) (53:Int) true=true)->(366:Int)<=1000)/\(¬(¬l9 r.Month (1:Int) (12:Int) false=true ∨ ¬l9 r.WeekNo (1:Int) (53:Int) true=true)->r.YearDay.length<=1000000)/\(¬((¬l9 r.Month (1:Int) (12:Int) false=true ∨ ¬l9 r.WeekNo (1:Int) (53:Int) true=true) ∨ ¬l9 r.YearDay (1:Int) (366:Int) true=true)->(0:Int)<=1)/\(¬((¬l9 r.Month (1:Int) (12:Int) false=true ∨ ¬l9 r.WeekNo (1:Int) (53:Int) true=true) ∨ ¬l9 r.YearDay (1:Int) (366:Int) true=true)->(1:Int)<=1000)/\(¬((¬l9 r.Month (1:Int) (12:Int) false=true ∨ ¬l9 r.WeekNo (1:Int) (53:Int) true=true) ∨ ¬l9 r.YearDay (1:Int) (366:Int) true=true)->(0:Int)<=31)/\(¬((¬l9 r.Month (1:Int) (12:Int) false=true ∨ ¬l9 r.WeekNo (1:Int) (53:Int) true=true) ∨ ¬l9 r.YearDay (1:Int) (366:Int) true=true)->(31:Int)<=1000)/\(¬((¬l9 r.Month (1:Int) (12:Int) false=true ∨ ¬l9 r.WeekNo (1:Int) (53:Int) true=true) ∨ ¬l9 r.YearDay (1:Int) (366:Int) true=true)->r.MonthDay.length<=1000000)/\(¬(((¬l9 r.Month (1:Int) (12:Int) false=true ∨ ¬l9 r.WeekNo (1:Int) (53:Int) true=true) ∨ ¬l9 r.YearDay (1:Int) (366:Int) true=true) ∨ ¬l9 r.MonthDay (1:Int) (31:Int) true=true)->(0:Int)<=0)/\(¬(((¬l9 r.Month (1:Int) (12:Int) false=true ∨ ¬l9 r.WeekNo (1:Int) (53:Int) true=true) ∨ ¬l9 r.YearDay (1:Int) (366:Int) true=true) ∨ ¬l9 r.MonthDay (1:Int) (31:Int) true=true)->(0:Int)<=1000)/\(¬(((¬l9 r.Month (1:Int) (12:Int) false=true ∨ ¬l9 r.WeekNo (1:Int) (53:Int) true=true) ∨ ¬l9 r.YearDay (1:Int) (366:Int) true=true) ∨ ¬l9 r.MonthDay (1:Int) (31:Int) true=true)->(0:Int)<=23)/\(¬(((¬l9 r.Month (1:Int) (12:Int) false=true ∨ ¬l9 r.WeekNo (1:Int) (53:Int) true=true) ∨ ¬l9 r.YearDay (1:Int) (366:Int) true=true) ∨ ¬l9 r.MonthDay (1:Int) (31:Int) true=true)->(23:Int)<=1000)/\(¬(((¬l9 r.Month (1:Int) (12:Int) false=true ∨ ¬l9 r.WeekNo (1:Int) (53:Int) true=true) ∨ ¬l9 r.YearDay (1:Int) (366:Int) true=true) ∨ ¬l9 r.MonthDay (1:Int) (31:Int) true=true)->r.Hour.length<=1000000)/\(¬((((¬l9 r.Month (1:Int) (12:Int) false=true ∨ ¬l9 r.WeekNo (1:Int) (53:Int) true=true) ∨ ¬l9 r.YearDay (1:Int) (366:Int) true=true) ∨ ¬l9 r.MonthDay (1:Int) (31:Int) true=true) ∨ ¬l9 r.Hour (0:Int) (23:Int) false=true)->(0:Int)<=0)/\(¬((((¬l9 r.Month (1:Int) (12:Int) false=true ∨ ¬l9 r.WeekNo (1:Int) (53:Int) true=true) ∨ ¬l9 r.YearDay (1:Int) (366:Int) true=true) ∨ ¬l9 r.MonthDay (1:Int) (31:Int) true=true) ∨ ¬l9 r.Hour (0:Int) (23:Int) false=true)->(0:Int)<=1000)/\(¬((((¬l9 r.Month (1:Int) (12:Int) false=true ∨ ¬l9 r.WeekNo (1:Int) (53:Int) true=true) ∨ ¬l9 r.YearDay (1:Int) (366:Int) true=true) ∨ ¬l9 r.MonthDay (1:Int) (31:Int) true=true) ∨ ¬l9 r.Hour (0:Int) (23:Int) false=true)->(0:Int)<=59)/\(¬((((¬l9 r.Month (1:Int) (12:Int) false=true ∨ ¬l9 r.WeekNo (1:Int) (53:Int) true=true) ∨ ¬l9 r.YearDay (1:Int) (366:Int) true=true) ∨ ¬l9 r.MonthDay (1:Int) (31:Int) true=true) ∨ ¬l9 r.Hour (0:Int) (23:Int) false=true)->(59:Int)<=1000)/\(¬((((¬l9 r.Month (1:Int) (12:Int) false=true ∨ ¬l9 r.WeekNo (1:Int) (53:Int) true=true) ∨ ¬l9 r.YearDay (1:Int) (366:Int) true=true) ∨ ¬l9 r.MonthDay (1:Int) (31:Int) true=true) ∨ ¬l9 r.Hour (0:Int) (23:Int) false=true)->r.Minute.length<=1000000)/\(¬(((((¬l9 r.Month (1:Int) (12:Int) false=true ∨ ¬l9 r.WeekNo (1:Int) (53:Int) true=true) ∨ ¬l9 r.YearDay (1:Int) (366:Int) true=true) ∨ ¬l9 r.MonthDay (1:Int) (31:Int) true=true) ∨ ¬l9 r.Hour (0:Int) (23:Int) false=true) ∨ ¬l9 r.Minute (0:Int) (59:Int) false=true)->(0:Int)<=0)/\(¬(((((¬l9 r.Month (1:Int) (12:Int) false=true ∨ ¬l9 r.WeekNo (1:Int) (53:Int) true=true) ∨ ¬l9 r.YearDay (1:Int) (366:Int) true=true) ∨ ¬l9 r.MonthDay (1:Int) (31:Int) true=true) ∨ ¬l9 r.Hour (0:Int) (23:Int) false=true) ∨ ¬l9 r.Minute (0:Int) (59:Int) false=true)->(0:Int)<=1000)/\(¬(((((¬l9 r.Month (1:Int) (12:Int) false=true ∨ ¬l9 r.WeekNo (1:Int) (53:Int) true=true) ∨ ¬l9 r.YearDay (1:Int) (366:Int) true=true) ∨ ¬l9 r.MonthDay (1:Int) (31:Int) true=true) ∨ ¬l9 r.Hour (0:Int) (23:Int) false=true) ∨ ¬l9 r.Minute (0:Int) (59:Int) false=true)->(0:Int)<=59)/\(¬(((((¬l9 r.Month (1:Int) (12:Int) false=true ∨ ¬l9 r.WeekNo (1:Int) (53:Int) true=true) ∨ ¬l9 r.YearDay (1:Int) (366:Int) true=true) ∨ ¬l9 r.MonthDay (1:Int) (31:Int) true=true) ∨ ¬l9 r.Hour (0:Int) (23:Int) false=true) ∨ ¬l9 r.Minute (0:Int) (59:Int) false=true)->(59:Int)<=1000)/\(¬(((((¬l9 r.Month (1:Int) (12:Int) false=true ∨ ¬l9 r.WeekNo (1:Int) (53:Int) true=true) ∨ ¬l9 r.YearDay (1:Int) (366:Int) true=true) ∨ ¬l9 r.MonthDay (1:Int) (31:Int) true=true) ∨ ¬l9 r.Hour (0:Int) (23:Int) false=true) ∨ ¬l9 r.Minute (0:Int) (59:Int) false=true)->r.Second.length<=1000000)/\(¬((((((¬l9 r.Month (1:Int) (12:Int) false=true ∨ ¬l9 r.WeekNo (1:Int) (53:Int) true=true) ∨ ¬l9 r.YearDay (1:Int) (366:Int) true=true) ∨ ¬l9 r.MonthDay (1:Int) (31:Int) true=true) ∨ ¬l9 r.Hour (0:Int) (23:Int) false=true) ∨ ¬l9 r.Minute (0:Int) (59:Int) false=true) ∨ ¬l9 r.Second (0:Int) (59:Int) false=true)->(0:Int)<=1)/\(¬((((((¬l9 r.Month (1:Int) (12:Int) false=true ∨ ¬l9 r.WeekNo (1:Int) (53:Int) true=true) ∨ ¬l9 r.YearDay (1:Int) (366:Int) true=true) ∨ ¬l9 r.MonthDay (1:Int) (31:Int) true=true) ∨ ¬l9 r.Hour (0:Int) (23:Int) false=true) ∨ ¬l9 r.Minute (0:Int) (59:Int) false=true) ∨ ¬l9 r.Second (0:Int) (59:Int) false=true)->(1:Int)<=1000)/\(¬((((((¬l9 r.Month (1:Int) (12:Int) false=true ∨ ¬l9 r.WeekNo (1:Int) (53:Int) true=true) ∨ ¬l9 r.YearDay (1:Int) (366:Int) true=true) ∨ ¬l9 r.MonthDay (1:Int) (31:Int) true=true) ∨ ¬l9 r.Hour (0:Int) (23:Int) false=true) ∨ ¬l9 r.Minute (0:Int) (59:Int) false=true) ∨ ¬l9 r.Second (0:Int) (59:Int) false=true)->(0:Int)<=366)/\(¬((((((¬l9 r.Month (1:Int) (12:Int) false=true ∨ ¬l9 r.WeekNo (1:Int) (53:Int) true=true) ∨ ¬l9 r.YearDay (1:Int) (366:Int) true=true) ∨ ¬l9 r.MonthDay (1:Int) (31:Int) true=true) ∨ ¬l9 r.Hour (0:Int) (23:Int) false=true) ∨ ¬l9 r.Minute (0:Int) (59:Int) false=true) ∨ ¬l9 r.Second (0:Int) (59:Int) false=true)->(366:Int)<=1000)/\(¬((((((¬l9 r.Month (1:Int) (12:Int) false=true ∨ ¬l9 r.WeekNo (1:Int) (53:Int) true=true) ∨ ¬l9 r.YearDay (1:Int) (366:Int) true=true) ∨ ¬l9 r.MonthDay (1:Int) (31:Int) true=true) ∨ ¬l9 r.Hour (0:Int) (23:Int) false=true) ∨ ¬l9 r.Minute (0:Int) (59:Int) false=true) ∨ ¬l9 r.Second (0:Int) (59:Int) false=true)->r.SetPos.length<=1000000)/\(((((((¬l9 r.Month (1:Int) (12:Int) false=true ∨ ¬l9 r.WeekNo (1:Int) (53:Int) true=true) ∨ ¬l9 r.YearDay (1:Int) (366:Int) true=true) ∨ ¬l9 r.MonthDay (1:Int) (31:Int) true=true) ∨ ¬l9 r.Hour (0:Int) (23:Int) false=true) ∨ ¬l9 r.Minute (0:Int) (59:Int) false=true) ∨ ¬l9 r.Second (0:Int) (59:Int) false=true) ∨ ¬l9 r.SetPos (1:Int) (366:Int) true=true->Q false)/\(¬(((((((¬l9 r.Month (1:Int) (12:Int) false=true ∨ ¬l9 r.WeekNo (1:Int) (53:Int) true=true) ∨ ¬l9 r.YearDay (1:Int) (366:Int) true=true) ∨ ¬l9 r.MonthDay (1:Int) (31:Int) true=true) ∨ ¬l9 r.Hour (0:Int) (23:Int) false=true) ∨ ¬l9 r.Minute (0:Int) (59:Int) false=true) ∨ ¬l9 r.Second (0:Int) (59:Int) false=true) ∨ ¬l9 r.SetPos (1:Int) (366:Int) true=true)->((24:Int)<(↑r.Days.length:Int)->Q false)/\(¬(24:Int)<(↑r.Days.length:Int)->∃ (J:Int->Prop),((r.Freq=1->J (5:Int))/\(¬r.Freq=1->J (0:Int)))/\∀ (x:Int),J x->∃ (J:Int->Prop),((r.Freq=0/\(↑r.WeekNo.length:Int)=0->J (53:Int))/\(¬(r.Freq=0/\(↑r.WeekNo.length:Int)=0)->J x))/\∀ (x:Int),J x->∃ (I:Int->Prop),∃ (m:Int->Nat),I (0:Int)/\∀ (x_1:Int),I x_1->(x_1<(↑r.Days.length:Int)->(0:Int)<=x_1/\x_1<(↑r.Days.length:Int)/\(b9 (ix r.Days x_1).N->b9 (ix r.Days x_1).Day->(¬(((ix r.Days x_1).Day<0 ∨ (6:Int)<(ix r.Days x_1).Day) ∨ x<(ix r.Days x_1).N)->b9 ((0:Int)-x))/\(¬((((ix r.Days x_1).Day<0 ∨ (6:Int)<(ix r.Days x_1).Day) ∨ x<(ix r.Days x_1).N) ∨ (ix r.Days x_1).N<(0:Int)-x)/\(0:Int)<x_1->b9 (x_1-1))/\((¬((((ix r.Days x_1).Day<0 ∨ (6:Int)<(ix r.Days x_1).Day) ∨ x<(ix r.Days x_1).N) ∨ (ix r.Days x_1).N<(0:Int)-x)/\(0:Int)<x_1->(0:Int)<=x_1-1)/\(¬((((ix r.Days x_1).Day<0 ∨ (6:Int)<(ix r.Days x_1).Day) ∨ x<(ix r.Days x_1).N) ∨ (ix r.Days x_1).N<(0:Int)-x)/\(0:Int)<x_1->x_1-1<(↑r.Days.length:Int)))/\((¬((((ix r.Days x_1).Day<0 ∨ (6:Int)<(ix r.Days x_1).Day) ∨ x<(ix r.Days x_1).N) ∨ (ix r.Days x_1).N<(0:Int)-x)/\(0:Int)<x_1->b9 (ix r.Days (x_1-1)).N)->(¬((((ix r.Days x_1).Day<0 ∨ (6:Int)<(ix r.Days x_1).Day) ∨ x<(ix r.Days x_1).N) ∨ (ix r.Days x_1).N<(0:Int)-x)/\(0:Int)<x_1->b9 (ix r.Days (x_1-1)).Day)->(((((ix r.Days x_1).Day<0 ∨ (6:Int)<(ix r.Days x_1).Day) ∨ x<(ix r.Days x_1).N) ∨ (ix r.Days x_1).N<(0:Int)-x) ∨ (0:Int)<x_1/\¬a68 (Nt.mk (ix r.Days (x_1-1)).N (ix r.Days (x_1-1)).Day) (Nt.mk (ix r.Days x_1).N (ix r.Days x_1).Day)=true->Q false)/\(¬(((((ix r.Days x_1).Day<0 ∨ (6:Int)<(ix r.Days x_1).Day) ∨ x<(ix r.Days x_1).N) ∨ (ix r.Days x_1).N<(0:Int)-x) ∨ (0:Int)<x_1/\¬a68 (Nt.mk (ix r.Days (x_1-1)).N (ix r.Days (x_1-1)).Day) (Nt.mk (ix r.Days x_1).N (ix r.Days x_1).Day)=true)->b9 (x_1+1)/\I (x_1+1)/\m (x_1+1)<m x_1))))/\(¬x_1<(↑r.Days.length:Int)->((r.Freq≠0/\(0:Int)<(↑r.WeekNo.length:Int) ∨ ((1:Int)<=r.Freq/\r.Freq<=3)/\(0:Int)<(↑r.YearDay.length:Int)) ∨ r.Freq=2/\(0:Int)<(↑r.MonthDay.length:Int)->Q false)/\(¬((r.Freq≠0/\(0:Int)<(↑r.WeekNo.length:Int) ∨ ((1:Int)<=r.Freq/\r.Freq<=3)/\(0:Int)<(↑r.YearDay.length:Int)) ∨ r.Freq=2/\(0:Int)<(↑r.MonthDay.length:Int))->b9 ((↑r.Month.length:Int)+(↑r.WeekNo.length:Int))/\b9 ((↑r.Month.length:Int)+(↑r.WeekNo.length:Int)+(↑r.YearDay.length:Int))/\b9 ((↑r.Month.length:Int)+(↑r.WeekNo.length:Int)+(↑r.YearDay.length:Int)+(↑r.MonthDay.length:Int))/\b9 ((↑r.Month.length:Int)+(↑r.WeekNo.length:Int)+(↑r.YearDay.length:Int)+(↑r.MonthDay.length:Int)+(↑r.Days.length:Int))/\b9 ((↑r.Month.length:Int)+(↑r.WeekNo.length:Int)+(↑r.YearDay.length:Int)+(↑r.MonthDay.length:Int)+(↑r.Days.length:Int)+(↑r.Hour.length:Int))/\b9 ((↑r.Month.length:Int)+(↑r.WeekNo.length:Int)+(↑r.YearDay.length:Int)+(↑r.MonthDay.length:Int)+(↑r.Days.length:Int)+(↑r.Hour.length:Int)+(↑r.Minute.length:Int))/\b9 ((↑r.Month.length:Int)+(↑r.WeekNo.length:Int)+(↑r.YearDay.length:Int)+(↑r.MonthDay.length:Int)+(↑r.Days.length:Int)+(↑r.Hour.length:Int)+(↑r.Minute.length:Int)+(↑r.Second.length:Int))/\((0:Int)<(↑r.Month.length:Int)+(↑r.WeekNo.length:Int)+(↑r.YearDay.length:Int)+(↑r.MonthDay.length:Int)+(↑r.Days.length:Int)+(↑r.Hour.length:Int)+(↑r.Minute.length:Int)+(↑r.Second.length:Int) ∨ (↑r.SetPos.length:Int)=0->b9 (E8 r.Hour * E8 r.Minute))/\((0:Int)<(↑r.Month.length:Int)+(↑r.WeekNo.length:Int)+(↑r.YearDay.length:Int)+(↑r.MonthDay.length:Int)+(↑r.Days.length:Int)+(↑r.Hour.length:Int)+(↑r.Minute.length:Int)+(↑r.Second.length:Int) ∨ (↑r.SetPos.length:Int)=0->b9 (E8 r.Hour * E8 r.Minute * E8 r.Second))/\Q (decide (((0:Int)<(↑r.Month.length:Int)+(↑r.WeekNo.length:Int)+(↑r.YearDay.length:Int)+(↑r.MonthDay.length:Int)+(↑r.Days.length:Int)+(↑r.Hour.length:Int)+(↑r.Minute.length:Int)+(↑r.Second.length:Int) ∨ (↑r.SetPos.length:Int)=0)/\E8 r.Hour * E8 r.Minute * E8 r.Second<=48)))))))))
set_option maxHeartbeats 2000000 in
theorem pqR (r:Rl) (hfw:w4 r=true):VqR r (fun y0=>y0=A6 r):=by
 unfold VqR
 obtain ⟨wmo,wwn,wyd,wmd,wdy,who,wmi,wse,wsp,wti⟩:=Q8 hfw
 refine ⟨fun h=>(o6 fun R=>by obtain ⟨a1,a2,a3,a4,a5,a6,a7,a8⟩:=R.head; omega).symm,fun h=>?_⟩
 have hH:b36 r:=⟨by omega,by omega,by omega,by omega,by omega,by omega,by omega,by omega⟩
 refine ⟨fun _=>by decide,fun h=>by omega,fun _ _ _ _ _ _=>?_⟩
 simp only [Bool.decide_eq_true,a7j]
 refine ⟨fun hu=>(o6 fun R=>?_).symm,fun hu=>?_⟩
 . obtain ⟨a,b⟩:=R.til
   rcases hu with hu | ⟨h1,hu | hu⟩
   . omega
   . have:=(b h1).1; omega
   . exact hu (b h1).2
 have hU:b5q r:=by
  have u1:¬ 1<(r.Until.length:Int):=fun h=>hu (.inl h)
  exact ⟨by omega,fun h1=>⟨by have:¬ 0<r.Count:=fun h=>hu (.inr ⟨h1,.inl h⟩); omega,Classical.not_not.1 fun hn=>hu (.inr ⟨h1,.inr hn⟩)⟩⟩
 clear h hu
 repeat' apply And.intro
 all_goals first | decide | omega | (intro _; first | decide | omega) | skip
 . intro hn
   refine (o6 fun R=>?_).symm
   have R:=R.lists
   rcases hn with ((((((h|h)|h)|h)|h)|h)|h)|h
   . exact h R.mo
   . exact h R.wn
   . exact h R.yd
   . exact h R.md
   . exact h R.ho
   . exact h R.mi
   . exact h R.se
   . exact h R.sp
 intro hn
 have hL:b07 r:=by
  simp only [not_or,Classical.not_not] at hn
  obtain ⟨⟨⟨⟨⟨⟨⟨a,b⟩,c⟩,d⟩,e⟩,f⟩,g⟩,h⟩:=hn
  exact ⟨a,b,c,d,e,f,g,h⟩
 clear hn
 refine ⟨fun h24=>(o6 fun R=>by have:=R.few; omega).symm,fun h24=>?_⟩
 refine ⟨fun x=>x=if r.Freq=1 then 5 else 0,⟨fun h=>by rw [if_pos h],fun h=>by rw [if_neg h]⟩,?_⟩
 rintro m0 hm0
 refine ⟨fun x=>x=D3 r,⟨fun h=>?_,fun h=>?_⟩,?_⟩
 . unfold D3; rw [if_neg (by omega),if_pos h]
 . rw [hm0]
   unfold D3
   by_cases h1:r.Freq=1
   . rw [if_pos h1,if_pos h1]
   . rw [if_neg h1,if_neg h1,if_neg h]
 rintro m hm
 have hm1:0<=m/\m<=53:=by
  rw [hm]; unfold D3
  split
  . omega
  . split <;> omega
 refine ⟨fun x=>0<=x/\x<=r.Days.length/\O9 r.Days m x,fun x=>((r.Days.length:Int)-x).toNat,⟨Int.le_refl _,by omega,O9.nil⟩,?_⟩
 rintro x ⟨x0,x1,hd⟩
 refine ⟨fun hx=>⟨x0,hx,fun _ _=>⟨fun _=>⟨by omega,by omega⟩,fun h=>⟨by omega,by omega⟩,⟨fun h=>by omega,fun h=>by omega⟩,fun _ _=>⟨fun hb=>?_,fun hb=>?_⟩⟩⟩,fun hx=>?_⟩
 . refine (o6 fun R=>?_).symm
   have a:=R.days.ok x x0 hx
   rw [<- hm] at a
   obtain ⟨a1,a2,a3,a4⟩:=a
   rcases hb with (((h | h) | h) | h) | ⟨h0,h⟩
   . omega
   . omega
   . omega
   . omega
   . exact h (a8z.2 (R.days.up x h0 hx))
 . have hb':=fun h=>hb (.inl h)
   exact ⟨⟨by omega,by omega⟩,⟨by omega,by omega,hd.step ⟨by omega,by omega,by omega,by omega⟩ fun h0=>a8z.1 (Classical.not_not.1 fun hn=>hb (.inr ⟨h0,hn⟩))⟩,by dsimp only; omega⟩
 . refine ⟨fun hf=>(o6 fun R=>R.fit hf).symm,fun hf=>?_⟩
   have l1:=@U6 r.Hour
   have l2:=@U6 r.Minute
   have l3:=@U6 r.Second
   have k:=d1h (a:=E8 r.Hour) (b:=E8 r.Minute) (c:=E8 r.Second) (by omega) (by omega) (by omega)
   refine ⟨⟨by omega,by omega⟩,⟨by omega,by omega⟩,⟨by omega,by omega⟩,⟨by omega,by omega⟩,⟨by omega,by omega⟩,⟨by omega,by omega⟩,⟨by omega,by omega⟩,fun _=>k.1,fun _=>k.2,?_⟩
   by_cases hs:c0a r
   . rw [m8.2 ⟨hH,hU,hL,by omega,hm ▸ hd.done hx,hf,hs⟩]
     exact decide_eq_true hs
   . rw [o6 fun R=>hs R.some]
     exact decide_eq_false hs
noncomputable def e29 (r:Rl):Q1 U:=⟨[w4 r=true],[],blB (A6 r)⟩
noncomputable def cqR (a:List (SV U)):Option (Q1 U):=match a with | [.agg l_r]=>(y30.bk (.agg l_r)).bind fun r=>some (e29 r) | _=>none
noncomputable def NqR:Env:=Nqf.addL 44 cqR
theorem d2p:j7 NqR:=b5n.addL Tryz.call44 fun (args:List (SV U)) (q:Q1 U) (h:cqR args=some q) ho=>by
 unfold cqR at h
 split at h
 . rename_i l_r
   obtain ⟨r,hb_r,h⟩:=Option.bind_eq_some_iff.1 h
   cases h
   refine A3.conv (E:=Nqf) (args':=[.agg [.int .i64 r.Freq,.int .i64 r.Interval,.int .i64 r.Count,.sl 25 r.Until,.sl 3 r.Month,.sl 3 r.WeekNo,.sl 3 r.YearDay,.sl 3 r.MonthDay,.sl 60 r.Days,.sl 3 r.Hour,.sl 3 r.Minute,.sl 3 r.Second,.sl 3 r.SetPos,.int .i64 r.Wkst]]) (q8 (an:=e1i 44) b5n (j6 b5n o9 e1i 2) Tryz.func44 (k:=.bool) trivial (kc (pqR r ho.1) (by kernel_rfl)) 0) fun D w vs hr=>q9 [.agg l_r] [.agg [.int .i64 r.Freq,.int .i64 r.Interval,.int .i64 r.Count,.sl (N:=U) 25 r.Until,.sl (N:=U) 3 r.Month,.sl (N:=U) 3 r.WeekNo,.sl (N:=U) 3 r.YearDay,.sl (N:=U) 3 r.MonthDay,.sl (N:=U) 60 r.Days,.sl (N:=U) 3 r.Hour,.sl (N:=U) 3 r.Minute,.sl (N:=U) 3 r.Second,.sl (N:=U) 3 r.SetPos,.int .i64 r.Wkst]] _ ⟨fun _ h=>s9 hb_r h,trivial⟩ hr
 . cases h
end Go.Proofs.YtdjfeninmbpflaaGreat
end
section
namespace Go.Proofs
open Go.Shelf
def Tryz.lays189_ren:Go.Shelf.Ren:=⟨fun | 189=>99 | 125=>112 | 257=>111 | 128=>124 | 129=>125 | 294=>115 | 295=>116 | 296=>117 | 297=>118 | 298=>119 | 299=>120 | 216=>121 | 300=>122 | 301=>123 | 328=>126 | 329=>127 | 330=>128 | 331=>129 | 332=>130 | 215=>113 | 343=>131 | n=>n,fun | 28=>27 | 3=>3 | 46=>137 | 0=>0 | 51=>147 | 53=>149 | 4=>4 | 183=>141 | 182=>140 | 131=>144 | 5=>5 | 9=>9 | 218=>150 | 222=>154 | 228=>156 | 229=>110 | n=>n,fun | n=>n⟩
theorem Tryz.lays189:Go.Proofs.Lays.n189 Tryz.prog Tryz.lays189_ren:={
 mixed:=by kernel_rfl
 f125:=Tryz.func112.trans (congrArg some (by kernel_rfl))
 f128:=Tryz.func124.trans (congrArg some (by kernel_rfl))
 f129:=Tryz.func125.trans (congrArg some (by kernel_rfl))
 f189:=Tryz.func99.trans (congrArg some (by kernel_rfl))
 f215:=Tryz.func113.trans (congrArg some (by kernel_rfl))
 f216:=Tryz.func121.trans (congrArg some (by kernel_rfl))
 f257:=Tryz.func111.trans (congrArg some (by kernel_rfl))
 f294:=Tryz.func115.trans (congrArg some (by kernel_rfl))
 f295:=Tryz.func116.trans (congrArg some (by kernel_rfl))
 f296:=Tryz.func117.trans (congrArg some (by kernel_rfl))
 f297:=Tryz.func118.trans (congrArg some (by kernel_rfl))
 f298:=Tryz.func119.trans (congrArg some (by kernel_rfl))
 f299:=Tryz.func120.trans (congrArg some (by kernel_rfl))
 f300:=Tryz.func122.trans (congrArg some (by kernel_rfl))
 f301:=Tryz.func123.trans (congrArg some (by kernel_rfl))
 f328:=Tryz.func126.trans (congrArg some (by kernel_rfl))
 f329:=Tryz.func127.trans (congrArg some (by kernel_rfl))
 f330:=Tryz.func128.trans (congrArg some (by kernel_rfl))
 f331:=Tryz.func129.trans (congrArg some (by kernel_rfl))
 f332:=Tryz.func130.trans (congrArg some (by kernel_rfl))
 f343:=Tryz.func131.trans (congrArg some (by kernel_rfl))
 t0:=Tryz.underlying0
 a0:=Tryz.isAgg0
 z0:=Tryz.sizeOf0
 v0:=Tryz.zeroValue0
 t3:=Tryz.underlying3
 a3:=Tryz.isAgg3
 z3:=Tryz.sizeOf3
 v3:=Tryz.zeroValue3
 t4:=Tryz.underlying4
 a4:=Tryz.isAgg4
 z4:=Tryz.sizeOf4
 v4:=Tryz.zeroValue4
 t5:=Tryz.underlying5
 a5:=Tryz.isAgg5
 z5:=Tryz.sizeOf5
 v5:=Tryz.zeroValue5
 t9:=Tryz.underlying9
 a9:=Tryz.isAgg9
 z9:=Tryz.sizeOf9
 v9:=Tryz.zeroValue9
 t28:=Tryz.underlying27
 a28:=Tryz.isAgg27
 z28:=Tryz.sizeOf27
 v28:=Tryz.zeroValue27
 t46:=Tryz.underlying137
 a46:=Tryz.isAgg137
 z46:=Tryz.sizeOf137
 v46:=Tryz.zeroValue137
 t51:=Tryz.underlying147
 a51:=Tryz.isAgg147
 z51:=Tryz.sizeOf147
 v51:=Tryz.zeroValue147
 t53:=Tryz.underlying149
 a53:=Tryz.isAgg149
 z53:=Tryz.sizeOf149
 v53:=Tryz.zeroValue149
 t131:=Tryz.underlying144
 a131:=Tryz.isAgg144
 z131:=Tryz.sizeOf144
 v131:=Tryz.zeroValue144
 t182:=Tryz.underlying140
 a182:=Tryz.isAgg140
 z182:=Tryz.sizeOf140
 v182:=Tryz.zeroValue140
 t183:=Tryz.underlying141
 a183:=Tryz.isAgg141
 z183:=Tryz.sizeOf141
 v183:=Tryz.zeroValue141
 t218:=Tryz.underlying150
 a218:=Tryz.isAgg150
 z218:=Tryz.sizeOf150
 v218:=Tryz.zeroValue150
 t222:=Tryz.underlying154
 a222:=Tryz.isAgg154
 z222:=Tryz.sizeOf154
 v222:=Tryz.zeroValue154
 t228:=Tryz.underlying156
 a228:=Tryz.isAgg156
 z228:=Tryz.sizeOf156
 v228:=Tryz.zeroValue156
 t229:=Tryz.underlying110
 a229:=Tryz.isAgg110
 z229:=Tryz.sizeOf110
 v229:=Tryz.zeroValue110 }
open Go.Sort Go.RowKit in
theorem Tryz.slices_Sort_int (blk off cap:Nat) (zs:List Int) (w:World) (hH:Holds (Value.int .i64) w blk off zs.toArray) (hblk:blk<w.heap.size) (hsz:zs.length<4611686018427387904) :
  Calls Tryz.prog 99 #[.slice (some ⟨blk,off,none⟩) zs.length cap] w fun e w' =>
   e=.returned (.tuple #[])/\∃ n os,w'=grow (putRow (Value.int .i64) (Sort.ahead w n) blk off (zs.mergeSort fun x y=>decide (x<=y)).toArray) os:=Any.slices_Sort_int Tryz.lays189 blk off cap zs w hH hblk hsz
def Tryz.laysNm215_ren:Go.Shelf.Ren:=⟨fun | 15=>98 | n=>n,fun | 22=>27 | 3=>3 | 4=>4 | n=>n,fun | n=>n⟩
theorem Tryz.laysNm215:Go.Proofs.Lays2.n15 Tryz.prog Tryz.laysNm215_ren:={
 mixed:=by kernel_rfl
 f15:=Tryz.func98.trans (congrArg some (by kernel_rfl))
 t3:=Tryz.underlying3
 a3:=Tryz.isAgg3
 z3:=Tryz.sizeOf3
 v3:=Tryz.zeroValue3
 t4:=Tryz.underlying4
 a4:=Tryz.isAgg4
 z4:=Tryz.sizeOf4
 v4:=Tryz.zeroValue4
 t22:=Tryz.underlying27
 a22:=Tryz.isAgg27
 z22:=Tryz.sizeOf27
 v22:=Tryz.zeroValue27
 i3:=by kernel_rfl }
open Go.RowKit Go.Lib in
theorem Tryz.slices_Clone_int (b off n c:Nat) (zs:List Int) (w:World) (hz:n<=zs.length) (hbig:n * 8<=140737488355328) (hc:∀ j,j<zs.length->w.cell? ⟨b,off+j,none⟩=some (.int .i64 (zs.getD j 0))) :
  Calls Tryz.prog 98 #[.slice (some ⟨b,off,none⟩) n c] w fun e w'=>∃ v',e=.returned v'/\w'.ownsRow w.heap.size 3 1 v' n ((zs.take n).map (Value.int .i64))/\v'≠.slice none 0 0/\Below w.heap.size w w':=Any.slices_Clone_int Tryz.laysNm215 b off n c zs w hz hbig hc
open Go.RowKit Go.Lib in
theorem Tryz.slices_Clone_int_nil (n c:Nat) (w:World) :
  Calls Tryz.prog 98 #[.slice none n c] w fun e w'=>e=.returned (.slice none 0 0)/\w'=w:=Any.slices_Clone_int_nil Tryz.laysNm215 n c w
open Go.RowKit Go.Lib in
theorem Tryz.slices_Clone_int_zero (a:Addr) (c:Nat) (w:World) :
  Calls Tryz.prog 98 #[.slice (some a) 0 c] w fun e w'=>∃ v',e=.returned v'/\w'.ownsRow w.heap.size 3 1 v' 0 []/\v'≠.slice none 0 0/\Below w.heap.size w w':=Any.slices_Clone_int_zero Tryz.laysNm215 a c w
def Tryz.laysNm220_ren:Go.Shelf.Ren:=⟨fun | 20=>100 | n=>n,fun | 22=>27 | 3=>3 | 4=>4 | 0=>0 | n=>n,fun | n=>n⟩
theorem Tryz.laysNm220:Go.Proofs.Lays2.n20 Tryz.prog Tryz.laysNm220_ren:={
 mixed:=by kernel_rfl
 f20:=Tryz.func100.trans (congrArg some (by kernel_rfl))
 t0:=Tryz.underlying0
 a0:=Tryz.isAgg0
 z0:=Tryz.sizeOf0
 v0:=Tryz.zeroValue0
 t3:=Tryz.underlying3
 a3:=Tryz.isAgg3
 z3:=Tryz.sizeOf3
 v3:=Tryz.zeroValue3
 t4:=Tryz.underlying4
 a4:=Tryz.isAgg4
 z4:=Tryz.sizeOf4
 v4:=Tryz.zeroValue4
 t22:=Tryz.underlying27
 a22:=Tryz.isAgg27
 z22:=Tryz.sizeOf27
 v22:=Tryz.zeroValue27
 i3:=by kernel_rfl }
open Go.RowKit Go.Lib Go.Sort in
theorem Tryz.slices_Compact_int (blk off cap:Nat) (zs:List Int) (w:World) (hH:Holds (Value.int .i64) w blk off zs.toArray) (hsz:zs.length<=9223372036854775807) (hcap:zs.length<=cap) :
  Calls Tryz.prog 100 #[.slice (some ⟨blk,off,none⟩) zs.length cap] w fun e w'=>e=.returned (.slice (some ⟨blk,off,none⟩) (Lib.compact zs).length cap)/\∃ q,w'=putRow (Value.int .i64) (Sort.ahead w q) blk off (Lib.compact zs++List.replicate (zs.length-(Lib.compact zs).length) 0).toArray:=Any.slices_Compact_int Tryz.laysNm220 blk off cap zs w hH hsz hcap
open Go.RowKit Go.Lib Go.Sort in
theorem Tryz.slices_Compact_int_empty (a:Option Addr) (cap:Nat) (w:World) :
  Calls Tryz.prog 100 #[.slice a 0 cap] w fun e w'=>e=.returned (.slice a 0 cap)/\w'=w:=Any.slices_Compact_int_empty Tryz.laysNm220 a cap w
open Go.RowKit Go.Sort in
theorem Tryz.slices_Sort_int_none (p:Option Addr) (cap:Nat) (w:World) :
  Calls Tryz.prog 99 #[.slice p 0 cap] w fun e w'=>e=.returned (.tuple #[])/\w'=w:=Any.slices_Sort_int_none Tryz.lays189 p cap w
end Go.Proofs
end
section
namespace Go.Proofs.YtdjfeninmbpflaaGreat
open Go Go.Wk Go.Wl Go.Rx Go.Re Go.Proofs Go.RowKit
theorem a7y {w w1 w':World} (hs:Sim w w1) (h:RowKit.Below w1.heap.size w1 w'):Ext [] w w':=by
 obtain ⟨k,rfl⟩:=hs
 exact ⟨h.os,h.tape,h.output,h.size,fun b hb _=>h.block b hb⟩
theorem Sim.cell {w w1:World} (h:Sim w w1) (a:Addr):w1.cell? a=w.cell? a:=by obtain ⟨k,rfl⟩:=h; rfl
theorem c6f {Z:Nat->Prop} {w w2:World} {v':Value} {n:Nat} {xs:List Value} {l:List Int} (hl:l.length=n) (hl63:∀ s∈l,InI s) (hx:xs=l.map (Value.int .i64)) (ho:w2.ownsRow w.heap.size 3 1 v' n xs):∃ bs,(∀ b∈bs,w.heap.size<=b)/\Ac B4 Z w2 v' l bs:=by
 subst hx
 rcases ho.2 with ⟨hv,hn⟩ | ⟨g,cap',cur,hv,hbg,hg,hn,hcm,hcs,hct⟩
 . exact ⟨[],fun _ h=>(by cases h),.inl ⟨hv,List.eq_nil_of_length_eq_zero (by omega),rfl⟩⟩
 . refine ⟨[g],fun b hb=>by rw [List.mem_singleton.1 hb]; exact hbg,.inr ⟨g,cap',cur.toList,3,by rw [hl]; exact hv,rfl,⟨(0,0),.inl rfl,hg⟩,by rw [Array.length_toList]; exact hcs,by omega,fun i hi=>?_⟩⟩
   refine ⟨[.int .i64 l[i]],rfl,fun j hj=>?_,⟨rfl,hl63 _ (List.getElem_mem _)⟩⟩
   have hj0:j=0:=by have hj:j<1:=hj; omega
   subst hj0
   have e3:i * B4.sz+0=i:=by show i * 1+0=i; omega
   rw [e3]
   have:=congrArg (fun x=>x[i]?) hct
   rw [Nat.mul_one,List.getElem?_take_of_lt (by omega),List.getElem?_map,List.getElem?_eq_getElem hi] at this
   simpa using this
theorem c2m (l:List Int) (D Z:Nat->Prop) (w w1:World) (hs:Sim w w1) (v:Value) (hv:(v8 B4).rd D w [v] l) (h1:l.length<=1000000) :
  Calls Tryz.prog 98 #[v] w1 fun e w2=>∃ v' bs,e=.returned v'/\Ext [] w w2/\(∀ b∈bs,w.heap.size<=b)/\Ac B4 Z w2 v' l bs:=by
 have hsz:w1.heap.size=w.heap.size:=by obtain ⟨k,rfl⟩:=hs; rfl
 obtain ⟨hl63,A,cap,e,⟨_,hcap⟩,hc⟩:=hv
 simp only [List.cons.injEq,and_true] at e
 subst e
 by_cases h0:l.length=0
 . have hl:=List.eq_nil_of_length_eq_zero h0
   rw [h0]
   cases A with
   | none=>exact Calls.mono (Tryz.slices_Clone_int_nil 0 cap w1) fun e w2 ⟨he,hw⟩=>⟨_,[],he,by subst hw; exact b8e hs (Ext.refl _ _),fun _ h=>(by cases h),.inl ⟨rfl,hl,rfl⟩⟩
   | some a =>
    refine Calls.mono (Tryz.slices_Clone_int_zero a cap w1) fun e w2 ⟨v',he,ho,_,hbl⟩=>?_
    rw [hsz] at ho
    obtain ⟨bs,hb,hac⟩:=c6f (Z:=Z) (l:=l) h0 (fun s hs=>by rw [hl] at hs; cases hs) (by rw [hl]; rfl) ho
    exact ⟨v',bs,he,a7y hs hbl,hb,hac⟩
 obtain ⟨b,o,c,eA,hb,hcell,hrd⟩:=hc 0 (by omega)
 subst eA
 have hcells:∀ (j:Nat),j<l.length->w1.cell? ⟨b,o+j,none⟩=some (.int .i64 (l.getD j 0)):=fun j hj=>by
  rw [Sim.cell hs,List.getD_eq_getElem?_getD,List.getElem?_eq_getElem hj]
  obtain ⟨b',o',c',eA',_,hcell',hrd'⟩:=hc j hj
  simp only [Option.some.injEq,Addr.mk.injEq] at eA'
  obtain ⟨rfl,rfl,-⟩:=eA'
  have hc1:=hrd'.1
  subst hc1
  obtain ⟨C,T,z,hh,hC⟩:=hcell'
  have:=hC 0 (by simp)
  have e1:o+j * B4.sz+0=o+j:=by show o+j * 1+0=o+j; omega
  rw [e1] at this
  unfold World.cell?
  simp only [hh]
  simpa using this
 refine Calls.mono (Tryz.slices_Clone_int b o l.length cap l w1 (Nat.le_refl _) (by omega) hcells) fun e w2 ⟨v',he,ho,hne,hbl⟩=>?_
 rw [hsz] at ho
 obtain ⟨bs,hb',hac⟩:=c6f (Z:=Z) (l:=l) rfl (fun s hs=>by
  obtain ⟨i,hi,rfl⟩:=List.getElem_of_mem hs
  obtain ⟨_,_,_,_,_,_,h⟩:=hc i hi
  exact h.2) (by rw [List.take_of_length_le (Nat.le_refl _)]) ho
 exact ⟨v',bs,he,a7y hs hbl,hb',hac⟩
theorem d3z {K nx:Nat} {args:List (SV U)} {l:List Int} {ob:List Prop} (hl:l.length<=1000000)
  (h:∀ (ρ:n9) (Z:Nat->Prop) (w:World) (vs:List Value),Rep U eT ρ Z w (.tuple vs.toArray) (.tup args)->∀ w1,Sim w w1->Calls Tryz.prog K vs.toArray w1 fun e w2=>∃ v' bs,e=.returned v'/\Ext [] w w2/\(∀ b∈bs,w.heap.size<=b)/\Ac B4 Z w2 v' l bs) :
  E2 Tryz.prog U eT Gl K args nx ⟨ob,[],.acc nx,[.ac (N:=U) 3 l]⟩:=⟨fun ρ Z w vs hfr hz _ ha w1 hs=>by
 refine Calls.mono (h ρ Z w vs ha w1 hs) fun e w2 ⟨v',bs,he,hx,hb,hac⟩=>?_
 obtain ⟨A,cap,rfl⟩:∃ A cap,v'=.slice A l.length cap:=by
  rcases hac with ⟨e1,e2,_⟩ | ⟨b,cap,C,T,e1,_⟩
  . subst e1; subst e2; exact ⟨_,_,rfl⟩
  . exact ⟨_,_,e1⟩
 have hsub:=z7 (L:=⟨0,A,l.length,cap,bs⟩) (hfr nx (Nat.le_refl _))
 refine ⟨_,w2,he,Sim.refl _,C8 ρ nx ⟨0,A,l.length,cap,bs⟩,Z,hsub,fun i hi=>by have hi:nx+1<=i:=hi; unfold C8; rw [if_neg (by omega)]; exact hfr i (by omega),fun _ h=>h,fun _ h=>.inl h,.acc l5,?_,trivial⟩
 refine (Sep.nil hz).add hx ⟨_,l5,rfl,(show l.length<=9223372036854775807 by omega),hac⟩ p7 (fun b hb'=>?_) rfl
 have hb':b∈o8 U (C8 ρ nx ⟨0,A,l.length,cap,bs⟩) nx (.ac (N:=U) 3 l):=hb'
 have hb':b∈bs:=Eq.mp (congrArg (b∈·) (q7 (N:=U) (id:=nx) (t:=3) (l:=(l:List (U.U 3))) (l5 (ρ:=ρ) (id:=nx)))) hb'
 exact ⟨hb b hb',hac.lt b hb'⟩⟩
def cCl (a:List (SV U)) (nx:Nat):Option (CR U):=match a with | [.sl 3 l]=>some ⟨[List.length (α:=Int) l<=1000000],[],.acc nx,[.ac (N:=U) 3 l]⟩ | _=>none
theorem d4l (args:List (SV U)) (nx:Nat) (c:CR U) (h:cCl args nx=some c) (hpu:args.all B3=true) (ho:q6 c.ob):E2 Tryz.prog U eT Gl 98 args nx c:=by
 unfold cCl at h
 split at h
 . rename_i l
   cases h
   exact d3z ho.1 fun ρ Z w vs ha w1 hs=>by
    obtain ⟨v1,r1,rfl,hv1,ha⟩:=Rep.tup_cons ha
    obtain rfl:=Z5 ha
    cases hv1 with | sl hv=>exact c2m l Z Z w w1 hs v1 hv ho.1
 . cases h
theorem c8s {K:Nat} {l l':List Int} (hn:l'.length=l.length) (h:∀ (Z:Nat->Prop) (w:World) (v:Value) (bs:List Nat),Ac B4 Z w v l bs->D4 Tryz.prog K [v] w fun _ w'=>Ac B4 Z w' v l' bs/\Ext bs w w') :
  R9 Tryz.prog U eT Gl K [.acc 0] [(0,.ac (N:=U) 3 l)] 2 (fun k=>True->k .un [(0,.ac (N:=U) 3 l')] 2):=by
 intro kk hk ρ Z w vs B hfr hsep hg ha
 have ok:=hsep.ok 0 (z6 U eT ρ B 0 (.ac (N:=U) 3 l)) rfl
 obtain ⟨L,hL,hLn,hlen,hac⟩:=ok.holds
 have hF:(z6 U eT ρ B 0 (.ac (N:=U) 3 l)).F=L.bs:=by show o8 U ρ 0 (.ac (N:=U) 3 l)=_; exact q7 hL
 obtain ⟨v1,vr,hvs,hv1,hvr⟩:=Rep.tup_cons ha
 obtain rfl:=Z5 hvr
 have hv1':v1=.slice L.A L.n L.cap:=by
  cases hv1 with | acc hL'=>rw [hL] at hL'; cases hL'; rfl
 subst hv1'
 rw [hvs]
 refine (h Z w _ L.bs hac).mono fun v w' ⟨hac',x1⟩=>?_
 have hs1:=Wl.Sep.upd hsep 0 (t:=z6 U eT ρ B 0 (.ac (N:=U) 3 l)) (t':=z6 U eT ρ B 0 (.ac (N:=U) 3 l')) rfl (by rw [hF]; exact x1) ⟨L,hL,by rw [hLn]; exact hn.symm,(show l'.length<=_ by rw [hn]; exact hlen),hac'⟩ p7 (fun b hb=>by
  have hb:b∈o8 U ρ 0 (.ac (N:=U) 3 l'):=hb
  have hb:b∈L.bs:=Eq.mp (congrArg (b∈·) (q7 (N:=U) (id:=0) (t:=3) (l:=(l':List (U.U 3))) hL)) hb
  exact ⟨by rw [hF]; exact .inl hb,hac'.lt b hb⟩) rfl
 exact ⟨ρ,Z,.un,[(0,.ac (N:=U) 3 l')],2,hs1,hfr,fun _ _ h=>h,fun _ h=>h,fun _ h=>.inl h,.un,hk trivial⟩
theorem c91 {K:Nat} {l l':List Int} (hn:l'.length<=9223372036854775807) (h:∀ (Z:Nat->Prop) (w:World) (v:Value) (bs:List Nat),Ac B4 Z w v l bs->D4 Tryz.prog K [v] w fun v' w'=>Ac B4 Z w' v' l' bs/\Ext bs w w') :
  R9 Tryz.prog U eT Gl K [.acc 0] [(0,.ac (N:=U) 3 l)] 2 (fun k=>True->k (.acc 2) [(2,.ac (N:=U) 3 l')] 3):=by
 intro kk hk ρ Z w vs B hfr hsep hg ha
 have ok:=hsep.ok 0 (z6 U eT ρ B 0 (.ac (N:=U) 3 l)) rfl
 obtain ⟨L,hL,hLn,hlen,hac⟩:=ok.holds
 have hF:(z6 U eT ρ B 0 (.ac (N:=U) 3 l)).F=L.bs:=by show o8 U ρ 0 (.ac (N:=U) 3 l)=_; exact q7 hL
 obtain ⟨v1,vr,hvs,hv1,hvr⟩:=Rep.tup_cons ha
 obtain rfl:=Z5 hvr
 have hv1':v1=.slice L.A L.n L.cap:=by
  cases hv1 with | acc hL'=>rw [hL] at hL'; cases hL'; rfl
 subst hv1'
 rw [hvs]
 refine (h Z w _ L.bs hac).mono fun v w' ⟨hac',x1⟩=>?_
 obtain ⟨A,cap,rfl⟩:∃ A cap,v=.slice A l'.length cap:=by
  rcases hac' with ⟨e1,e2,_⟩ | ⟨b,cap,C,T,e1,_⟩
  . subst e1; subst e2; exact ⟨_,_,rfl⟩
  . exact ⟨_,_,e1⟩
 have hρ:=z7 (L:=⟨0,A,l'.length,cap,L.bs⟩) (hfr 2 (Nat.le_refl _))
 have hs1:=Wl.Sep.upd hsep 0 (t:=z6 U eT ρ B 0 (.ac (N:=U) 3 l)) (t':=z6 U eT (C8 ρ 2 ⟨0,A,l'.length,cap,L.bs⟩) B 2 (.ac (N:=U) 3 l')) rfl (by rw [hF]; exact x1) ⟨_,l5,rfl,hn,hac'⟩ p7 (fun b hb=>by
  have hb:b∈o8 U (C8 ρ 2 ⟨0,A,l'.length,cap,L.bs⟩) 2 (.ac (N:=U) 3 l'):=hb
  have hb:b∈L.bs:=Eq.mp (congrArg (b∈·) (q7 (N:=U) (id:=2) (t:=3) (l:=(l':List (U.U 3))) (l5 (ρ:=ρ) (id:=2)))) hb
  exact ⟨by rw [hF]; exact .inl hb,hac'.lt b hb⟩) rfl
 exact ⟨C8 ρ 2 ⟨0,A,l'.length,cap,L.bs⟩,Z,.acc 2,[(2,.ac (N:=U) 3 l')],3,hs1,fun i hi=>by unfold C8; rw [if_neg (by omega)]; exact hfr i (by omega),hρ,fun _ h=>h,fun _ h=>.inl h,.acc l5,hk trivial⟩
def fSo:FC U:=⟨[],[],fun a its=>match a,its with
 | [.acc 0],[(0,.ac 3 l)]=>some ⟨[List.length (α:=Int) l<=1000000],[],.un,[(0,.ac (N:=U) 3 (srt l))],2⟩
 | _,_=>none⟩
theorem d4w (args:List (SV U)) (its:i6 U) (r:FR U) (h:fSo.C args its=some r) (ho:q6 r.ob):R9 Tryz.prog U eT Gl 99 args its (2 * its.length) (fun k=>q6 r.hy->k r.v r.its r.n):=by
 unfold fSo at h
 simp only at h
 split at h
 . rename_i l
   cases h
   have ho1:List.length (α:=Int) l<=1000000:=ho.1
   exact c8s (a0g l) fun Z w v bs hac=>c8c Tryz.slices_Sort_int_none Tryz.slices_Sort_int hac (by omega)
 . cases h
theorem a3t (l:List Int):(Lib.compact l).length<=l.length:=by
 unfold Lib.compact Lib.compactUpTo
 rw [List.length_map]
 have:=List.length_filter_le (Lib.keeps l.toArray) (List.range l.length)
 rwa [List.length_range] at this
theorem b27 {l:List Int} {x:Int} (h:x∈Lib.compact l):x∈l:=by
 unfold Lib.compact Lib.compactUpTo at h
 obtain ⟨j,hj,rfl⟩:=List.mem_map.1 h
 have hj:=List.mem_range.1 (List.mem_filter.1 hj).1
 have e:l.toArray[j]! = l[j]:=by simp [hj]
 rw [e]
 exact List.getElem_mem hj
theorem b63 {Z:Nat->Prop} {bs:List Nat} {w:World} {v:Value} {l:List Int} (h:Ac B4 Z w v l bs) (hl:l.length<=1000000) :
  D4 Tryz.prog 100 [v] w fun v' w'=>Ac B4 Z w' v' (Lib.compact l) bs/\Ext bs w w':=by
 intro w1 hs
 obtain ⟨k,rfl⟩:=hs
 rcases h with ⟨rfl,rfl,rfl⟩ | ⟨b,cap,C,T,rfl,rfl,ho,hC,hle,hc⟩
 . refine Calls.mono (Tryz.slices_Compact_int_empty none 0 _) ?_
   rintro e w2 ⟨rfl,rfl⟩
   exact ⟨_,w,rfl,⟨k,rfl⟩,.inl ⟨rfl,rfl,rfl⟩,Ext.refl _ _⟩
 . obtain ⟨z,hz,ho⟩:=ho
   have hsz:C.length=cap:=by simpa [B4] using hC
   have hget:∀ i (h:i<l.length),C[i]?=some (.int .i64 l[i])/\InI l[i]:=by
    intro i hi
    obtain ⟨c,h1,h2,h3⟩:=hc i hi
    have:=h2 0 (by simp [B4])
    simp only [B4,Nat.mul_one,Nat.add_zero] at this h3
    rw [this,h3.1]; exact ⟨rfl,h3.2⟩
   refine Calls.mono (Tryz.slices_Compact_int b 0 cap l { w with drawn:=k } (fun j hj=>?_) (by omega) hle) ?_
   . have hj':j<l.length:=by simpa using hj
     constructor
     . simp only [World.cell?,show ({ w with drawn:=k }:World).heap[b]?=_ from ho]
       simp [(hget j hj').1,hj']
     . rcases hz with rfl | hz
       . simp [World.frozen?,show ({ w with drawn:=k }:World).heap[b]?=_ from ho]
       . simp [World.frozen?,show ({ w with drawn:=k }:World).heap[b]?=_ from ho]; omega
   . rintro e w2 ⟨rfl,n,rfl⟩
     have hcl:=a3t l
     have hmem:∀ x∈Lib.compact l,x∈l:=fun x=>b27
     generalize Lib.compact l=cl at hcl hmem
     obtain ⟨fl,hfl⟩:∃ fl,fl=(cl++List.replicate (l.length-cl.length) 0).toArray:=⟨_,rfl⟩
     rw [<- hfl]
     have hfs:fl.size=l.length:=by rw [hfl]; simp; omega
     have hfi:∀ i (h:i<cl.length) (h':i<fl.size),fl[i]=cl[i]:=by
      intro i h h'
      subst hfl
      simp [h]
     clear hfl
     have hh:(Sort.putRow (Value.int .i64) (Sort.ahead w n) b 0 fl).heap[b]?=some (.cells (Sort.putCells (Value.int .i64) 0 fl C.toArray) T z):=by
      simp only [Sort.putRow,Sort.mapBlock,Sort.ahead,Array.getElem?_modify,if_true]
      rw [show w.heap[b]?=_ from ho]; rfl
     have ho':M2 (Sort.putRow (Value.int .i64) (Sort.ahead w n) b 0 fl) b T (Sort.putCells (Value.int .i64) 0 fl C.toArray).toList:=by
      refine ⟨z,?_,by rw [hh]⟩
      simpa [Sort.putCells] using hz
     refine ⟨_,Sort.putRow (Value.int .i64) (Sort.ahead w n) b 0 fl,rfl,⟨k+n,rfl⟩,.inr ⟨b,cap,_,T,rfl,rfl,ho',?_,by omega,?_⟩,⟨rfl,rfl,rfl,?_,?_⟩⟩
     . simp [Sort.putCells,B4,hsz]
     . intro i hi
       refine ⟨[.int .i64 cl[i]],rfl,fun j hj=>?_,rfl,?_⟩
       . have:j=0:=by simp [B4] at hj; omega
         subst this
         have hci:i<C.length:=by omega
         have hil:i<fl.size:=by omega
         simp [Sort.putCells,B4,Array.getElem?_mapIdx,hci,hil,hfi i hi hil]
       . obtain ⟨j,hj,e⟩:=List.getElem_of_mem (hmem _ (List.getElem_mem hi))
         rw [<- e]; exact (hget j hj).2
     . simp [Sort.ahead,Sort.putRow,Sort.mapBlock]
     . intro x hx hn
       have hne:x≠b:=by simpa using hn
       simp only [Sort.putRow,Sort.mapBlock,Sort.ahead,Array.getElem?_modify]
       rw [if_neg (Ne.symm hne)]
def fCo:FC U:=⟨[],[],fun a its=>match a,its with
 | [.acc 0],[(0,.ac 3 l)]=>some ⟨[List.length (α:=Int) l<=1000000],[],.acc 2,[(2,.ac (N:=U) 3 (Lib.compact (α:=Int) l))],3⟩
 | _,_=>none⟩
theorem d5c (args:List (SV U)) (its:i6 U) (r:FR U) (h:fCo.C args its=some r) (ho:q6 r.ob):R9 Tryz.prog U eT Gl 100 args its (2 * its.length) (fun k=>q6 r.hy->k r.v r.its r.n):=by
 unfold fCo at h
 simp only at h
 split at h
 . rename_i l
   cases h
   have ho1:List.length (α:=Int) l<=1000000:=ho.1
   exact c91 (by have:=a3t l; omega) fun Z w v bs hac=>b63 hac ho1
 . cases h
end Go.Proofs.YtdjfeninmbpflaaGreat
end
section
namespace Go.Proofs.YtdjfeninmbpflaaGreat
open Go Go.Wk Go.Wl Go.Rx Go.Re 
noncomputable def N2:Env:=(((NqR.addC 98 cCl).addX 99 fSo).addX 100 fCo)
theorem c5f:j7 N2:=((d2p.addC Tryz.call98 d4l).addX Tryz.call99 d4w).addX Tryz.call100 d5c
end Go.Proofs.YtdjfeninmbpflaaGreat
end
section
namespace Go.Re
open Go.Wl
open Go.Rx (b9)
def w7 (l:List Int) (n:Int):Bool:=decide (n∈l)
theorem O8 {l:List Int} {n:Int}:w7 l n=true↔n∈l:=by unfold w7; exact decide_eq_true_iff
theorem F6 {α:Type} [Inhabited α] {l:List α} {x:α} (h:x∈l):∃ i:Int,0<=i/\i<l.length/\ix l i=x:=by
 obtain ⟨k,hk,e⟩:=List.getElem_of_mem h
 refine ⟨k,by omega,by omega,?_⟩
 rw [A8 (by omega)]
 exact e
theorem b2f {l:List Int} {n i:Int} (h0:0<=i) (h1:i<l.length) (h:ix l i=n):w7 l n=true:=O8.2 (h ▸ R6 h0 h1)
theorem b8x {l:List Int} {n:Int} (h:∀ i:Int,0<=i->i<l.length->ix l i≠n):w7 l n=false:=decide_eq_false fun hm=>by
 obtain ⟨i,h0,h1,e⟩:=F6 hm
 exact h i h0 h1 e
def F5 (a b:List Int):Bool:=decide (a=b)
theorem d0f {a b:List Int} (hl:a.length=b.length) (h:∀ i:Int,0<=i->i<a.length->ix a i=ix b i):a=b:=List.ext_getElem hl fun i h1 h2=>by
 have:=h i (by omega) (by omega)
 rw [A8 (by omega),A8 (by omega)] at this
 exact this
def hasE (l:List Int) (n all:Int):Bool:=w7 l n || w7 l (n-all-1)
def C4 (l:List Int) (n all:Int):Bool:=decide ((l.length:Int)=0) || hasE l n all
def a4b (x y:Int):Int:=if x<y then -1 else if y<x then 1 else 0
def a00 (a b:Nt):Int:=if a4b a.Day b.Day≠0 then a4b a.Day b.Day else a4b a.N b.N
theorem a69 {a b:Nt}:0<=a00 a b↔¬ a15 a b:=by
 unfold a00 a4b a15
 by_cases h1:a.Day<b.Day
 . simp [h1]
 . by_cases h2:b.Day<a.Day
   . simp [h1,h2]; omega
   . have e:a.Day=b.Day:=by omega
     by_cases h3:a.N<b.N
     . simp [e,h3]
     . by_cases h4:b.N<a.N
       . simp [e,h3,h4]
       . simp [e,h3,h4]
open Classical in
noncomputable def c56 (r:Rl):Bool:=decide (b2w r)
open Classical in
theorem d0r {r:Rl} (h:b2w r):true=c56 r:=(decide_eq_true h).symm
open Classical in
theorem d0y {r:Rl} (h:¬ b2w r):false=c56 r:=(decide_eq_false h).symm
def E7 (l:List Int):List Int:=Lib.compact (srt l)
def UpL (l:List Int):Prop:=∀ i:Int,0<i->i<l.length->ix l (i-1)<ix l i
theorem b2e {l:List Int} (h:UpL l):∀ (j i:Nat) (hi:i<j) (hj:j<l.length),l[i]'(by omega)<l[j]:=by
 intro j
 induction j with
 | zero=>intro i hi; omega
 | succ j ih =>
  intro i hi hj
  have h1:=h (j+1:Nat) (by omega) (by omega)
  have e:((j+1:Nat):Int)-1=(j:Int):=by omega
  rw [e,A8 (by omega),A8 (by omega)] at h1
  have h1:l[j]<l[j+1]:=h1
  by_cases e:i=j
  . subst e; exact h1
  . have:=ih i (by omega) (by omega)
    omega
theorem compact_all {l:List Int} (h:∀ j,j<l.length->Lib.keeps l.toArray j=true):Lib.compact l=l:=by
 unfold Lib.compact Lib.compactUpTo
 rw [List.filter_eq_self.2 fun j hj=>h j (List.mem_range.1 hj)]
 apply List.ext_getElem
 . simp
 . intro i h1 h2
   simp [h2]
theorem a9h {l:List Int} (h:(Lib.compact l).length=l.length):∀ j,j<l.length->Lib.keeps l.toArray j=true:=by
 unfold Lib.compact Lib.compactUpTo at h
 rw [List.length_map] at h
 have h2:((List.range l.length).filter (Lib.keeps l.toArray)).length=(List.range l.length).length:=by rw [h,List.length_range]
 have:=List.length_filter_eq_length_iff.1 h2
 exact fun j hj=>this j (List.mem_range.2 hj)
theorem a8c {l:List Int} {j:Nat} (hj:j<l.length):Lib.keeps l.toArray j=true↔(j=0 ∨ ix l ((j:Int)-1)≠ix l j):=by
 unfold Lib.keeps
 by_cases h0:j=0
 . subst h0; simp
 . have e1:l.toArray[j]! = ix l j:=by
     rw [A8 (by omega)]; simp [hj]
   have e2:l.toArray[j-1]! = ix l ((j:Int)-1):=by
    rw [A8 (by omega)]
    have:((j:Int)-1).toNat=j-1:=by omega
    simp only [this]
    have hj1:j-1<l.length:=by omega
    simp [hj1]
   rw [e1,e2,decide_eq_true_iff]
   exact ⟨fun h=>h.imp id fun h e=>h e.symm,fun h=>h.imp id fun h e=>h e.symm⟩
theorem c5p {l:List Int} (h:UpL l):srt l=l:=by
 unfold srt
 apply List.mergeSort_of_pairwise
 rw [List.pairwise_iff_getElem]
 intro i j hi hj hij
 have:=b2e h j i hij hj
 exact decide_eq_true (by omega)
theorem a6g {l:List Int}:l=E7 l↔UpL l:=by
 constructor
 . intro h
   have hlen:(Lib.compact (srt l)).length=(srt l).length:=by
    rw [a0g]
    exact congrArg List.length h.symm
   have hk:=a9h hlen
   have hs:srt l=l:=by
    have:=compact_all hk
    unfold E7 at h
    rw [this] at h
    exact h.symm
   rw [hs] at hk
   have hp:=d5h l
   rw [hs] at hp
   intro i h0 h1
   have k1:=(a8c (l:=l) (j:=i.toNat) (by omega)).1 (hk i.toNat (by omega))
   have e:((i.toNat:Nat):Int)=i:=by omega
   rw [e] at k1
   have k2:ix l (i-1)<=ix l i:=by
    rw [A8 (by omega),A8 (by omega)]
    exact List.pairwise_iff_getElem.1 hp _ _ (by omega) (by omega) (by omega)
   rcases k1 with k1 | k1
   . omega
   . omega
 . intro h
   unfold E7
   rw [c5p h,compact_all]
   intro j hj
   refine (a8c hj).2 ?_
   by_cases h0:j=0
   . exact .inl h0
   . right
     have:=h j (by omega) (by omega)
     omega
end Go.Re
end
section
namespace Go.Proofs.YtdjfeninmbpflaaGreat
open Go Go.Wk Go.Wl Go.Rx Go.Re 
attribute [local irreducible] m7
def e1h:Nat->Ann:=fun | 68=>⟨9,nn,nn⟩ | _=>⟨0,nn,nn⟩
def VgS (l:List Int) (Q:List Int->Prop):Prop :=
l.length<=1000000/\l.length<=1000000/\(srt l).length<=1000000/\Q (Lib.compact (srt l))
theorem pgS (l:List Int) (h0:l.length<=1000000):VgS l (fun y0=>y0=E7 l):=by
 unfold VgS
 exact ⟨h0,h0,by rw [a0g]; exact h0,rfl⟩
def cgS (a:List (SV U)) (nx:Nat):Option (CR U):=match a with | [.sl 3 l]=>some ⟨[List.length (α:=Int) l<=1000000],[],.acc nx,[.ac 3 (E7 l)]⟩ | _=>none
noncomputable def NgS:Env:=N2.addC 68 cgS
theorem b73:j7 NgS:=c5f.addC Tryz.call68 fun (args:List (SV U)) nx (c:CR U) (h:cgS args nx=some c) hp ho=>by
 unfold cgS at h
 split at h
 . rename_i l
   cases h
   exact d5n (an:=e1h 68) c5f (j6 c5f o9 e1h 2) Tryz.func68 (k:=.acc 3) (x:=E7 l) hp (kc (pgS l ho.1) (by kernel_rfl))
 . cases h
def e15:Nat->Ann:=fun | 67=>⟨26,fun | 4=>some ⟨[0,1,12],[.slot 13 (.int .i64)]⟩ | _=>none,nn⟩ | _=>⟨0,nn,nn⟩
def Veq (a:List Int) (b:List Int) (Q:Bool->Prop):Prop :=
((↑a.length:Int)≠(↑b.length:Int)->Q false)/\(¬(↑a.length:Int)≠(↑b.length:Int)->∃ (I:Int->Prop),∃ (m:Int->Nat),I (0:Int)/\∀ (x:Int),I x->(x<(↑a.length:Int)->(0:Int)<=x/\x<(↑a.length:Int)/\(b9 (ix a x)->(0:Int)<=x/\x<(↑b.length:Int)/\(b9 (ix b x)->(ix a x≠ix b x->Q false)/\(¬ix a x≠ix b x->b9 (x+1)/\I (x+1)/\m (x+1)<m x))))/\(¬x<(↑a.length:Int)->Q true))
theorem peq (a:List Int) (b:List Int) (ha:a.length<=1000000):Veq a b (fun y0=>y0=F5 a b):=by
 unfold Veq F5
 refine ⟨fun h=>(decide_eq_false (p:=(a:List Int)=b) fun e=>h (by rw [e])).symm,fun h=>?_⟩
 have hl:a.length=b.length:=by omega
 refine ⟨fun i=>0<=i/\∀ j:Int,0<=j->j<i->ix a j=ix b j,fun i=>((a.length:Int)-i).toNat,⟨by omega,fun j h0 h1=>absurd h1 (by omega)⟩,?_⟩
 rintro i ⟨i0,hi⟩
 refine ⟨fun h1=>⟨i0,h1,fun _=>⟨i0,by omega,fun _=>⟨fun hn=>(decide_eq_false (p:=(a:List Int)=b) fun e=>hn (by rw [e])).symm,fun he=>⟨⟨by omega,by omega⟩,⟨by omega,fun j j0 j1=>?_⟩,by dsimp only; omega⟩⟩⟩⟩,fun h1=>(decide_eq_true (p:=(a:List Int)=b) (d0f hl fun j j0 j1=>hi j j0 (by omega))).symm⟩
 by_cases e:j=i
 . subst e; exact Classical.not_not.1 he
 . exact hi j j0 (by omega)
def ceq (a:List (SV U)):Option (Q1 U):=match a with | [.sl 3 a,.sl 3 b]=>some ⟨[List.length (α:=Int) a<=1000000],[],blB (F5 a b)⟩ | _=>none
noncomputable def Neq:Env:=NgS.addL 67 ceq
theorem d6y:j7 Neq:=b73.addL Tryz.call67 fun (args:List (SV U)) (q:Q1 U) (h:ceq args=some q) ho=>by
 unfold ceq at h
 split at h
 . rename_i a b
   cases h
   exact q8 (an:=e15 67) b73 (j6 b73 o9 e15 2) Tryz.func67 (k:=.bool) (x:=F5 a b) trivial (kc (peq a b ho.1) (by kernel_rfl)) 0
 . cases h
noncomputable def d2a:Env:=Neq.addI 103 Tryz.f103
theorem a5f:j7 d2a:=d6y.addI Tryz.call103 Tryz.func103
def e0g:Nat->Ann:=fun | 78=>⟨9,nn,nn⟩ | 103=>⟨19,fun | 2=>some ⟨[0,1,7],[.slot 8 (.int .i64)]⟩ | _=>none,nn⟩ | _=>⟨0,nn,nn⟩
def VgC (l:List Int) (n:Int) (Q:Bool->Prop):Prop :=
∃ (I:Int->Prop),∃ (m:Int->Nat),I (0:Int)/\∀ (x:Int),I x->(x<(↑l.length:Int)->(0:Int)<=x/\x<(↑l.length:Int)/\(b9 (ix l x)->(n=ix l x->Q (decide ((0:Int)<=x)))/\(¬n=ix l x->b9 (x+1)/\I (x+1)/\m (x+1)<m x)))/\(¬x<(↑l.length:Int)->Q (decide ((0:Int)<=(-1:Int))))
theorem pgC (l:List Int) (n:Int) (hl:l.length<=1000000):VgC l n (fun y0=>y0=w7 l n):=by
 unfold VgC
 refine ⟨fun x=>0<=x/\∀ j:Int,0<=j->j<x->ix l j≠n,fun x=>((l.length:Int)-x).toNat,⟨by omega,fun j h0 h1=>absurd h1 (by omega)⟩,?_⟩
 rintro x ⟨x0,hx⟩
 refine ⟨fun h=>⟨x0,h,fun _=>⟨fun e=>?_,fun e=>⟨⟨by omega,by omega⟩,⟨by omega,fun j j0 j1=>?_⟩,by dsimp only; omega⟩⟩⟩,fun h=>?_⟩
 . rw [decide_eq_true x0]; exact (b2f x0 h e.symm).symm
 . by_cases ej:j=x
   . subst ej; exact fun h=>e h.symm
   . exact hx j j0 (by omega)
 . exact (b8x fun j j0 j1=>hx j j0 (by omega)).symm
def cgC (a:List (SV U)):Option (Q1 U):=match a with | [.sl 3 l,.int .i64 n]=>some ⟨[List.length (α:=Int) l<=1000000],[],blB (w7 l n)⟩ | _=>none
noncomputable def NgC:Env:=d2a.addL 78 cgC
theorem b6j:j7 NgC:=a5f.addL Tryz.call78 fun (args:List (SV U)) (q:Q1 U) (h:cgC args=some q) ho=>by
 unfold cgC at h
 split at h
 . rename_i l n
   cases h
   exact q8 (an:=e0g 78) a5f (j6 a5f o9 e0g 2) Tryz.func78 (k:=.bool) (x:=w7 l n) trivial (kc (pgC l n ho.1) (by kernel_rfl)) 0
 . cases h
def e04:Nat->Ann:=fun | 50=>⟨18,fun | 2=>some ⟨[0,1],[.slot 5 (.int .i64)]⟩ | _=>none,nn⟩ | _=>⟨0,nn,nn⟩
def Vxi (l:List Int) (n:Int) (Q:Bool->Prop):Prop :=
∃ (I:Int->Prop),∃ (m:Int->Nat),I (0:Int)/\∀ (x:Int),I x->(x<(↑l.length:Int)->(0:Int)<=x/\x<(↑l.length:Int)/\(b9 (ix l x)->(ix l x=n->Q true)/\(¬ix l x=n->b9 (x+1)/\I (x+1)/\m (x+1)<m x)))/\(¬x<(↑l.length:Int)->Q false)
theorem pxi (l:List Int) (n:Int) (hl:l.length<=1000000):Vxi l n (fun y0=>y0=w7 l n):=by
 unfold Vxi
 refine ⟨fun x=>0<=x/\∀ j:Int,0<=j->j<x->ix l j≠n,fun x=>((l.length:Int)-x).toNat,⟨by omega,fun j h0 h1=>absurd h1 (by omega)⟩,?_⟩
 rintro x ⟨x0,hx⟩
 refine ⟨fun h=>⟨x0,h,fun _=>⟨fun e=>?_,fun e=>⟨⟨by omega,by omega⟩,⟨by omega,fun j j0 j1=>?_⟩,by dsimp only; omega⟩⟩⟩,fun h=>?_⟩
 . exact (b2f x0 h e).symm
 . by_cases ej:j=x
   . subst ej; exact e
   . exact hx j j0 (by omega)
 . exact (b8x fun j j0 j1=>hx j j0 (by omega)).symm
def cxi (a:List (SV U)):Option (Q1 U):=match a with | [.sl 3 l,.int .i64 n]=>some ⟨[List.length (α:=Int) l<=1000000],[],blB (w7 l n)⟩ | _=>none
noncomputable def Nxi:Env:=NgC.addL 50 cxi
theorem d5d:j7 Nxi:=b6j.addL Tryz.call50 fun (args:List (SV U)) (q:Q1 U) (h:cxi args=some q) ho=>by
 unfold cxi at h
 split at h
 . rename_i l n
   cases h
   exact q8 (an:=e04 50) b6j (j6 b6j o9 e04 2) Tryz.func50 (k:=.bool) (x:=w7 l n) trivial (kc (pxi l n ho.1) (by kernel_rfl)) 0
 . cases h
noncomputable def d0x:Env:=Nxi.addI 113 Tryz.f113
theorem a6u:j7 d0x:=d5d.addI Tryz.call113 Tryz.func113
def d9h:Nat->Ann:=fun | 102=>⟨20,nn,nn⟩ | 113=>⟨6,nn,nn⟩ | _=>⟨0,nn,nn⟩
def Vgp (x:Int) (y:Int) (Q:Int->Prop):Prop :=
(x≠x->(y≠y->Q (0:Int))/\(¬y≠y->Q (-1:Int)))/\(¬x≠x->(y≠y->Q (1:Int))/\(¬y≠y->(x<y->Q (-1:Int))/\(¬x<y->(y<x->Q (1:Int))/\(¬y<x->Q (0:Int)))))
theorem pgp (x:Int) (y:Int)  : Vgp x y (fun y0=>y0=a4b x y):=by
 unfold Vgp a4b
 refine ⟨fun h=>absurd rfl h,fun _=>⟨fun h=>absurd rfl h,fun _=>⟨fun h=>by rw [if_pos h],fun h=>⟨fun h2=>by rw [if_neg h,if_pos h2],fun h2=>by rw [if_neg h,if_neg h2]⟩⟩⟩⟩
def cgp (a:List (SV U)):Option (Q1 U):=match a with | [.int .i64 x,.int .i64 y]=>some ⟨[],[],.int .i64 (a4b x y)⟩ | _=>none
noncomputable def Ngp:Env:=d0x.addL 102 cgp
theorem b7g:j7 Ngp:=a6u.addL Tryz.call102 fun (args:List (SV U)) (q:Q1 U) (h:cgp args=some q) ho=>by
 unfold cgp at h
 split at h
 . rename_i x y
   cases h
   exact q8 (an:=d9h 102) a6u (j6 a6u o9 d9h 2) Tryz.func102 (k:=.int .i64) (x:=a4b x y) trivial (kc (pgp x y ) (by kernel_rfl)) 0
 . cases h
def d8c:Nat->Ann:=fun | 72=>⟨17,nn,nn⟩ | _=>⟨0,nn,nn⟩
def VgO (r:Rl) (Q:Int->Prop):Prop :=
(r.Freq=0/\(↑r.WeekNo.length:Int)=0->Q (53:Int))/\(¬(r.Freq=0/\(↑r.WeekNo.length:Int)=0)->(r.Freq=1->Q (5:Int))/\(¬r.Freq=1->Q (0:Int)))
theorem pgO (r:Rl)  : VgO r (fun y0=>y0=D3 r):=by
 unfold VgO D3
 refine ⟨fun h=>by rw [if_neg (by omega),if_pos h],fun h=>⟨fun h1=>by rw [if_pos h1],fun h1=>by rw [if_neg h1,if_neg h]⟩⟩
noncomputable def e2v (r:Rl):Q1 U:=⟨[],[],.int .i64 (D3 r)⟩
noncomputable def cgO (a:List (SV U)):Option (Q1 U):=match a with | [.agg l_r]=>(y30.bk (.agg l_r)).bind fun r=>some (e2v r) | _=>none
noncomputable def NgO:Env:=Ngp.addL 72 cgO
theorem b5y:j7 NgO:=b7g.addL Tryz.call72 fun (args:List (SV U)) (q:Q1 U) (h:cgO args=some q) ho=>by
 unfold cgO at h
 split at h
 . rename_i l_r
   obtain ⟨r,hb_r,h⟩:=Option.bind_eq_some_iff.1 h
   cases h
   refine A3.conv (E:=Ngp) (args':=[.agg [.int .i64 r.Freq,.int .i64 r.Interval,.int .i64 r.Count,.sl 25 r.Until,.sl 3 r.Month,.sl 3 r.WeekNo,.sl 3 r.YearDay,.sl 3 r.MonthDay,.sl 60 r.Days,.sl 3 r.Hour,.sl 3 r.Minute,.sl 3 r.Second,.sl 3 r.SetPos,.int .i64 r.Wkst]]) (q8 (an:=d8c 72) b7g (j6 b7g o9 d8c 2) Tryz.func72 (k:=.int .i64) trivial (kc (pgO r ) (by kernel_rfl)) 0) fun D w vs hr=>q9 [.agg l_r] [.agg [.int .i64 r.Freq,.int .i64 r.Interval,.int .i64 r.Count,.sl (N:=U) 25 r.Until,.sl (N:=U) 3 r.Month,.sl (N:=U) 3 r.WeekNo,.sl (N:=U) 3 r.YearDay,.sl (N:=U) 3 r.MonthDay,.sl (N:=U) 60 r.Days,.sl (N:=U) 3 r.Hour,.sl (N:=U) 3 r.Minute,.sl (N:=U) 3 r.Second,.sl (N:=U) 3 r.SetPos,.int .i64 r.Wkst]] _ ⟨fun _ h=>s9 hb_r h,trivial⟩ hr
 . cases h
def d9x:Nat->Ann:=fun | 74=>⟨24,nn,nn⟩ | _=>⟨0,nn,nn⟩
def VgF (r:Rl) (Q:Bool->Prop):Prop :=
(r.Freq=2->((0:Int)<(↑r.MonthDay.length:Int)->Q false)/\(¬(0:Int)<(↑r.MonthDay.length:Int)->((0:Int)<(↑r.YearDay.length:Int)->Q false)/\(¬(0:Int)<(↑r.YearDay.length:Int)->((0:Int)<(↑r.WeekNo.length:Int)->Q false)/\(¬(0:Int)<(↑r.WeekNo.length:Int)->Q true))))/\(¬r.Freq=2->(r.Freq=1->(r.Freq=1->((0:Int)<(↑r.YearDay.length:Int)->Q false)/\(¬(0:Int)<(↑r.YearDay.length:Int)->((0:Int)<(↑r.WeekNo.length:Int)->Q false)/\(¬(0:Int)<(↑r.WeekNo.length:Int)->Q true)))/\(¬r.Freq=1->(r.Freq=0->Q true)/\(¬r.Freq=0->((0:Int)<(↑r.WeekNo.length:Int)->Q false)/\(¬(0:Int)<(↑r.WeekNo.length:Int)->Q true))))/\(¬r.Freq=1->(r.Freq=3->((0:Int)<(↑r.YearDay.length:Int)->Q false)/\(¬(0:Int)<(↑r.YearDay.length:Int)->((0:Int)<(↑r.WeekNo.length:Int)->Q false)/\(¬(0:Int)<(↑r.WeekNo.length:Int)->Q true)))/\(¬r.Freq=3->(r.Freq=0->Q true)/\(¬r.Freq=0->((0:Int)<(↑r.WeekNo.length:Int)->Q false)/\(¬(0:Int)<(↑r.WeekNo.length:Int)->Q true)))))
theorem pgF (r:Rl)  : VgF r (fun y0=>y0=c56 r):=by
 unfold VgF
 repeat' (first | intro _ | apply And.intro)
 all_goals first | exact d0r (by unfold b2w; omega) | exact d0y (by unfold b2w; omega)
noncomputable def e22 (r:Rl):Q1 U:=⟨[],[],blB (c56 r)⟩
noncomputable def cgF (a:List (SV U)):Option (Q1 U):=match a with | [.agg l_r]=>(y30.bk (.agg l_r)).bind fun r=>some (e22 r) | _=>none
noncomputable def NgF:Env:=NgO.addL 74 cgF
theorem b4l:j7 NgF:=b5y.addL Tryz.call74 fun (args:List (SV U)) (q:Q1 U) (h:cgF args=some q) ho=>by
 unfold cgF at h
 split at h
 . rename_i l_r
   obtain ⟨r,hb_r,h⟩:=Option.bind_eq_some_iff.1 h
   cases h
   refine A3.conv (E:=NgO) (args':=[.agg [.int .i64 r.Freq,.int .i64 r.Interval,.int .i64 r.Count,.sl 25 r.Until,.sl 3 r.Month,.sl 3 r.WeekNo,.sl 3 r.YearDay,.sl 3 r.MonthDay,.sl 60 r.Days,.sl 3 r.Hour,.sl 3 r.Minute,.sl 3 r.Second,.sl 3 r.SetPos,.int .i64 r.Wkst]]) (q8 (an:=d9x 74) b5y (j6 b5y o9 d9x 2) Tryz.func74 (k:=.bool) trivial (kc (pgF r ) (by kernel_rfl)) 0) fun D w vs hr=>q9 [.agg l_r] [.agg [.int .i64 r.Freq,.int .i64 r.Interval,.int .i64 r.Count,.sl (N:=U) 25 r.Until,.sl (N:=U) 3 r.Month,.sl (N:=U) 3 r.WeekNo,.sl (N:=U) 3 r.YearDay,.sl (N:=U) 3 r.MonthDay,.sl (N:=U) 60 r.Days,.sl (N:=U) 3 r.Hour,.sl (N:=U) 3 r.Minute,.sl (N:=U) 3 r.Second,.sl (N:=U) 3 r.SetPos,.int .i64 r.Wkst]] _ ⟨fun _ h=>s9 hb_r h,trivial⟩ hr
 . cases h
def e0q:Nat->Ann:=fun | 73=>⟨19,nn,nn⟩ | _=>⟨0,nn,nn⟩
def VgB (a:Nt) (b:Nt) (Q:Int->Prop):Prop :=
(a4b a.Day b.Day≠0->Q (a4b a.Day b.Day))/\(¬a4b a.Day b.Day≠0->Q (a4b a.N b.N))
theorem pgB (a:Nt) (b:Nt)  : VgB a b (fun y0=>y0=a00 a b):=by
 unfold VgB a00
 exact ⟨fun h=>by rw [if_pos h],fun h=>by rw [if_neg h]⟩
def e30 (a:Nt) (b:Nt):Q1 U:=⟨[],[],.int .i64 (a00 a b)⟩
def cgB (a:List (SV U)):Option (Q1 U):=match a with | [.agg [.int .i64 a0,.int .i64 a1],.agg [.int .i64 b0,.int .i64 b1]]=>some (e30 (⟨a0,a1⟩) (⟨b0,b1⟩)) | _=>none
noncomputable def NgB:Env:=NgF.addL 73 cgB
theorem d4y:j7 NgB:=b4l.addL Tryz.call73 fun (args:List (SV U)) (q:Q1 U) (h:cgB args=some q) ho=>by
 unfold cgB at h
 split at h
 . rename_i a0 a1 b0 b1
   cases h
   exact q8 (an:=e0q 73) b4l (j6 b4l o9 e0q 2) Tryz.func73 (k:=.int .i64) (x:=a00 (⟨a0,a1⟩:Nt) (⟨b0,b1⟩:Nt)) trivial (kc (pgB (⟨a0,a1⟩) (⟨b0,b1⟩) ) (by kernel_rfl)) 0
 . cases h
noncomputable def d7y:Env:=NgB.addI 66 Tryz.f66
theorem c8m:j7 d7y:=d4y.addI Tryz.call66 Tryz.func66
noncomputable def e07:Env:=d7y.addI 71 Tryz.f71
theorem c7v:j7 e07:=c8m.addI Tryz.call71 Tryz.func71
noncomputable def d1i:Env:=e07.addI 101 Tryz.f101
theorem c36:j7 d1i:=c7v.addI Tryz.call101 Tryz.func101
noncomputable def c9p:Env:=d1i.addI 70 Tryz.f70
theorem b0l:j7 c9p:=c36.addI Tryz.call70 Tryz.func70
end Go.Proofs.YtdjfeninmbpflaaGreat
end
section
namespace Go.Re
open Go Go.Wk Go.Wl Go.Rx
def b3r (lo hi:Int) (b:Bool) (n:Int):Prop:=(lo<=n/\n<=hi) ∨ (b=true/\n<=-lo)/\-hi<=n
instance (lo hi:Int) (b:Bool) (n:Int):Decidable (b3r lo hi b n):=by unfold b3r; infer_instance
def L8 (l:List Int) (lo hi:Int) (b:Bool):Bool:=l.any fun n=>decide (¬ b3r lo hi b n)
theorem b1a {l:List Int} {lo hi:Int} {b:Bool} {i:Int} (h0:0<=i) (h1:i<l.length) (h:¬ b3r lo hi b (ix l i)):L8 l lo hi b=true:=List.any_eq_true.2 ⟨_,R6 h0 h1,decide_eq_true h⟩
theorem b9f {l:List Int} {lo hi:Int} {b:Bool} (h:∀ i:Int,0<=i->i<l.length->b3r lo hi b (ix l i)):L8 l lo hi b=false:=by
 cases hb:L8 l lo hi b with
 | false=>rfl
 | true =>
  obtain ⟨n,hn,hd⟩:=List.any_eq_true.1 hb
  obtain ⟨i,h0,h1,rfl⟩:=F6 hn
  exact absurd (h i h0 h1) (of_decide_eq_true hd)
theorem c4g {lo hi:Int} {b:Bool} {n:Int} (h0:0<=lo):b3r lo hi b n↔OkN lo hi b n:=by
 unfold b3r OkN
 cases b with
 | false=>simp
 | true =>
  simp only [true_and]
  split <;> constructor <;> intro h <;> omega
theorem b32 {l:List Int} {lo hi:Int} {b:Bool} (h0:0<=lo):M5 l lo hi b↔((l.length:Int)<=24/\l=E7 l)/\L8 l lo hi b=false:=by
 constructor
 . intro h
   exact ⟨⟨h.few,a6g.2 h.up⟩,b9f fun i a c=>(c4g h0).2 (h.ok i a c)⟩
 . rintro ⟨⟨h1,h2⟩,h3⟩
   refine ⟨fun i a c=>(c4g h0).1 (Classical.not_not.1 fun hn=>?_),a6g.1 h2,h1⟩
   rw [b1a a c hn] at h3; cases h3
section
variable {l:List Int} {lo hi:Int} {b:Bool}
theorem a3v (h:24<(l.length:Int)):¬ M5 l lo hi b:=fun r=>by have:=r.few; omega
theorem a48 (h:False ∨ ¬ F5 l (E7 l)=true):¬ M5 l lo hi b:=fun r=>h.elim id fun h=>h (decide_eq_true (a6g.2 r.up))
theorem a3z (h0:0<=lo) (h:False ∨ L8 l lo hi b=true):¬ M5 l lo hi b:=fun r=>h.elim id fun h=>by rw [((b32 h0).1 r).2] at h; cases h
theorem a3u (h0:0<=lo) (h1:¬ 24<(l.length:Int)) (h2:¬ (False ∨ ¬ F5 l (E7 l)=true)) (h3:¬ (False ∨ L8 l lo hi b=true)):M5 l lo hi b :=
 (b32 h0).2 ⟨⟨by omega,of_decide_eq_true (Classical.not_not.1 fun hn=>h2 (.inr hn))⟩,by
  cases hb:L8 l lo hi b with
  | false=>rfl
  | true=>exact absurd (.inr hb) h3⟩
theorem a5n (l:List Int):max 1 (l.length:Int)=E8 l:=by unfold E8; split <;> omega
end
end Go.Re
end
section
namespace Go.Proofs.YtdjfeninmbpflaaGreat
open Go Go.Wk Go.Wl Go.Rx Go.Re 
attribute [local irreducible] m7
def e00:Nat->Ann:=fun | 69=>⟨9,nn,nn⟩ | 101=>⟨19,fun | 2=>some ⟨[0,1,7],[.slot 8 (.int .i64)]⟩ | _=>none,nn⟩ | 70=>⟨8,nn,nn⟩ | 71=>⟨33,nn,nn⟩ | _=>⟨0,nn,nn⟩
def VgX (l:List Int) (x:Ls) (Q:Bool->Prop):Prop :=
∃ (I:Int->Prop),∃ (m:Int->Nat),I (0:Int)/\∀ (x_1:Int),I x_1->(x_1<(↑l.length:Int)->(0:Int)<=x_1/\x_1<(↑l.length:Int)/\(b9 (ix l x_1)->(¬((ix [x] (0:Int)).lo<=ix l x_1/\ix l x_1<=(ix [x] (0:Int)).hi)/\(ix [x] (0:Int)).both=true->b9 ((0:Int)-(ix [x] (0:Int)).lo))/\(¬((ix [x] (0:Int)).lo<=ix l x_1/\ix l x_1<=(ix [x] (0:Int)).hi)/\(ix [x] (0:Int)).both=true/\ix l x_1<=(0:Int)-(ix [x] (0:Int)).lo->b9 ((0:Int)-(ix [x] (0:Int)).hi))/\(¬((ix [x] (0:Int)).lo<=ix l x_1/\ix l x_1<=(ix [x] (0:Int)).hi ∨ ((ix [x] (0:Int)).both=true/\ix l x_1<=(0:Int)-(ix [x] (0:Int)).lo)/\(0:Int)-(ix [x] (0:Int)).hi<=ix l x_1)->Q (decide ((0:Int)<=x_1)))/\(¬¬((ix [x] (0:Int)).lo<=ix l x_1/\ix l x_1<=(ix [x] (0:Int)).hi ∨ ((ix [x] (0:Int)).both=true/\ix l x_1<=(0:Int)-(ix [x] (0:Int)).lo)/\(0:Int)-(ix [x] (0:Int)).hi<=ix l x_1)->b9 (x_1+1)/\I (x_1+1)/\m (x_1+1)<m x_1)))/\(¬x_1<(↑l.length:Int)->Q (decide ((0:Int)<=(-1:Int))))
theorem pgX (l:List Int) (x:Ls) (hl:l.length<=1000000) (l0:-1000<=x.lo) (l1:x.lo<=1000) (u0:-1000<=x.hi) (u1:x.hi<=1000):VgX l x (fun y0=>y0=L8 l x.lo x.hi x.both):=by
 unfold VgX
 have ex:ix [x] 0=x:=rfl
 rw [ex]
 have z:∀ n:Int,0-n=-n:=fun n=>by omega
 simp only [z]
 refine ⟨fun i=>0<=i/\∀ j:Int,0<=j->j<i->b3r x.lo x.hi x.both (ix l j),fun i=>((l.length:Int)-i).toNat,⟨by omega,fun j a b=>absurd b (by omega)⟩,?_⟩
 rintro i ⟨i0,hi⟩
 refine ⟨fun h=>⟨i0,h,fun _=>⟨fun _=>⟨by omega,by omega⟩,fun _=>⟨by omega,by omega⟩,fun hn=>?_,fun hn=>⟨⟨by omega,by omega⟩,⟨by omega,fun j j0 j1=>?_⟩,by dsimp only; omega⟩⟩⟩,fun h=>?_⟩
 . rw [decide_eq_true i0]; exact (b1a i0 h hn).symm
 . by_cases e:j=i
   . subst e; exact Classical.not_not.1 hn
   . exact hi j j0 (by omega)
 . exact (b9f fun j a b=>hi j a (by omega)).symm
def cgX (a:List (SV U)):Option (Q1 U):=match a with | [.sl 3 l,.clo 70 [.fel 101 [x] 0 0]]=>some ⟨[List.length (α:=Int) l<=1000000,-1000<=x.lo,x.lo<=1000,-1000<=x.hi,x.hi<=1000],[],blB (L8 l x.lo x.hi x.both)⟩ | _=>none
theorem d6h (args:List (SV U)) (q:Q1 U) (h:cgX args=some q) (ho:q6 q.ob):A3 c9p 69 args ⟨q.ob,q.hy,q.v,[]⟩:=by
 unfold cgX at h
 split at h
 . rename_i l x
   cases h
   exact q8 (an:=e00 69) b0l (j6 b0l o9 e00 4) Tryz.func69 (k:=.bool) (x:=L8 l x.lo x.hi x.both) trivial (kc (pgX l x ho.1 ho.2.1 ho.2.2.1 ho.2.2.2.1 ho.2.2.2.2.1) (by kernel_rfl)) 0
 . cases h
theorem d3f {w:World} {L:Rx.Loc} {D:Nat->Prop} {x:Ls} {c:Value} (ho:Own w L.b 101 [sv x.wd,c,.int .i64 x.lo,.int .i64 x.hi,.bool x.both]) (hD:D L.b) (hp:w5 c=true) (h1:x.wd.length<=9223372036854775807) (h2:InI x.lo) (h3:InI x.hi):(v8 (U.tb 101).r).rd D w [.slice (some ⟨L.b,0,none⟩) [x].length 1] [x] :=
 ⟨by show (1:Nat)<=9223372036854775807; omega,_,_,rfl,⟨fun h=>(by cases h),Nat.le_refl _⟩,fun i hi=>by
  have hi:i<1:=hi
  have e:i=0:=by omega
  subst e
  exact ⟨_,_,_,rfl,hD,Own.cells ho 0 _ [] rfl,c,rfl,hp,h1,h2,h3⟩⟩
def cXr (args:List (SV U)) (its:i6 U):Option (Q1 U):=match args with
 | [.sl 3 l,.clo 70 [.ref i 0]]=>(match lk its i with
  | some (.own 101 [.str wd,_,.int .i64 lo,.int .i64 hi,vb])=>(b0b vb).bind fun b=>some ⟨[List.length (α:=Int) l<=1000000,-1000<=lo,lo<=1000,-1000<=hi,hi<=1000],[],blB (L8 l lo hi b)⟩
  | _=>none)
 | _=>none
theorem d5y (args:List (SV U)) (its:i6 U) (q:Q1 U) (h:cXr args its=some q) (ho:q6 q.ob):c3h Tryz.prog U eT Gl 69 args its q:=by
 unfold cXr at h
 split at h
 . rename_i l i
   split at h
   . rename_i wd vc lo hi vb hi'
     obtain ⟨b,hb,h⟩:=Option.bind_eq_some_iff.1 h
     cases h
     intro ρ Z w vs _ hh ha
     obtain ⟨L,cs,hL,hbs,how,hr⟩:=hh _ _ hi'
     obtain ⟨v1,r1,rfl,h1,_,hr⟩:=i7.cons_inv hr
     obtain ⟨v2,r2,rfl,_,p2,hr⟩:=i7.cons_inv hr
     obtain ⟨v3,r3,rfl,h3,_,hr⟩:=i7.cons_inv hr
     obtain ⟨v4,r4,rfl,h4,_,hr⟩:=i7.cons_inv hr
     obtain ⟨v5,r5,rfl,h5,_,hr⟩:=i7.cons_inv hr
     obtain rfl:=i7.nil_inv hr
     have h5:=a18 (E:=c9p) hb h5
     cases h1 with | str q1 =>
     cases h3 with | int q3 =>
     cases h4 with | int q4 =>
     cases h5 with | bl =>
     rw [Bool.decide_eq_true] at how
     obtain ⟨u1,rr,rfl,g1,ha⟩:=Rep.tup_cons ha
     obtain ⟨u2,rr2,rfl,g2,ha⟩:=Rep.tup_cons ha
     obtain rfl:=Z5 ha
     obtain ⟨b1,b2,b3,b4,b5,_⟩:=ho
     have hrow:=d3f (L:=L) (D:=fun k=>(Z k/\k<w.heap.size) ∨ k=L.b) (x:=⟨wd,lo,hi,b⟩) how (.inr rfl) p2 q1 (q3 rfl) (q4 rfl)
     refine d6h [.sl 3 l,.clo 70 [.fel (N:=U) 101 [Ls.mk wd lo hi b] 0 0]] _ rfl ⟨b1,b2,b3,b4,b5,trivial⟩ (fun k=>(Z k/\k<w.heap.size) ∨ k=L.b) w _ (fun k hk=>hk.elim (fun h=>h.2) fun h=>by rw [h]; exact how.lt) trivial ?_
     refine .tup1 (cs:=[_]) ?_ (.tup1 (cs:=[]) ?_ .tup0)
     . cases g1 with
       | sl g=>exact .sl (Rd.mono _ g (Ext.refl [] w) (fun _ h=>by cases h) fun k hz hk=>.inl ⟨hz,hk⟩)
     . cases g2 with
       | clo g =>
        obtain ⟨c1,cr,e1,hc1,hp1,hcr⟩:=i7.cons_inv (cs:=_) g
        obtain rfl:=i7.nil_inv hcr
        cases hc1 with
        | ref hL' =>
         rw [hL] at hL'; cases hL'
         have:=Rep.fel (N:=U) (T:=eT) (ρ:=fun _=>none) (t:=101) (off:=0) hrow (i:=0) (by omega) (by show (0:Int)<1; omega)
         rw [show _=_ from e1]
         exact .clo (i7.cons this rfl i7.nil)
   . cases h
 . cases h
noncomputable def NXr:Env:=c9p.addR 69 cXr
theorem b6r:j7 NXr:=b0l.addR Tryz.call69 d5y
def d7j:Nat->Ann:=fun | 40=>⟨201,fun | 16=>some ⟨[1,3,6,127,128],[.slot 129 (.int .i64)]⟩ | 7=>some ⟨[1,3,80,81,82],[.unr 9]⟩ | _=>none,fun | 1000009=>some ⟨[6,19],[]⟩ | 2000007=>some ⟨[83],[]⟩ | 2000011=>some ⟨[115],[]⟩ | _=>none⟩ | 66=>⟨36,nn,nn⟩ | _=>⟨0,nn,nn⟩
def Y5 (r:Rl):=Rl.mk r.Freq r.Interval r.Count r.Until r.Month r.WeekNo r.YearDay r.MonthDay r.Days r.Hour r.Minute r.Second r.SetPos r.Wkst
def c8y (r:Rl):=(bif true then max (1:Int) (↑r.Hour.length:Int) else min (1:Int) (↑r.Hour.length:Int)) * bif true then max (1:Int) (↑r.Minute.length:Int) else min (1:Int) (↑r.Minute.length:Int)
def VgR (r:Rl) (Q:Bool->Prop):Prop :=
(((((((r.Freq<0 ∨ (6:Int)<r.Freq) ∨ r.Interval<1) ∨ (9999:Int)<r.Interval) ∨ r.Count<0) ∨ (9999:Int)<r.Count) ∨ r.Wkst<0) ∨ (6:Int)<r.Wkst->Q false)/\(¬(((((((r.Freq<0 ∨ (6:Int)<r.Freq) ∨ r.Interval<1) ∨ (9999:Int)<r.Interval) ∨ r.Count<0) ∨ (9999:Int)<r.Count) ∨ r.Wkst<0) ∨ (6:Int)<r.Wkst)->((¬(1:Int)<(↑r.Until.length:Int)/\(↑r.Until.length:Int)=1)/\¬(0:Int)<r.Count->(0:Int)<=0)/\((¬(1:Int)<(↑r.Until.length:Int)/\(↑r.Until.length:Int)=1)/\¬(0:Int)<r.Count->(0:Int)<(↑r.Until.length:Int))/\(((¬(1:Int)<(↑r.Until.length:Int)/\(↑r.Until.length:Int)=1)/\¬(0:Int)<r.Count->b9 (ix r.Until (0:Int)).Day.Year)->((¬(1:Int)<(↑r.Until.length:Int)/\(↑r.Until.length:Int)=1)/\¬(0:Int)<r.Count->b9 (ix r.Until (0:Int)).Day.Month)->((¬(1:Int)<(↑r.Until.length:Int)/\(↑r.Until.length:Int)=1)/\¬(0:Int)<r.Count->b9 (ix r.Until (0:Int)).Day.Date)->((¬(1:Int)<(↑r.Until.length:Int)/\(↑r.Until.length:Int)=1)/\¬(0:Int)<r.Count->b9 (ix r.Until (0:Int)).Hour)->((¬(1:Int)<(↑r.Until.length:Int)/\(↑r.Until.length:Int)=1)/\¬(0:Int)<r.Count->b9 (ix r.Until (0:Int)).Min)->((¬(1:Int)<(↑r.Until.length:Int)/\(↑r.Until.length:Int)=1)/\¬(0:Int)<r.Count->b9 (ix r.Until (0:Int)).Sec)->(((1:Int)<(↑r.Until.length:Int) ∨ (↑r.Until.length:Int)=1/\((0:Int)<r.Count ∨ ¬n7 (Tm.mk (Dy.mk (ix r.Until (0:Int)).Day.Year (ix r.Until (0:Int)).Day.Month (ix r.Until (0:Int)).Day.Date) (ix r.Until (0:Int)).Hour (ix r.Until (0:Int)).Min (ix r.Until (0:Int)).Sec (decide ((ix r.Until (0:Int)).Bare=true)) (decide ((ix r.Until (0:Int)).UTC=true)))=true)) ∨ (24:Int)<(↑r.Days.length:Int)->Q false)/\(¬(((1:Int)<(↑r.Until.length:Int) ∨ (↑r.Until.length:Int)=1/\((0:Int)<r.Count ∨ ¬n7 (Tm.mk (Dy.mk (ix r.Until (0:Int)).Day.Year (ix r.Until (0:Int)).Day.Month (ix r.Until (0:Int)).Day.Date) (ix r.Until (0:Int)).Hour (ix r.Until (0:Int)).Min (ix r.Until (0:Int)).Sec (decide ((ix r.Until (0:Int)).Bare=true)) (decide ((ix r.Until (0:Int)).UTC=true)))=true)) ∨ (24:Int)<(↑r.Days.length:Int))->(0:Int)<=0/\(0:Int)<(↑(8:Nat):Int)/\((24:Int)<(↑r.Month.length:Int)->((↑r.Month.length:Int)-((24:Int)+1)).NonNeg/\Q false)/\(¬(24:Int)<(↑r.Month.length:Int)->(False ∨ ¬F5 r.Month (E7 r.Month)=true->((24:Int)<(↑r.Month.length:Int)->False)/\(¬False/\r.Month.length<=1000000)/\(¬False->r.Month.length<=1000000)/\(False ∨ ¬F5 r.Month (E7 r.Month)=true)/\Q false)/\(¬(False ∨ ¬F5 r.Month (E7 r.Month)=true)->((24:Int)<(↑r.Month.length:Int)->False)/\(¬False/\r.Month.length<=1000000)/\(¬False->r.Month.length<=1000000)/\(False ∨ ¬F5 r.Month (E7 r.Month)=true->False)/\((¬False->r.Month.length<=1000000)/\(¬False->(-1000:Int)<=1)/\(¬False->(1:Int)<=1000)/\(¬False->(-1000:Int)<=12)/\(¬False->(12:Int)<=1000))/\(False ∨ L8 r.Month (1:Int) (12:Int) false=true->Q false)/\(¬(False ∨ L8 r.Month (1:Int) (12:Int) false=true)->b9 ((↑r.Days.length:Int)+(↑r.Month.length:Int))/\b9 ((0:Int)+1)/\(0:Int)<=(0:Int)+1/\(0:Int)+1<(↑(8:Nat):Int)/\((24:Int)<(↑r.WeekNo.length:Int)->((↑r.WeekNo.length:Int)-((24:Int)+1)).NonNeg/\Q false)/\(¬(24:Int)<(↑r.WeekNo.length:Int)->(False ∨ ¬F5 r.WeekNo (E7 r.WeekNo)=true->((24:Int)<(↑r.WeekNo.length:Int)->False)/\(¬False/\r.WeekNo.length<=1000000)/\(¬False->r.WeekNo.length<=1000000)/\(False ∨ ¬F5 r.WeekNo (E7 r.WeekNo)=true)/\Q false)/\(¬(False ∨ ¬F5 r.WeekNo (E7 r.WeekNo)=true)->((24:Int)<(↑r.WeekNo.length:Int)->False)/\(¬False/\r.WeekNo.length<=1000000)/\(¬False->r.WeekNo.length<=1000000)/\(False ∨ ¬F5 r.WeekNo (E7 r.WeekNo)=true->False)/\((¬False->r.WeekNo.length<=1000000)/\(¬False->(-1000:Int)<=1)/\(¬False->(1:Int)<=1000)/\(¬False->(-1000:Int)<=53)/\(¬False->(53:Int)<=1000))/\(False ∨ L8 r.WeekNo (1:Int) (53:Int) true=true->Q false)/\(¬(False ∨ L8 r.WeekNo (1:Int) (53:Int) true=true)->b9 ((↑r.Days.length:Int)+(↑r.Month.length:Int)+(↑r.WeekNo.length:Int))/\b9 ((0:Int)+1+1)/\(0:Int)<=(0:Int)+1+1/\(0:Int)+1+1<(↑(8:Nat):Int)/\((24:Int)<(↑r.YearDay.length:Int)->((↑r.YearDay.length:Int)-((24:Int)+1)).NonNeg/\Q false)/\(¬(24:Int)<(↑r.YearDay.length:Int)->(False ∨ ¬F5 r.YearDay (E7 r.YearDay)=true->((24:Int)<(↑r.YearDay.length:Int)->False)/\(¬False/\r.YearDay.length<=1000000)/\(¬False->r.YearDay.length<=1000000)/\(False ∨ ¬F5 r.YearDay (E7 r.YearDay)=true)/\Q false)/\(¬(False ∨ ¬F5 r.YearDay (E7 r.YearDay)=true)->((24:Int)<(↑r.YearDay.length:Int)->False)/\(¬False/\r.YearDay.length<=1000000)/\(¬False->r.YearDay.length<=1000000)/\(False ∨ ¬F5 r.YearDay (E7 r.YearDay)=true->False)/\((¬False->r.YearDay.length<=1000000)/\(¬False->(-1000:Int)<=1)/\(¬False->(1:Int)<=1000)/\(¬False->(-1000:Int)<=366)/\(¬False->(366:Int)<=1000))/\(False ∨ L8 r.YearDay (1:Int) (366:Int) true=true->Q false)/\(¬(False ∨ L8 r.YearDay (1:Int) (366:Int) true=true)->b9 ((↑r.Days.length:Int)+(↑r.Month.length:Int)+(↑r.WeekNo.length:Int)+(↑r.YearDay.length:Int))/\b9 ((0:Int)+1+1+1)/\(0:Int)<=(0:Int)+1+1+1/\(0:Int)+1+1+1<(↑(8:Nat):Int)/\((24:Int)<(↑r.MonthDay.length:Int)->((↑r.MonthDay.length:Int)-((24:Int)+1)).NonNeg/\Q false)/\(¬(24:Int)<(↑r.MonthDay.length:Int)->(False ∨ ¬F5 r.MonthDay (E7 r.MonthDay)=true->((24:Int)<(↑r.MonthDay.length:Int)->False)/\(¬False/\r.MonthDay.length<=1000000)/\(¬False->r.MonthDay.length<=1000000)/\(False ∨ ¬F5 r.MonthDay (E7 r.MonthDay)=true)/\Q false)/\(¬(False ∨ ¬F5 r.MonthDay (E7 r.MonthDay)=true)->((24:Int)<(↑r.MonthDay.length:Int)->False)/\(¬False/\r.MonthDay.length<=1000000)/\(¬False->r.MonthDay.length<=1000000)/\(False ∨ ¬F5 r.MonthDay (E7 r.MonthDay)=true->False)/\((¬False->r.MonthDay.length<=1000000)/\(¬False->(-1000:Int)<=1)/\(¬False->(1:Int)<=1000)/\(¬False->(-1000:Int)<=31)/\(¬False->(31:Int)<=1000))/\(False ∨ L8 r.MonthDay (1:Int) (31:Int) true=true->Q false)/\(¬(False ∨ L8 r.MonthDay (1:Int) (31:Int) true=true)->b9 ((↑r.Days.length:Int)+(↑r.Month.length:Int)+(↑r.WeekNo.length:Int)+(↑r.YearDay.length:Int)+(↑r.MonthDay.length:Int))/\b9 ((0:Int)+1+1+1+1)/\(0:Int)<=(0:Int)+1+1+1+1/\(0:Int)+1+1+1+1<(↑(8:Nat):Int)/\((24:Int)<(↑r.Hour.length:Int)->((↑r.Hour.length:Int)-((24:Int)+1)).NonNeg/\Q false)/\(¬(24:Int)<(↑r.Hour.length:Int)->(False ∨ ¬F5 r.Hour (E7 r.Hour)=true->((24:Int)<(↑r.Hour.length:Int)->False)/\(¬False/\r.Hour.length<=1000000)/\(¬False->r.Hour.length<=1000000)/\(False ∨ ¬F5 r.Hour (E7 r.Hour)=true)/\Q false)/\(¬(False ∨ ¬F5 r.Hour (E7 r.Hour)=true)->((24:Int)<(↑r.Hour.length:Int)->False)/\(¬False/\r.Hour.length<=1000000)/\(¬False->r.Hour.length<=1000000)/\(False ∨ ¬F5 r.Hour (E7 r.Hour)=true->False)/\((¬False->r.Hour.length<=1000000)/\(¬False->(-1000:Int)<=0)/\(¬False->(0:Int)<=1000)/\(¬False->(-1000:Int)<=23)/\(¬False->(23:Int)<=1000))/\(False ∨ L8 r.Hour (0:Int) (23:Int) false=true->Q false)/\(¬(False ∨ L8 r.Hour (0:Int) (23:Int) false=true)->b9 ((↑r.Days.length:Int)+(↑r.Month.length:Int)+(↑r.WeekNo.length:Int)+(↑r.YearDay.length:Int)+(↑r.MonthDay.length:Int)+(↑r.Hour.length:Int))/\b9 ((0:Int)+1+1+1+1+1)/\(0:Int)<=(0:Int)+1+1+1+1+1/\(0:Int)+1+1+1+1+1<(↑(8:Nat):Int)/\((24:Int)<(↑r.Minute.length:Int)->((↑r.Minute.length:Int)-((24:Int)+1)).NonNeg/\Q false)/\(¬(24:Int)<(↑r.Minute.length:Int)->(False ∨ ¬F5 r.Minute (E7 r.Minute)=true->((24:Int)<(↑r.Minute.length:Int)->False)/\(¬False/\r.Minute.length<=1000000)/\(¬False->r.Minute.length<=1000000)/\(False ∨ ¬F5 r.Minute (E7 r.Minute)=true)/\Q false)/\(¬(False ∨ ¬F5 r.Minute (E7 r.Minute)=true)->((24:Int)<(↑r.Minute.length:Int)->False)/\(¬False/\r.Minute.length<=1000000)/\(¬False->r.Minute.length<=1000000)/\(False ∨ ¬F5 r.Minute (E7 r.Minute)=true->False)/\((¬False->r.Minute.length<=1000000)/\(¬False->(-1000:Int)<=0)/\(¬False->(0:Int)<=1000)/\(¬False->(-1000:Int)<=59)/\(¬False->(59:Int)<=1000))/\(False ∨ L8 r.Minute (0:Int) (59:Int) false=true->Q false)/\(¬(False ∨ L8 r.Minute (0:Int) (59:Int) false=true)->b9 ((↑r.Days.length:Int)+(↑r.Month.length:Int)+(↑r.WeekNo.length:Int)+(↑r.YearDay.length:Int)+(↑r.MonthDay.length:Int)+(↑r.Hour.length:Int)+(↑r.Minute.length:Int))/\b9 ((0:Int)+1+1+1+1+1+1)/\(0:Int)<=(0:Int)+1+1+1+1+1+1/\(0:Int)+1+1+1+1+1+1<(↑(8:Nat):Int)/\((24:Int)<(↑r.Second.length:Int)->((↑r.Second.length:Int)-((24:Int)+1)).NonNeg/\Q false)/\(¬(24:Int)<(↑r.Second.length:Int)->(False ∨ ¬F5 r.Second (E7 r.Second)=true->((24:Int)<(↑r.Second.length:Int)->False)/\(¬False/\r.Second.length<=1000000)/\(¬False->r.Second.length<=1000000)/\(False ∨ ¬F5 r.Second (E7 r.Second)=true)/\Q false)/\(¬(False ∨ ¬F5 r.Second (E7 r.Second)=true)->((24:Int)<(↑r.Second.length:Int)->False)/\(¬False/\r.Second.length<=1000000)/\(¬False->r.Second.length<=1000000)/\(False ∨ ¬F5 r.Second (E7 r.Second)=true->False)/\((¬False->r.Second.length<=1000000)/\(¬False->(-1000:Int)<=0)/\(¬False->(0:Int)<=1000)/\(¬False->(-1000:Int)<=59)/\(¬False->(59:Int)<=1000))/\(False ∨ L8 r.Second (0:Int) (59:Int) false=true->Q false)/\(¬(False ∨ L8 r.Second (0:Int) (59:Int) false=true)->b9 ((↑r.Days.length:Int)+(↑r.Month.length:Int)+(↑r.WeekNo.length:Int)+(↑r.YearDay.length:Int)+(↑r.MonthDay.length:Int)+(↑r.Hour.length:Int)+(↑r.Minute.length:Int)+(↑r.Second.length:Int))/\b9 ((0:Int)+1+1+1+1+1+1+1)/\(0:Int)<=(0:Int)+1+1+1+1+1+1+1/\(0:Int)+1+1+1+1+1+1+1<(↑(8:Nat):Int)/\((24:Int)<(↑r.SetPos.length:Int)->((↑r.SetPos.length:Int)-((24:Int)+1)).NonNeg/\Q false)/\(¬(24:Int)<(↑r.SetPos.length:Int)->(False ∨ ¬F5 r.SetPos (E7 r.SetPos)=true->((24:Int)<(↑r.SetPos.length:Int)->False)/\(¬False/\r.SetPos.length<=1000000)/\(¬False->r.SetPos.length<=1000000)/\(False ∨ ¬F5 r.SetPos (E7 r.SetPos)=true)/\Q false)/\(¬(False ∨ ¬F5 r.SetPos (E7 r.SetPos)=true)->((24:Int)<(↑r.SetPos.length:Int)->False)/\(¬False/\r.SetPos.length<=1000000)/\(¬False->r.SetPos.length<=1000000)/\(False ∨ ¬F5 r.SetPos (E7 r.SetPos)=true->False)/\((¬False->r.SetPos.length<=1000000)/\(¬False->(-1000:Int)<=1)/\(¬False->(1:Int)<=1000)/\(¬False->(-1000:Int)<=366)/\(¬False->(366:Int)<=1000))/\(False ∨ L8 r.SetPos (1:Int) (366:Int) true=true->Q false)/\(¬(False ∨ L8 r.SetPos (1:Int) (366:Int) true=true)->b9 ((0:Int)+1+1+1+1+1+1+1+1)/\∃ (I:Int->Prop),∃ (m:Int->Nat),I (0:Int)/\∀ (x:Int),I x->(x<(↑r.Days.length:Int)->(0:Int)<=x/\x<(↑r.Days.length:Int)/\(b9 (ix r.Days x).N->b9 (ix r.Days x).Day->(¬(((ix r.Days x).Day<0 ∨ (6:Int)<(ix r.Days x).Day) ∨ D3 (Y5 r)<(ix r.Days x).N)->b9 ((0:Int)-D3 (Y5 r)))/\(¬((((ix r.Days x).Day<0 ∨ (6:Int)<(ix r.Days x).Day) ∨ D3 (Y5 r)<(ix r.Days x).N) ∨ (ix r.Days x).N<(0:Int)-D3 (Y5 r))/\(0:Int)<x->b9 (x-1))/\((¬((((ix r.Days x).Day<0 ∨ (6:Int)<(ix r.Days x).Day) ∨ D3 (Y5 r)<(ix r.Days x).N) ∨ (ix r.Days x).N<(0:Int)-D3 (Y5 r))/\(0:Int)<x->(0:Int)<=x-1)/\(¬((((ix r.Days x).Day<0 ∨ (6:Int)<(ix r.Days x).Day) ∨ D3 (Y5 r)<(ix r.Days x).N) ∨ (ix r.Days x).N<(0:Int)-D3 (Y5 r))/\(0:Int)<x->x-1<(↑r.Days.length:Int)))/\((¬((((ix r.Days x).Day<0 ∨ (6:Int)<(ix r.Days x).Day) ∨ D3 (Y5 r)<(ix r.Days x).N) ∨ (ix r.Days x).N<(0:Int)-D3 (Y5 r))/\(0:Int)<x->b9 (ix r.Days (x-1)).N)->(¬((((ix r.Days x).Day<0 ∨ (6:Int)<(ix r.Days x).Day) ∨ D3 (Y5 r)<(ix r.Days x).N) ∨ (ix r.Days x).N<(0:Int)-D3 (Y5 r))/\(0:Int)<x->b9 (ix r.Days (x-1)).Day)->(((((ix r.Days x).Day<0 ∨ (6:Int)<(ix r.Days x).Day) ∨ D3 (Y5 r)<(ix r.Days x).N) ∨ (ix r.Days x).N<(0:Int)-D3 (Y5 r)) ∨ (0:Int)<x/\(0:Int)<=a00 (Nt.mk (ix r.Days (x-1)).N (ix r.Days (x-1)).Day) (Nt.mk (ix r.Days x).N (ix r.Days x).Day)->Q false)/\(¬(((((ix r.Days x).Day<0 ∨ (6:Int)<(ix r.Days x).Day) ∨ D3 (Y5 r)<(ix r.Days x).N) ∨ (ix r.Days x).N<(0:Int)-D3 (Y5 r)) ∨ (0:Int)<x/\(0:Int)<=a00 (Nt.mk (ix r.Days (x-1)).N (ix r.Days (x-1)).Day) (Nt.mk (ix r.Days x).N (ix r.Days x).Day))->b9 (x+1)/\I (x+1)/\m (x+1)<m x))))/\(¬x<(↑r.Days.length:Int)->b9 (c8y r)/\b9 ((c8y r) * bif true then max (1:Int) (↑r.Second.length:Int) else min (1:Int) (↑r.Second.length:Int))/\Q (decide ((c56 (Y5 r)=true/\((0:Int)<(↑r.Days.length:Int)+(↑r.Month.length:Int)+(↑r.WeekNo.length:Int)+(↑r.YearDay.length:Int)+(↑r.MonthDay.length:Int)+(↑r.Hour.length:Int)+(↑r.Minute.length:Int)+(↑r.Second.length:Int) ∨ (↑r.SetPos.length:Int)=0))/\((c8y r) * bif true then max (1:Int) (↑r.Second.length:Int) else min (1:Int) (↑r.Second.length:Int))<=48))))))))))))))))))))))))))))))
set_option maxHeartbeats 2000000 in
theorem pgR (r:Rl) (hfw:w4 r=true):VgR r (fun y0=>y0=A6 r):=by
 unfold VgR c8y Y5
 obtain ⟨wmo,wwn,wyd,wmd,wdy,who,wmi,wse,wsp,wti⟩:=Q8 hfw
 rw [show (Rl.mk r.Freq r.Interval r.Count r.Until r.Month r.WeekNo r.YearDay r.MonthDay r.Days r.Hour r.Minute r.Second r.SetPos r.Wkst)=r from rfl]
 refine ⟨fun h=>(o6 fun R=>by obtain ⟨a1,a2,a3,a4,a5,a6,a7,a8⟩:=R.head; omega).symm,fun h=>?_⟩
 have hH:b36 r:=⟨by omega,by omega,by omega,by omega,by omega,by omega,by omega,by omega⟩
 clear h
 refine ⟨fun _=>by decide,fun h=>by omega,fun _ _ _ _ _ _=>?_⟩
 refine ⟨fun hu=>(o6 fun R=>?_).symm,fun hu=>?_⟩
 . simp only [Bool.decide_eq_true] at hu
   obtain ⟨a,b⟩:=R.til
   have c:=R.few
   rcases hu with (hu | ⟨h1,hu | hu⟩) | hu
   . omega
   . have:=(b h1).1; omega
   . exact hu (b h1).2
   . omega
 simp only [Bool.decide_eq_true] at hu
 have hU:b5q r:=by
  have u1:¬ 1<(r.Until.length:Int):=fun h=>hu (.inl (.inl h))
  exact ⟨by omega,fun h1=>⟨by have:¬ 0<r.Count:=fun h=>hu (.inl (.inr ⟨h1,.inl h⟩)); omega,Classical.not_not.1 fun hn=>hu (.inl (.inr ⟨h1,.inr hn⟩))⟩⟩
 have h24:(r.Days.length:Int)<=24:=by have:¬ 24<(r.Days.length:Int):=fun h=>hu (.inr h); omega
 clear hu
 refine ⟨by decide,by decide,fun a=>⟨a,(o6 fun R=>a3v a R.lists.mo).symm⟩,fun a=>⟨fun e=>⟨fun x=>a x,⟨not_false,by omega⟩,fun _=>by omega,e,(o6 fun R=>a48 e R.lists.mo).symm⟩,fun e=>⟨fun x=>a x,⟨not_false,by omega⟩,fun _=>by omega,fun x=>e x,⟨fun _=>by omega,fun _=>by decide,fun _=>by decide,fun _=>by decide,fun _=>by decide⟩,fun c=>(o6 fun R=>a3z (by decide) c R.lists.mo).symm,fun c=>?_⟩⟩⟩
 have r_mo:M5 r.Month 1 12 false:=a3u (by decide) a e c
 clear a e c
 refine ⟨⟨by omega,by omega⟩,⟨by omega,by omega⟩,?_⟩
 refine ⟨by decide,by decide,fun a=>⟨a,(o6 fun R=>a3v a R.lists.wn).symm⟩,fun a=>⟨fun e=>⟨fun x=>a x,⟨not_false,by omega⟩,fun _=>by omega,e,(o6 fun R=>a48 e R.lists.wn).symm⟩,fun e=>⟨fun x=>a x,⟨not_false,by omega⟩,fun _=>by omega,fun x=>e x,⟨fun _=>by omega,fun _=>by decide,fun _=>by decide,fun _=>by decide,fun _=>by decide⟩,fun c=>(o6 fun R=>a3z (by decide) c R.lists.wn).symm,fun c=>?_⟩⟩⟩
 have r_wn:M5 r.WeekNo 1 53 true:=a3u (by decide) a e c
 clear a e c
 refine ⟨⟨by omega,by omega⟩,⟨by omega,by omega⟩,?_⟩
 refine ⟨by decide,by decide,fun a=>⟨a,(o6 fun R=>a3v a R.lists.yd).symm⟩,fun a=>⟨fun e=>⟨fun x=>a x,⟨not_false,by omega⟩,fun _=>by omega,e,(o6 fun R=>a48 e R.lists.yd).symm⟩,fun e=>⟨fun x=>a x,⟨not_false,by omega⟩,fun _=>by omega,fun x=>e x,⟨fun _=>by omega,fun _=>by decide,fun _=>by decide,fun _=>by decide,fun _=>by decide⟩,fun c=>(o6 fun R=>a3z (by decide) c R.lists.yd).symm,fun c=>?_⟩⟩⟩
 have r_yd:M5 r.YearDay 1 366 true:=a3u (by decide) a e c
 clear a e c
 refine ⟨⟨by omega,by omega⟩,⟨by omega,by omega⟩,?_⟩
 refine ⟨by decide,by decide,fun a=>⟨a,(o6 fun R=>a3v a R.lists.md).symm⟩,fun a=>⟨fun e=>⟨fun x=>a x,⟨not_false,by omega⟩,fun _=>by omega,e,(o6 fun R=>a48 e R.lists.md).symm⟩,fun e=>⟨fun x=>a x,⟨not_false,by omega⟩,fun _=>by omega,fun x=>e x,⟨fun _=>by omega,fun _=>by decide,fun _=>by decide,fun _=>by decide,fun _=>by decide⟩,fun c=>(o6 fun R=>a3z (by decide) c R.lists.md).symm,fun c=>?_⟩⟩⟩
 have r_md:M5 r.MonthDay 1 31 true:=a3u (by decide) a e c
 clear a e c
 refine ⟨⟨by omega,by omega⟩,⟨by omega,by omega⟩,?_⟩
 refine ⟨by decide,by decide,fun a=>⟨a,(o6 fun R=>a3v a R.lists.ho).symm⟩,fun a=>⟨fun e=>⟨fun x=>a x,⟨not_false,by omega⟩,fun _=>by omega,e,(o6 fun R=>a48 e R.lists.ho).symm⟩,fun e=>⟨fun x=>a x,⟨not_false,by omega⟩,fun _=>by omega,fun x=>e x,⟨fun _=>by omega,fun _=>by decide,fun _=>by decide,fun _=>by decide,fun _=>by decide⟩,fun c=>(o6 fun R=>a3z (by decide) c R.lists.ho).symm,fun c=>?_⟩⟩⟩
 have r_ho:M5 r.Hour 0 23 false:=a3u (by decide) a e c
 clear a e c
 refine ⟨⟨by omega,by omega⟩,⟨by omega,by omega⟩,?_⟩
 refine ⟨by decide,by decide,fun a=>⟨a,(o6 fun R=>a3v a R.lists.mi).symm⟩,fun a=>⟨fun e=>⟨fun x=>a x,⟨not_false,by omega⟩,fun _=>by omega,e,(o6 fun R=>a48 e R.lists.mi).symm⟩,fun e=>⟨fun x=>a x,⟨not_false,by omega⟩,fun _=>by omega,fun x=>e x,⟨fun _=>by omega,fun _=>by decide,fun _=>by decide,fun _=>by decide,fun _=>by decide⟩,fun c=>(o6 fun R=>a3z (by decide) c R.lists.mi).symm,fun c=>?_⟩⟩⟩
 have r_mi:M5 r.Minute 0 59 false:=a3u (by decide) a e c
 clear a e c
 refine ⟨⟨by omega,by omega⟩,⟨by omega,by omega⟩,?_⟩
 refine ⟨by decide,by decide,fun a=>⟨a,(o6 fun R=>a3v a R.lists.se).symm⟩,fun a=>⟨fun e=>⟨fun x=>a x,⟨not_false,by omega⟩,fun _=>by omega,e,(o6 fun R=>a48 e R.lists.se).symm⟩,fun e=>⟨fun x=>a x,⟨not_false,by omega⟩,fun _=>by omega,fun x=>e x,⟨fun _=>by omega,fun _=>by decide,fun _=>by decide,fun _=>by decide,fun _=>by decide⟩,fun c=>(o6 fun R=>a3z (by decide) c R.lists.se).symm,fun c=>?_⟩⟩⟩
 have r_se:M5 r.Second 0 59 false:=a3u (by decide) a e c
 clear a e c
 refine ⟨⟨by omega,by omega⟩,⟨by omega,by omega⟩,?_⟩
 refine ⟨by decide,by decide,fun a=>⟨a,(o6 fun R=>a3v a R.lists.sp).symm⟩,fun a=>⟨fun e=>⟨fun x=>a x,⟨not_false,by omega⟩,fun _=>by omega,e,(o6 fun R=>a48 e R.lists.sp).symm⟩,fun e=>⟨fun x=>a x,⟨not_false,by omega⟩,fun _=>by omega,fun x=>e x,⟨fun _=>by omega,fun _=>by decide,fun _=>by decide,fun _=>by decide,fun _=>by decide⟩,fun c=>(o6 fun R=>a3z (by decide) c R.lists.sp).symm,fun c=>?_⟩⟩⟩
 have r_sp:M5 r.SetPos 1 366 true:=a3u (by decide) a e c
 clear a e c
 refine ⟨⟨by omega,by omega⟩,?_⟩
 have hL:b07 r:=⟨r_mo,r_wn,r_yd,r_md,r_ho,r_mi,r_se,r_sp⟩
 have m0:0<=D3 r/\D3 r<=53:=by
  unfold D3
  split
  . omega
  . split <;> omega
 refine ⟨fun x=>0<=x/\x<=r.Days.length/\O9 r.Days (D3 r) x,fun x=>((r.Days.length:Int)-x).toNat,⟨Int.le_refl _,by omega,O9.nil⟩,?_⟩
 rintro x ⟨x0,x1,hd⟩
 rw [show Nt.mk (ix r.Days (x-1)).N (ix r.Days (x-1)).Day=ix r.Days (x-1) from rfl,show Nt.mk (ix r.Days x).N (ix r.Days x).Day=ix r.Days x from rfl]
 refine ⟨fun hx=>⟨x0,hx,fun _ _=>⟨fun _=>⟨by omega,by omega⟩,fun h=>⟨by omega,by omega⟩,⟨fun h=>by omega,fun h=>by omega⟩,fun _ _=>⟨fun hb=>?_,fun hb=>?_⟩⟩⟩,fun hx=>?_⟩
 . refine (o6 fun R=>?_).symm
   obtain ⟨a1,a2,a3,a4⟩:=R.days.ok x x0 hx
   rcases hb with (((h | h) | h) | h) | ⟨h0,h⟩
   . omega
   . omega
   . omega
   . omega
   . exact a69.1 h (R.days.up x h0 hx)
 . have hb':=fun h=>hb (.inl h)
   exact ⟨⟨by omega,by omega⟩,⟨by omega,by omega,hd.step ⟨by omega,by omega,by omega,by omega⟩ fun h0=>Classical.not_not.1 fun hn=>hb (.inr ⟨h0,a69.2 hn⟩)⟩,by dsimp only; omega⟩
 . have b1:∀ a b:Int,(bif true then a else b)=a:=fun _ _=>rfl
   rw [b1,b1,b1,a5n,a5n,a5n]
   have l1:=@U6 r.Hour
   have l2:=@U6 r.Minute
   have l3:=@U6 r.Second
   have k:=d1h (a:=E8 r.Hour) (b:=E8 r.Minute) (c:=E8 r.Second) (by omega) (by omega) (by omega)
   refine ⟨k.1,k.2,?_⟩
   refine Bool.eq_iff_iff.2 (Iff.trans decide_eq_true_iff (Iff.trans ?_ m8.symm))
   constructor
   . rintro ⟨⟨hf,hs⟩,hc⟩
     exact ⟨hH,hU,hL,h24,hd.done hx,Classical.not_not.1 fun hn=>(by rw [<- d0y hn] at hf; cases hf),⟨by omega,hc⟩⟩
   . intro R
     obtain ⟨s1,s2⟩:=R.some
     exact ⟨⟨(d0r R.fit).symm,by omega⟩,s2⟩
noncomputable def e1x (r:Rl):Q1 U:=⟨[w4 r=true],[],blB (A6 r)⟩
noncomputable def cgR (a:List (SV U)):Option (Q1 U):=match a with | [.agg l_r]=>(y30.bk (.agg l_r)).bind fun r=>some (e1x r) | _=>none
noncomputable def NgR:Env:=NXr.addL 40 cgR
theorem b6k:j7 NgR:=b6r.addL Tryz.call40 fun (args:List (SV U)) (q:Q1 U) (h:cgR args=some q) ho=>by
 unfold cgR at h
 split at h
 . rename_i l_r
   obtain ⟨r,hb_r,h⟩:=Option.bind_eq_some_iff.1 h
   cases h
   refine A3.conv (E:=NXr) (args':=[.agg [.int .i64 r.Freq,.int .i64 r.Interval,.int .i64 r.Count,.sl 25 r.Until,.sl 3 r.Month,.sl 3 r.WeekNo,.sl 3 r.YearDay,.sl 3 r.MonthDay,.sl 60 r.Days,.sl 3 r.Hour,.sl 3 r.Minute,.sl 3 r.Second,.sl 3 r.SetPos,.int .i64 r.Wkst]]) (q8 (an:=d7j 40) b6r (j6 b6r o9 d7j 4) Tryz.func40 (k:=.bool) trivial (kc (pgR r ho.1) (by kernel_rfl)) 0) fun D w vs hr=>q9 [.agg l_r] [.agg [.int .i64 r.Freq,.int .i64 r.Interval,.int .i64 r.Count,.sl (N:=U) 25 r.Until,.sl (N:=U) 3 r.Month,.sl (N:=U) 3 r.WeekNo,.sl (N:=U) 3 r.YearDay,.sl (N:=U) 3 r.MonthDay,.sl (N:=U) 60 r.Days,.sl (N:=U) 3 r.Hour,.sl (N:=U) 3 r.Minute,.sl (N:=U) 3 r.Second,.sl (N:=U) 3 r.SetPos,.int .i64 r.Wkst]] _ ⟨fun _ h=>s9 hb_r h,trivial⟩ hr
 . cases h
end Go.Proofs.YtdjfeninmbpflaaGreat
end
section
namespace Go.Re
open Go Go.Wk Go.Wl Go.Rx
theorem b6x {p:Prop} [Decidable p] {b:Bool} (h:p↔b=true):decide p=b:=Bool.eq_iff_iff.2 (decide_eq_true_iff.trans h)
structure p9 (s:Tm) (r:Rl):Prop where
 rt:n7 s=true
 rr:A6 r=true
 un:0<(r.Until.length:Int)->(((ix r.Until 0).Bare=true↔s.Bare=true)/\((ix r.Until 0).UTC=true↔s.UTC=true))
 ba:s.Bare=true->r.Freq<=3/\(r.Hour.length:Int)=0/\(r.Minute.length:Int)=0/\(r.Second.length:Int)=0
open Classical in
noncomputable def A0 (s:Tm) (r:Rl):Bool:=decide (p9 s r)
open Classical in
theorem G7 {s:Tm} {r:Rl}:A0 s r=true↔p9 s r:=by unfold A0; exact decide_eq_true_iff
theorem a4k {s:Tm} {r:Rl} (h:¬ p9 s r):false=A0 s r:=by
 cases e:A0 s r with
 | true=>exact absurd (G7.1 e) h
 | false=>rfl
def E5 (t:Int):Int:=if 315537897600<t then 315537897600 else t
def s5 (r:Rl) (t:Int):Int :=
 if r.Freq=0 then (ofS (t / 86400+1)).Year else if r.Freq=1 then 12 * (ofS (t / 86400+1)).Year+(ofS (t / 86400+1)).Month
 else if r.Freq=2 then (t / 86400+1+6-r.Wkst) / 7 else if r.Freq=3 then t / 86400+1 else if r.Freq=4 then t / 3600 else if r.Freq=5 then t / 60 else t
def j8 (r:Rl) (t:Int):Int:=s5 r t-(if r.Freq=1 then 1 else 0)
def nbP (n:Int):Int:=if n=0 ∨ 3652059<n then 315537897600 else (n-1) * 86400
def p4 (r:Rl) (i:Int):Int :=
 if r.Freq=0 then nbP (j9 ⟨i,1,1⟩) else if r.Freq=1 then nbP (j9 ⟨i / 12,i % 12+1,1⟩) else if r.Freq=2 then nbP (max 1 (7 * i-6+r.Wkst))
 else if r.Freq=3 then nbP i else if r.Freq=4 then min i 87649416 * 3600 else if r.Freq=5 then min i 5258964960 * 60 else min i 315537897600
theorem G3 (d:Dy):0<=j9 d/\j9 d<=3652059:=by
 unfold j9
 split
 . rename_i h; have:=H6 h; omega
 . omega
theorem a92 (n:Int):(0<=(ofS n).Year/\(ofS n).Year<=9999)/\(0<=(ofS n).Month/\(ofS n).Month<=12)/\0<=(ofS n).Date/\(ofS n).Date<=31:=by
 by_cases h:n<1 ∨ 3652059<n
 . have e:ofS n=⟨0,0,0⟩:=by unfold ofS; rw [if_pos h]
   rw [e]
   exact ⟨by decide,by decide,by decide⟩
 . obtain ⟨h1,_⟩:=Q5 (n:=n) (by omega) (by omega)
   obtain ⟨a,b,c,d,e,f⟩:=h1.ym
   exact ⟨⟨by omega,b⟩,⟨by omega,d⟩,by omega,f⟩
def O3 (y f:Int):Int:=if F3 y f=0 then 1 else F3 y f
def atW (r:Rl) (n:Int):Int:=if r.Freq=1 ∨ 0<(r.Month.length:Int) then (ofS n).Date else ydS (ofS n)
def a04 (r:Rl) (n:Int):Int:=if r.Freq=1 ∨ 0<(r.Month.length:Int) then u9 (ofS n).Year (ofS n).Month else ydS ⟨(ofS n).Year,12,31⟩
def WdP (r:Rl) (n:Int) (x:Nt):Prop:=x.Day=wdS n/\((x.N=0 ∨ x.N=1+(atW r n-1) / 7) ∨ -x.N=1+(a04 r n-atW r n) / 7)
instance (r:Rl) (n:Int) (x:Nt):Decidable (WdP r n x):=by unfold WdP; infer_instance
def wdB (r:Rl) (n:Int):Bool:=r.Days.any fun x=>decide (WdP r n x)
def O7 (s:Tm) (r:Rl) (dy n:Int):Prop :=
 if 0<(r.WeekNo.length:Int) then wdS n=wdS dy
 else ¬ (((r.Freq<=1/\(ofS n).Date≠s.Day.Date) ∨ ((r.Freq=0/\(r.Month.length:Int)=0)/\(ofS n).Month≠s.Day.Month)))/\(r.Freq≠2 ∨ wdS n=wdS dy)
instance (s:Tm) (r:Rl) (dy n:Int):Decidable (O7 s r dy n):=by unfold O7; infer_instance
def N7 (s:Tm) (r:Rl) (dy n:Int):Bool :=
 (((decide ((r.Month.length:Int)=0) || w7 r.Month (ofS n).Month) && C4 r.WeekNo (w8 n r.Wkst).2 (O3 (w8 n r.Wkst).1 r.Wkst)) && (C4 r.YearDay (ydS (ofS n)) (ydS ⟨(ofS n).Year,12,31⟩) && C4 r.MonthDay (ofS n).Date (u9 (ofS n).Year (ofS n).Month))) &&
 (if 0<(r.Days.length:Int) then wdB r n else if 0<(r.YearDay.length:Int) ∨ 0<(r.MonthDay.length:Int) then true else decide (O7 s r dy n))
theorem d1y (n f:Int):-1000000<=(w8 n f).2/\(w8 n f).2<=1000000:=by
 unfold w8
 split
 . exact ⟨by decide,by decide⟩
 . show -1000000<=(n-z8 (wkY n f) f) / 7+1/\_
   obtain ⟨⟨y0,y1⟩,_⟩:=a92 n
   have hy:0-1<=wkY n f/\wkY n f<=10000:=by unfold wkY; split; omega; split <;> omega
   have b:=N1 (wkY n f) f
   have a0:=A2 (show -1<=wkY n f by omega)
   have a1:=A2 (show wkY n f<=10000 by omega)
   have a2:j4 (-1)=-731:=by decide
   have a3:j4 10000=3652059:=by decide
   show -1000000<=(n-z8 (wkY n f) f) / 7+1/\(n-z8 (wkY n f) f) / 7+1<=1000000
   omega
theorem c59 (y f:Int):-1000000<=O3 y f/\O3 y f<=1000000:=by
 unfold O3
 have h:-1000000<=F3 y f/\F3 y f<=1000000:=by
  unfold F3
  split
  . omega
  . have b:=N1 y f
    have c:=N1 (y+1) f
    have a0:=C3 (y:=y) (by omega) (by omega)
    have a1:=C3 (y:=y+1) (by omega) (by omega)
    omega
 split <;> omega
theorem a8h (d:Dy):-5000000<=ydS d/\ydS d<=5000000:=by
 unfold ydS
 split
 . rename_i h
   obtain ⟨y0,y1,_⟩:=h.ym
   have a:=H6 h
   have b:=C3 (y:=d.Year) (by omega) (by omega)
   omega
 . omega
theorem b0v (y m:Int):0<=u9 y m/\u9 y m<=31:=by unfold u9; (repeat' split) <;> omega
theorem b8g {r:Rl} {n i:Int} (h0:0<=i) (h1:i<r.Days.length) (h:WdP r n (ix r.Days i)):true=wdB r n:=(List.any_eq_true.2 ⟨_,R6 h0 h1,decide_eq_true h⟩).symm
theorem c6s {r:Rl} {n:Int} (h:∀ i:Int,0<=i->i<r.Days.length->¬ WdP r n (ix r.Days i)):false=wdB r n:=by
 cases hb:wdB r n with
 | false=>rfl
 | true =>
  obtain ⟨x,hx,hd⟩:=List.any_eq_true.1 hb
  obtain ⟨i,h0,h1,rfl⟩:=F6 hx
  exact absurd (of_decide_eq_true hd) (h i h0 h1)
theorem c7j (r:Rl) (n:Int):0<=atW r n+5000000/\atW r n<=5000000/\0<=a04 r n+5000000/\a04 r n<=5000000:=by
 have a:=a8h (ofS n)
 have b:=a8h ⟨(ofS n).Year,12,31⟩
 have c:=b0v (ofS n).Year (ofS n).Month
 obtain ⟨_,_,d⟩:=a92 n
 unfold atW a04
 split <;> omega
theorem d7n {n:Int} (h0:1<=n) (h1:n<=3652059):1<=ydS (ofS n)/\ydS (ofS n)<=ydS ⟨(ofS n).Year,12,31⟩:=by
 obtain ⟨hr,hn⟩:=Q5 h0 h1
 obtain ⟨y0,y1,m0,m1,_⟩:=hr.ym
 have i1:=K9 hr
 have hr2:A9 ⟨(ofS n).Year,12,31⟩:=by
  refine ⟨show (1:Int)<=31 by decide,?_⟩
  show (31:Int)<=u9 (ofS n).Year 12
  unfold u9
  rw [if_neg (by omega),if_neg (by decide)]
  decide
 have e1:ydS (ofS n)=D7 (ofS n)-j4 (ofS n).Year:=by unfold ydS; rw [if_pos hr]
 have e2:ydS ⟨(ofS n).Year,12,31⟩=F9 (ofS n).Year 12+31:=by
  unfold ydS; rw [if_pos hr2]
  show j4 (ofS n).Year+F9 (ofS n).Year 12+31-j4 (ofS n).Year=_
  omega
 have:=b3z (ofS n).Year
 omega
theorem d0u {r:Rl} {n:Int} (h0:1<=n) (h1:n<=3652059):1<=atW r n/\atW r n<=a04 r n:=by
 obtain ⟨hr,hn⟩:=Q5 h0 h1
 have a:=d7n h0 h1
 unfold atW a04
 split
 . exact hr
 . exact a
end Go.Re
end
section
namespace Go.Proofs.YtdjfeninmbpflaaGreat
open Go Go.Wk Go.Wl Go.Rx Go.Re 
attribute [local irreducible] m7
def e1j:Nat->Ann:=fun | 18=>⟨57,fun | 4=>some ⟨[2,3,16,17],[.slot 18 (.int .i64)]⟩ | _=>none,nn⟩ | _=>⟨0,nn,nn⟩
def VcF (s:Tm) (r:Rl) (Q:Bool->Prop):Prop :=
(¬¬n7 (Tm.mk (Dy.mk s.Day.Year s.Day.Month s.Day.Date) s.Hour s.Min s.Sec (decide (s.Bare=true)) (decide (s.UTC=true)))=true->w4 (Rl.mk r.Freq r.Interval r.Count r.Until r.Month r.WeekNo r.YearDay r.MonthDay r.Days r.Hour r.Minute r.Second r.SetPos r.Wkst)=true)/\(¬n7 (Tm.mk (Dy.mk s.Day.Year s.Day.Month s.Day.Date) s.Hour s.Min s.Sec (decide (s.Bare=true)) (decide (s.UTC=true)))=true ∨ ¬A6 (Rl.mk r.Freq r.Interval r.Count r.Until r.Month r.WeekNo r.YearDay r.MonthDay r.Days r.Hour r.Minute r.Second r.SetPos r.Wkst)=true->Q false)/\(¬(¬n7 (Tm.mk (Dy.mk s.Day.Year s.Day.Month s.Day.Date) s.Hour s.Min s.Sec (decide (s.Bare=true)) (decide (s.UTC=true)))=true ∨ ¬A6 (Rl.mk r.Freq r.Interval r.Count r.Until r.Month r.WeekNo r.YearDay r.MonthDay r.Days r.Hour r.Minute r.Second r.SetPos r.Wkst)=true)->∃ (I:Int->Prop),∃ (m:Int->Nat),I (0:Int)/\∀ (x:Int),I x->(x<(↑r.Until.length:Int)->(0:Int)<=x/\x<(↑r.Until.length:Int)/\(b9 (ix r.Until x).Day.Year->b9 (ix r.Until x).Day.Month->b9 (ix r.Until x).Day.Date->b9 (ix r.Until x).Hour->b9 (ix r.Until x).Min->b9 (ix r.Until x).Sec->(¬((ix r.Until x).Bare=true↔s.Bare=true) ∨ ¬((ix r.Until x).UTC=true↔s.UTC=true)->Q false)/\(¬(¬((ix r.Until x).Bare=true↔s.Bare=true) ∨ ¬((ix r.Until x).UTC=true↔s.UTC=true))->b9 (x+1)/\I (x+1)/\m (x+1)<m x)))/\(¬x<(↑r.Until.length:Int)->(¬¬s.Bare=true/\r.Freq<=3->b9 ((↑r.Hour.length:Int)+(↑r.Minute.length:Int)))/\(¬¬s.Bare=true/\r.Freq<=3->b9 ((↑r.Hour.length:Int)+(↑r.Minute.length:Int)+(↑r.Second.length:Int)))/\Q (decide (¬s.Bare=true ∨ r.Freq<=3/\(↑r.Hour.length:Int)+(↑r.Minute.length:Int)+(↑r.Second.length:Int)=0))))
theorem pcF (s:Tm) (r:Rl) (hfw:w4 r=true):VcF s r (fun y0=>y0=A0 s r):=by
 unfold VcF
 rw [show (Rl.mk r.Freq r.Interval r.Count r.Until r.Month r.WeekNo r.YearDay r.MonthDay r.Days r.Hour r.Minute r.Second r.SetPos r.Wkst)=r from rfl]
 simp only [Bool.decide_eq_true]
 refine ⟨fun _=>hfw,fun h=>a4k fun F=>h.elim (fun h=>h F.rt) fun h=>h F.rr,fun h=>?_⟩
 have rt:n7 s=true:=Classical.not_not.1 fun hn=>h (.inl hn)
 have rr:A6 r=true:=Classical.not_not.1 fun hn=>h (.inr hn)
 obtain ⟨wmo,wwn,wyd,wmd,wdy,who,wmi,wse,wsp,wti⟩:=Q8 hfw
 have hl:(r.Until.length:Int)<=1:=(m8.1 rr).til.1
 refine ⟨fun x=>0<=x/\(0<x->(((ix r.Until 0).Bare=true↔s.Bare=true)/\((ix r.Until 0).UTC=true↔s.UTC=true))),fun x=>((r.Until.length:Int)-x).toNat,⟨Int.le_refl _,fun h=>by omega⟩,?_⟩
 rintro x ⟨x0,hx⟩
 refine ⟨fun h1=>?_,fun h1=>?_⟩
 . obtain rfl:x=0:=by omega
   refine ⟨x0,h1,fun _ _ _ _ _ _=>⟨fun hn=>a4k fun F=>?_,fun hn=>⟨by decide,⟨by decide,fun _=>⟨Classical.not_not.1 fun h=>hn (.inl h),Classical.not_not.1 fun h=>hn (.inr h)⟩⟩,by dsimp only; omega⟩⟩⟩
   obtain ⟨a,b⟩:=F.un h1
   exact hn.elim (fun h=>h a) fun h=>h b
 . refine ⟨fun _=>⟨by omega,by omega⟩,fun _=>⟨by omega,by omega⟩,?_⟩
   refine Bool.eq_iff_iff.2 (Iff.trans decide_eq_true_iff (Iff.trans ?_ G7.symm))
   constructor
   . intro hb
     exact ⟨rt,rr,fun h0=>hx (by omega),fun hs=>by rcases hb with hb | ⟨hb,hc⟩; exact absurd hs hb; exact ⟨hb,by omega,by omega,by omega⟩⟩
   . intro F
     by_cases hs:s.Bare=true
     . obtain ⟨a,b,c,d⟩:=F.ba hs
       exact .inr ⟨a,by omega⟩
     . exact .inl hs
noncomputable def e1t (s:Tm) (r:Rl):Q1 U:=⟨[w4 r=true],[],blB (A0 s r)⟩
noncomputable def ccF (a:List (SV U)):Option (Q1 U):=match a with | [.agg l_s,.agg l_r]=>(y25.bk (.agg l_s)).bind fun s=>(y30.bk (.agg l_r)).bind fun r=>some (e1t s r) | _=>none
noncomputable def NcF:Env:=NgR.addL 18 ccF
theorem b4x:j7 NcF:=b6k.addL Tryz.call18 fun (args:List (SV U)) (q:Q1 U) (h:ccF args=some q) ho=>by
 unfold ccF at h
 split at h
 . rename_i l_s l_r
   obtain ⟨s,hb_s,h⟩:=Option.bind_eq_some_iff.1 h
   obtain ⟨r,hb_r,h⟩:=Option.bind_eq_some_iff.1 h
   cases h
   refine A3.conv (E:=NgR) (args':=[.agg [.int .i64 s.Day.Year,.int .i64 s.Day.Month,.int .i64 s.Day.Date,.int .i64 s.Hour,.int .i64 s.Min,.int .i64 s.Sec,blB s.Bare,blB s.UTC],.agg [.int .i64 r.Freq,.int .i64 r.Interval,.int .i64 r.Count,.sl 25 r.Until,.sl 3 r.Month,.sl 3 r.WeekNo,.sl 3 r.YearDay,.sl 3 r.MonthDay,.sl 60 r.Days,.sl 3 r.Hour,.sl 3 r.Minute,.sl 3 r.Second,.sl 3 r.SetPos,.int .i64 r.Wkst]]) (q8 (an:=e1j 18) b6k (j6 b6k o9 e1j 2) Tryz.func18 (k:=.bool) trivial (kc (pcF s r ho.1) (by kernel_rfl)) 0) fun D w vs hr=>q9 [.agg l_s,.agg l_r] [.agg [.int .i64 s.Day.Year,.int .i64 s.Day.Month,.int .i64 s.Day.Date,.int .i64 s.Hour,.int .i64 s.Min,.int .i64 s.Sec,blB s.Bare,blB s.UTC],.agg [.int .i64 r.Freq,.int .i64 r.Interval,.int .i64 r.Count,.sl (N:=U) 25 r.Until,.sl (N:=U) 3 r.Month,.sl (N:=U) 3 r.WeekNo,.sl (N:=U) 3 r.YearDay,.sl (N:=U) 3 r.MonthDay,.sl (N:=U) 60 r.Days,.sl (N:=U) 3 r.Hour,.sl (N:=U) 3 r.Minute,.sl (N:=U) 3 r.Second,.sl (N:=U) 3 r.SetPos,.int .i64 r.Wkst]] _ ⟨fun _ h=>o7 hb_s h,fun _ h=>s9 hb_r h,trivial⟩ hr
 . cases h
def e1n:Nat->Ann:=fun | 21=>⟨63,nn,nn⟩ | _=>⟨0,nn,nn⟩
def VxF (s:Tm) (r:Rl) (Q:Bool->Prop):Prop :=
(¬¬n7 (Tm.mk (Dy.mk s.Day.Year s.Day.Month s.Day.Date) s.Hour s.Min s.Sec (decide (s.Bare=true)) (decide (s.UTC=true)))=true->w4 (Rl.mk r.Freq r.Interval r.Count r.Until r.Month r.WeekNo r.YearDay r.MonthDay r.Days r.Hour r.Minute r.Second r.SetPos r.Wkst)=true)/\(¬n7 (Tm.mk (Dy.mk s.Day.Year s.Day.Month s.Day.Date) s.Hour s.Min s.Sec (decide (s.Bare=true)) (decide (s.UTC=true)))=true ∨ ¬A6 (Rl.mk r.Freq r.Interval r.Count r.Until r.Month r.WeekNo r.YearDay r.MonthDay r.Days r.Hour r.Minute r.Second r.SetPos r.Wkst)=true->Q false)/\(¬(¬n7 (Tm.mk (Dy.mk s.Day.Year s.Day.Month s.Day.Date) s.Hour s.Min s.Sec (decide (s.Bare=true)) (decide (s.UTC=true)))=true ∨ ¬A6 (Rl.mk r.Freq r.Interval r.Count r.Until r.Month r.WeekNo r.YearDay r.MonthDay r.Days r.Hour r.Minute r.Second r.SetPos r.Wkst)=true)->((0:Int)<(↑r.Until.length:Int)->(0:Int)<=0)/\((0:Int)<(↑r.Until.length:Int)->(0:Int)<(↑r.Until.length:Int))/\(((0:Int)<(↑r.Until.length:Int)->b9 (ix r.Until (0:Int)).Day.Year)->((0:Int)<(↑r.Until.length:Int)->b9 (ix r.Until (0:Int)).Day.Month)->((0:Int)<(↑r.Until.length:Int)->b9 (ix r.Until (0:Int)).Day.Date)->((0:Int)<(↑r.Until.length:Int)->b9 (ix r.Until (0:Int)).Hour)->((0:Int)<(↑r.Until.length:Int)->b9 (ix r.Until (0:Int)).Min)->((0:Int)<(↑r.Until.length:Int)->b9 (ix r.Until (0:Int)).Sec)->((0:Int)<(↑r.Until.length:Int)/\¬¬((ix r.Until (0:Int)).Bare=true↔s.Bare=true)->(0:Int)<=0)/\((0:Int)<(↑r.Until.length:Int)/\¬¬((ix r.Until (0:Int)).Bare=true↔s.Bare=true)->(0:Int)<(↑r.Until.length:Int))/\(((0:Int)<(↑r.Until.length:Int)/\¬¬((ix r.Until (0:Int)).Bare=true↔s.Bare=true)->b9 (ix r.Until (0:Int)).Day.Year)->((0:Int)<(↑r.Until.length:Int)/\¬¬((ix r.Until (0:Int)).Bare=true↔s.Bare=true)->b9 (ix r.Until (0:Int)).Day.Month)->((0:Int)<(↑r.Until.length:Int)/\¬¬((ix r.Until (0:Int)).Bare=true↔s.Bare=true)->b9 (ix r.Until (0:Int)).Day.Date)->((0:Int)<(↑r.Until.length:Int)/\¬¬((ix r.Until (0:Int)).Bare=true↔s.Bare=true)->b9 (ix r.Until (0:Int)).Hour)->((0:Int)<(↑r.Until.length:Int)/\¬¬((ix r.Until (0:Int)).Bare=true↔s.Bare=true)->b9 (ix r.Until (0:Int)).Min)->((0:Int)<(↑r.Until.length:Int)/\¬¬((ix r.Until (0:Int)).Bare=true↔s.Bare=true)->b9 (ix r.Until (0:Int)).Sec)->((0:Int)<(↑r.Until.length:Int)/\(¬((ix r.Until (0:Int)).Bare=true↔s.Bare=true) ∨ ¬((ix r.Until (0:Int)).UTC=true↔s.UTC=true))->Q false)/\(¬((0:Int)<(↑r.Until.length:Int)/\(¬((ix r.Until (0:Int)).Bare=true↔s.Bare=true) ∨ ¬((ix r.Until (0:Int)).UTC=true↔s.UTC=true)))->Q (decide (¬s.Bare=true ∨ ((r.Freq<=3/\(↑r.Hour.length:Int)=0)/\(↑r.Minute.length:Int)=0)/\(↑r.Second.length:Int)=0))))))
theorem pxF (s:Tm) (r:Rl) (hfw:w4 r=true):VxF s r (fun y0=>y0=A0 s r):=by
 unfold VxF
 rw [show (Rl.mk r.Freq r.Interval r.Count r.Until r.Month r.WeekNo r.YearDay r.MonthDay r.Days r.Hour r.Minute r.Second r.SetPos r.Wkst)=r from rfl]
 simp only [Bool.decide_eq_true]
 refine ⟨fun _=>hfw,fun h=>a4k fun F=>h.elim (fun h=>h F.rt) fun h=>h F.rr,fun h=>?_⟩
 have rt:n7 s=true:=Classical.not_not.1 fun hn=>h (.inl hn)
 have rr:A6 r=true:=Classical.not_not.1 fun hn=>h (.inr hn)
 refine ⟨fun _=>by decide,fun h=>h,fun _ _ _ _ _ _=>⟨fun _=>by decide,fun h=>h.1,fun _ _ _ _ _ _=>⟨fun hn=>a4k fun F=>?_,fun hn=>?_⟩⟩⟩
 . obtain ⟨a,b⟩:=F.un hn.1
   exact hn.2.elim (fun h=>h a) fun h=>h b
 . refine Bool.eq_iff_iff.2 (Iff.trans decide_eq_true_iff (Iff.trans ?_ G7.symm))
   constructor
   . intro hb
     exact ⟨rt,rr,fun h0=>⟨Classical.not_not.1 fun h=>hn ⟨h0,.inl h⟩,Classical.not_not.1 fun h=>hn ⟨h0,.inr h⟩⟩,fun hs=>by rcases hb with hb | ⟨⟨⟨h1,h2⟩,h3⟩,h4⟩; exact absurd hs hb; exact ⟨h1,h2,h3,h4⟩⟩
   . intro F
     by_cases hs:s.Bare=true
     . obtain ⟨a,b,c,d⟩:=F.ba hs
       exact .inr ⟨⟨⟨a,b⟩,c⟩,d⟩
     . exact .inl hs
noncomputable def e2t (s:Tm) (r:Rl):Q1 U:=⟨[w4 r=true],[],blB (A0 s r)⟩
noncomputable def cxF (a:List (SV U)):Option (Q1 U):=match a with | [.agg l_s,.agg l_r]=>(y25.bk (.agg l_s)).bind fun s=>(y30.bk (.agg l_r)).bind fun r=>some (e2t s r) | _=>none
noncomputable def NxF:Env:=NcF.addL 21 cxF
theorem b53:j7 NxF:=b4x.addL Tryz.call21 fun (args:List (SV U)) (q:Q1 U) (h:cxF args=some q) ho=>by
 unfold cxF at h
 split at h
 . rename_i l_s l_r
   obtain ⟨s,hb_s,h⟩:=Option.bind_eq_some_iff.1 h
   obtain ⟨r,hb_r,h⟩:=Option.bind_eq_some_iff.1 h
   cases h
   refine A3.conv (E:=NcF) (args':=[.agg [.int .i64 s.Day.Year,.int .i64 s.Day.Month,.int .i64 s.Day.Date,.int .i64 s.Hour,.int .i64 s.Min,.int .i64 s.Sec,blB s.Bare,blB s.UTC],.agg [.int .i64 r.Freq,.int .i64 r.Interval,.int .i64 r.Count,.sl 25 r.Until,.sl 3 r.Month,.sl 3 r.WeekNo,.sl 3 r.YearDay,.sl 3 r.MonthDay,.sl 60 r.Days,.sl 3 r.Hour,.sl 3 r.Minute,.sl 3 r.Second,.sl 3 r.SetPos,.int .i64 r.Wkst]]) (q8 (an:=e1n 21) b4x (j6 b4x o9 e1n 2) Tryz.func21 (k:=.bool) trivial (kc (pxF s r ho.1) (by kernel_rfl)) 0) fun D w vs hr=>q9 [.agg l_s,.agg l_r] [.agg [.int .i64 s.Day.Year,.int .i64 s.Day.Month,.int .i64 s.Day.Date,.int .i64 s.Hour,.int .i64 s.Min,.int .i64 s.Sec,blB s.Bare,blB s.UTC],.agg [.int .i64 r.Freq,.int .i64 r.Interval,.int .i64 r.Count,.sl (N:=U) 25 r.Until,.sl (N:=U) 3 r.Month,.sl (N:=U) 3 r.WeekNo,.sl (N:=U) 3 r.YearDay,.sl (N:=U) 3 r.MonthDay,.sl (N:=U) 60 r.Days,.sl (N:=U) 3 r.Hour,.sl (N:=U) 3 r.Minute,.sl (N:=U) 3 r.Second,.sl (N:=U) 3 r.SetPos,.int .i64 r.Wkst]] _ ⟨fun _ h=>o7 hb_s h,fun _ h=>s9 hb_r h,trivial⟩ hr
 . cases h
def d8m:Nat->Ann:=fun | 81=>⟨18,nn,nn⟩ | _=>⟨0,nn,nn⟩
def Vch (l:List Int) (n:Int) (a:Int) (Q:Bool->Prop):Prop :=
l.length<=1000000/\(¬w7 l n=true->b9 (n-a))/\(¬w7 l n=true->b9 (n-a-1))/\(¬w7 l n=true->l.length<=1000000)/\Q (decide (w7 l n=true ∨ w7 l (n-a-1)=true))
theorem pch (l:List Int) (n:Int) (a:Int) (hl:l.length<=1000000) (n0:-10000000<=n) (n1:n<=10000000) (a0:-10000000<=a) (a1:a<=10000000):Vch l n a (fun y0=>y0=Re.hasE l n a):=by
 unfold Vch Re.hasE
 refine ⟨hl,fun _=>⟨by omega,by omega⟩,fun _=>⟨by omega,by omega⟩,fun _=>hl,b6x ?_⟩
 rw [Bool.or_eq_true]
def cch (a:List (SV U)):Option (Q1 U):=match a with | [.sl 3 l,.int .i64 n,.int .i64 a]=>some ⟨[List.length (α:=Int) l<=1000000,-10000000<=n,n<=10000000,-10000000<=a,a<=10000000],[],blB (Re.hasE l n a)⟩ | _=>none
noncomputable def Nch:Env:=NxF.addL 81 cch
theorem b5i:j7 Nch:=b53.addL Tryz.call81 fun (args:List (SV U)) (q:Q1 U) (h:cch args=some q) ho=>by
 unfold cch at h
 split at h
 . rename_i l n a
   cases h
   exact q8 (an:=d8m 81) b53 (j6 b53 o9 d8m 2) Tryz.func81 (k:=.bool) (x:=Re.hasE l n a) trivial (kc (pch l n a ho.1 ho.2.1 ho.2.2.1 ho.2.2.2.1 ho.2.2.2.2.1) (by kernel_rfl)) 0
 . cases h
def d8e:Nat->Ann:=fun | 45=>⟨53,nn,nn⟩ | _=>⟨0,nn,nn⟩
def Vci (x:Lk) (t:Int) (Q:Int->Prop):Prop :=
(86400:Int)≠0/\b9 (t.tdiv (86400:Int))/\b9 (t.tdiv (86400:Int)+1)/\((ix [x] (0:Int)).Rule.Freq=0->Q (ofS (t.tdiv (86400:Int)+1)).Year)/\(¬(ix [x] (0:Int)).Rule.Freq=0->((ix [x] (0:Int)).Rule.Freq=1->b9 ((12:Int) * (ofS (t.tdiv (86400:Int)+1)).Year)/\b9 ((12:Int) * (ofS (t.tdiv (86400:Int)+1)).Year+(ofS (t.tdiv (86400:Int)+1)).Month)/\b9 ((12:Int) * (ofS (t.tdiv (86400:Int)+1)).Year+(ofS (t.tdiv (86400:Int)+1)).Month-1)/\Q ((12:Int) * (ofS (t.tdiv (86400:Int)+1)).Year+(ofS (t.tdiv (86400:Int)+1)).Month-1))/\(¬(ix [x] (0:Int)).Rule.Freq=1->((ix [x] (0:Int)).Rule.Freq=2->b9 (t.tdiv (86400:Int)+1+6)/\b9 (t.tdiv (86400:Int)+1+6-(ix [x] (0:Int)).Rule.Wkst)/\(7:Int)≠0/\b9 ((t.tdiv (86400:Int)+1+6-(ix [x] (0:Int)).Rule.Wkst).tdiv (7:Int))/\Q ((t.tdiv (86400:Int)+1+6-(ix [x] (0:Int)).Rule.Wkst).tdiv (7:Int)))/\(¬(ix [x] (0:Int)).Rule.Freq=2->((ix [x] (0:Int)).Rule.Freq=3->Q (t.tdiv (86400:Int)+1))/\(¬(ix [x] (0:Int)).Rule.Freq=3->((ix [x] (0:Int)).Rule.Freq=4->(3600:Int)≠0/\b9 (t.tdiv (3600:Int))/\Q (t.tdiv (3600:Int)))/\(¬(ix [x] (0:Int)).Rule.Freq=4->((ix [x] (0:Int)).Rule.Freq=5->(60:Int)≠0/\b9 (t.tdiv (60:Int))/\Q (t.tdiv (60:Int)))/\(¬(ix [x] (0:Int)).Rule.Freq=5->Q t))))))
theorem pci (x:Lk) (t:Int) (t0:0<=t) (t1:t<=400000000000) (w0:0<=x.Rule.Wkst) (w1:x.Rule.Wkst<=6):Vci x t (fun y0=>y0=j8 x.Rule t):=by
 unfold Vci j8 s5
 have ex:ix [x] 0=x:=rfl
 rw [ex]
 have e0:t.tdiv 86400=t / 86400:=Int.tdiv_eq_ediv_of_nonneg t0
 have e1:t.tdiv 3600=t / 3600:=Int.tdiv_eq_ediv_of_nonneg t0
 have e2:t.tdiv 60=t / 60:=Int.tdiv_eq_ediv_of_nonneg t0
 have e3:(t / 86400+1+6-x.Rule.Wkst).tdiv 7=(t / 86400+1+6-x.Rule.Wkst) / 7:=Int.tdiv_eq_ediv_of_nonneg (by omega)
 rw [e0,e1,e2,e3]
 obtain ⟨y,m,_⟩:=a92 (t / 86400+1)
 refine ⟨by decide,⟨by omega,by omega⟩,⟨by omega,by omega⟩,fun h=>by rw [if_pos h,if_neg (by omega)]; omega,fun h0=>⟨fun h=>⟨⟨by omega,by omega⟩,⟨by omega,by omega⟩,⟨by omega,by omega⟩,by rw [if_neg h0,if_pos h,if_pos h]⟩,fun h1=>⟨fun h=>⟨⟨by omega,by omega⟩,⟨by omega,by omega⟩,by decide,⟨by omega,by omega⟩,by rw [if_neg h0,if_neg h1,if_pos h,if_neg h1]; omega⟩,fun h2=>⟨fun h=>by rw [if_neg h0,if_neg h1,if_neg h2,if_pos h,if_neg h1]; omega,fun h3=>⟨fun h=>⟨by decide,⟨by omega,by omega⟩,by rw [if_neg h0,if_neg h1,if_neg h2,if_neg h3,if_pos h,if_neg h1]; omega⟩,fun h4=>⟨fun h=>⟨by decide,⟨by omega,by omega⟩,by rw [if_neg h0,if_neg h1,if_neg h2,if_neg h3,if_neg h4,if_pos h,if_neg h1]; omega⟩,fun h5=>by rw [if_neg h0,if_neg h1,if_neg h2,if_neg h3,if_neg h4,if_neg h5,if_neg h1]; omega⟩⟩⟩⟩⟩⟩
def cci (a:List (SV U)):Option (Q1 U):=match a with | [.fel 85 [x] 0 0,.int .i64 t]=>some ⟨[0<=t,t<=400000000000,0<=x.Rule.Wkst,x.Rule.Wkst<=6],[],.int .i64 (j8 x.Rule t)⟩ | _=>none
noncomputable def Nci:Env:=Nch.addL 45 cci
theorem b4j:j7 Nci:=b5i.addL Tryz.call45 fun (args:List (SV U)) (q:Q1 U) (h:cci args=some q) ho=>by
 unfold cci at h
 split at h
 . rename_i x t
   cases h
   exact q8 (an:=d8e 45) b5i (j6 b5i o9 d8e 2) Tryz.func45 (k:=.int .i64) (x:=j8 x.Rule t) trivial (kc (pci x t ho.1 ho.2.1 ho.2.2.1 ho.2.2.2.1) (by kernel_rfl)) 0
 . cases h
def d7t:Nat->Ann:=fun | 57=>⟨61,nn,nn⟩ | _=>⟨0,nn,nn⟩
def Vcb (x:Lk) (i:Int) (Q:Int->Prop):Prop :=
((ix [x] (0:Int)).Rule.Freq=0->(j9 (Dy.mk i (1:Int) (1:Int))=0 ∨ (3652059:Int)<j9 (Dy.mk i (1:Int) (1:Int))->Q (315537897600:Int))/\(¬(j9 (Dy.mk i (1:Int) (1:Int))=0 ∨ (3652059:Int)<j9 (Dy.mk i (1:Int) (1:Int)))->b9 (j9 (Dy.mk i (1:Int) (1:Int))-1)/\b9 ((j9 (Dy.mk i (1:Int) (1:Int))-1) * 86400)/\Q ((j9 (Dy.mk i (1:Int) (1:Int))-1) * 86400)))/\(¬(ix [x] (0:Int)).Rule.Freq=0->((ix [x] (0:Int)).Rule.Freq=1->(12:Int)≠0/\b9 (i.tdiv (12:Int))/\(12:Int)≠0/\b9 (i.tmod (12:Int)+1)/\(j9 (Dy.mk (i.tdiv (12:Int)) (i.tmod (12:Int)+1) (1:Int))=0 ∨ (3652059:Int)<j9 (Dy.mk (i.tdiv (12:Int)) (i.tmod (12:Int)+1) (1:Int))->Q (315537897600:Int))/\(¬(j9 (Dy.mk (i.tdiv (12:Int)) (i.tmod (12:Int)+1) (1:Int))=0 ∨ (3652059:Int)<j9 (Dy.mk (i.tdiv (12:Int)) (i.tmod (12:Int)+1) (1:Int)))->b9 (j9 (Dy.mk (i.tdiv (12:Int)) (i.tmod (12:Int)+1) (1:Int))-1)/\b9 ((j9 (Dy.mk (i.tdiv (12:Int)) (i.tmod (12:Int)+1) (1:Int))-1) * 86400)/\Q ((j9 (Dy.mk (i.tdiv (12:Int)) (i.tmod (12:Int)+1) (1:Int))-1) * 86400)))/\(¬(ix [x] (0:Int)).Rule.Freq=1->((ix [x] (0:Int)).Rule.Freq=2->b9 ((7:Int) * i)/\b9 ((7:Int) * i-6)/\b9 ((7:Int) * i-6+(ix [x] (0:Int)).Rule.Wkst)/\(((bif true then max (1:Int) ((7:Int) * i-6+(ix [x] (0:Int)).Rule.Wkst) else min (1:Int) ((7:Int) * i-6+(ix [x] (0:Int)).Rule.Wkst))=0 ∨ (3652059:Int)<bif true then max (1:Int) ((7:Int) * i-6+(ix [x] (0:Int)).Rule.Wkst) else min (1:Int) ((7:Int) * i-6+(ix [x] (0:Int)).Rule.Wkst))->Q (315537897600:Int))/\(¬((bif true then max (1:Int) ((7:Int) * i-6+(ix [x] (0:Int)).Rule.Wkst) else min (1:Int) ((7:Int) * i-6+(ix [x] (0:Int)).Rule.Wkst))=0 ∨ (3652059:Int)<bif true then max (1:Int) ((7:Int) * i-6+(ix [x] (0:Int)).Rule.Wkst) else min (1:Int) ((7:Int) * i-6+(ix [x] (0:Int)).Rule.Wkst))->b9 ((bif true then max (1:Int) ((7:Int) * i-6+(ix [x] (0:Int)).Rule.Wkst) else min (1:Int) ((7:Int) * i-6+(ix [x] (0:Int)).Rule.Wkst))-1)/\b9 (((bif true then max (1:Int) ((7:Int) * i-6+(ix [x] (0:Int)).Rule.Wkst) else min (1:Int) ((7:Int) * i-6+(ix [x] (0:Int)).Rule.Wkst))-1) * 86400)/\Q (((bif true then max (1:Int) ((7:Int) * i-6+(ix [x] (0:Int)).Rule.Wkst) else min (1:Int) ((7:Int) * i-6+(ix [x] (0:Int)).Rule.Wkst))-1) * 86400)))/\(¬(ix [x] (0:Int)).Rule.Freq=2->((ix [x] (0:Int)).Rule.Freq=3->(i=0 ∨ (3652059:Int)<i->Q (315537897600:Int))/\(¬(i=0 ∨ (3652059:Int)<i)->b9 (i-1)/\b9 ((i-1) * 86400)/\Q ((i-1) * 86400)))/\(¬(ix [x] (0:Int)).Rule.Freq=3->((ix [x] (0:Int)).Rule.Freq=4->b9 ((bif false then max i (87649416:Int) else min i (87649416:Int)) * 3600)/\Q ((bif false then max i (87649416:Int) else min i (87649416:Int)) * 3600))/\(¬(ix [x] (0:Int)).Rule.Freq=4->((ix [x] (0:Int)).Rule.Freq=5->b9 ((bif false then max i (5258964960:Int) else min i (5258964960:Int)) * 60)/\Q ((bif false then max i (5258964960:Int) else min i (5258964960:Int)) * 60))/\(¬(ix [x] (0:Int)).Rule.Freq=5->Q (bif false then max i (315537897600:Int) else min i (315537897600:Int))))))))
set_option maxHeartbeats 2000000 in
theorem pcb (x:Lk) (i:Int) (i0:0<=i) (i1:i<=1000000000000) (w0:0<=x.Rule.Wkst) (w1:x.Rule.Wkst<=6):Vcb x i (fun y0=>y0=p4 x.Rule i):=by
 unfold Vcb p4
 have ex:ix [x] 0=x:=rfl
 rw [ex]
 have b0:∀ a b:Int,(bif false then max a b else min a b)=min a b:=fun _ _=>rfl
 have b1:∀ a b:Int,(bif true then max a b else min a b)=max a b:=fun _ _=>rfl
 have e0:i.tdiv 12=i / 12:=Int.tdiv_eq_ediv_of_nonneg i0
 have e1:i.tmod 12=i % 12:=Int.tmod_eq_emod_of_nonneg i0
 simp only [b0,b1,e0,e1]
 have n1:=G3 ⟨i,1,1⟩
 have n2:=G3 ⟨i / 12,i % 12+1,1⟩
 have nb:∀ n:Int,(n=0 ∨ 3652059<n->(315537897600:Int)=nbP n)/\(¬ (n=0 ∨ 3652059<n)->(n-1) * 86400=nbP n):=fun n=>by
  unfold nbP
  exact ⟨fun h=>by rw [if_pos h],fun h=>by rw [if_neg h]⟩
 refine ⟨fun h=>?_,fun h0=>⟨fun h=>⟨by decide,⟨by omega,by omega⟩,by decide,⟨by omega,by omega⟩,?_,?_⟩,fun h1=>⟨fun h=>⟨⟨by omega,by omega⟩,⟨by omega,by omega⟩,⟨by omega,by omega⟩,?_,?_⟩,fun h2=>⟨fun h=>⟨?_,?_⟩,fun h3=>⟨fun h=>⟨⟨by omega,by omega⟩,?_⟩,fun h4=>⟨fun h=>⟨⟨by omega,by omega⟩,?_⟩,fun h5=>?_⟩⟩⟩⟩⟩⟩
 . rw [if_pos h]; exact ⟨(nb _).1,fun hn=>⟨⟨by omega,by omega⟩,⟨by omega,by omega⟩,(nb _).2 hn⟩⟩
 . rw [if_neg h0,if_pos h]; exact (nb _).1
 . rw [if_neg h0,if_pos h]; exact fun hn=>⟨⟨by omega,by omega⟩,⟨by omega,by omega⟩,(nb _).2 hn⟩
 . rw [if_neg h0,if_neg h1,if_pos h]; exact (nb _).1
 . rw [if_neg h0,if_neg h1,if_pos h]; exact fun hn=>⟨⟨by omega,by omega⟩,⟨by omega,by omega⟩,(nb _).2 hn⟩
 . rw [if_neg h0,if_neg h1,if_neg h2,if_pos h]; exact (nb _).1
 . rw [if_neg h0,if_neg h1,if_neg h2,if_pos h]; exact fun hn=>⟨⟨by omega,by omega⟩,⟨by omega,by omega⟩,(nb _).2 hn⟩
 . rw [if_neg h0,if_neg h1,if_neg h2,if_neg h3,if_pos h]
 . rw [if_neg h0,if_neg h1,if_neg h2,if_neg h3,if_neg h4,if_pos h]
 . rw [if_neg h0,if_neg h1,if_neg h2,if_neg h3,if_neg h4,if_neg h5]
def ccb (a:List (SV U)):Option (Q1 U):=match a with | [.fel 85 [x] 0 0,.int .i64 i]=>some ⟨[0<=i,i<=1000000000000,0<=x.Rule.Wkst,x.Rule.Wkst<=6],[],.int .i64 (p4 x.Rule i)⟩ | _=>none
noncomputable def Ncb:Env:=Nci.addL 57 ccb
theorem b6y:j7 Ncb:=b4j.addL Tryz.call57 fun (args:List (SV U)) (q:Q1 U) (h:ccb args=some q) ho=>by
 unfold ccb at h
 split at h
 . rename_i x i
   cases h
   exact q8 (an:=d7t 57) b4j (j6 b4j o9 d7t 2) Tryz.func57 (k:=.int .i64) (x:=p4 x.Rule i) trivial (kc (pcb x i ho.1 ho.2.1 ho.2.2.1 ho.2.2.2.1) (by kernel_rfl)) 0
 . cases h
def d7h:Nat->Ann:=fun | 85=>⟨68,nn,nn⟩ | _=>⟨0,nn,nn⟩
def Vcl (x:Lk) (d:Dy) (n:Int) (Q:Bool->Prop):Prop :=
((0:Int)<(↑(ix [x] (0:Int)).Rule.WeekNo.length:Int)->Q (decide (wdS n=wdS (ix [x] (0:Int)).day)))/\(¬(0:Int)<(↑(ix [x] (0:Int)).Rule.WeekNo.length:Int)->((ix [x] (0:Int)).Rule.Freq=0->((↑(ix [x] (0:Int)).Rule.Month.length:Int)=0/\d.Month≠(ix [x] (0:Int)).start.Day.Month->Q false)/\(¬((↑(ix [x] (0:Int)).Rule.Month.length:Int)=0/\d.Month≠(ix [x] (0:Int)).start.Day.Month)->Q (decide (d.Date=(ix [x] (0:Int)).start.Day.Date))))/\(¬(ix [x] (0:Int)).Rule.Freq=0->((ix [x] (0:Int)).Rule.Freq=1->Q (decide (d.Date=(ix [x] (0:Int)).start.Day.Date)))/\(¬(ix [x] (0:Int)).Rule.Freq=1->((ix [x] (0:Int)).Rule.Freq=2->Q (decide (wdS n=wdS (ix [x] (0:Int)).day)))/\(¬(ix [x] (0:Int)).Rule.Freq=2->Q true))))
theorem pcl (x:Lk) (d:Dy) (n:Int) (hd:d=ofS n) (f0:0<=x.Rule.Freq):Vcl x d n (fun y0=>y0=decide (O7 x.start x.Rule x.day n)):=by
 unfold Vcl
 have ex:ix [x] 0=x:=rfl
 rw [ex]
 subst hd
 refine ⟨fun h=>decide_eq_decide.2 (by unfold O7; rw [if_pos h]),fun h=>?_⟩
 have key:∀ {p:Prop} [Decidable p],(p↔O7 x.start x.Rule x.day n)->decide p=decide (O7 x.start x.Rule x.day n):=fun h=>decide_eq_decide.2 h
 have e:O7 x.start x.Rule x.day n↔¬ (((x.Rule.Freq<=1/\(ofS n).Date≠x.start.Day.Date) ∨ ((x.Rule.Freq=0/\(x.Rule.Month.length:Int)=0)/\(ofS n).Month≠x.start.Day.Month)))/\(x.Rule.Freq≠2 ∨ wdS n=wdS x.day):=by
  unfold O7; rw [if_neg h]
 refine ⟨fun h0=>⟨fun hm=>(decide_eq_false fun hl=>(e.1 hl).1 (.inr ⟨⟨h0,hm.1⟩,hm.2⟩)).symm,fun hm=>key ?_⟩,fun h0=>⟨fun h1=>key ?_,fun h1=>⟨fun h2=>key ?_,fun h2=>(decide_eq_true (e.2 ⟨by omega,.inl h2⟩)).symm⟩⟩⟩
 . rw [e]
   exact ⟨fun hh=>⟨fun ho=>by rcases ho with ⟨_,ho⟩ | ⟨⟨_,a⟩,b⟩; exact ho hh; exact hm ⟨a,b⟩,.inl (by omega)⟩,fun hh=>Classical.not_not.1 fun ho=>hh.1 (.inl ⟨by omega,ho⟩)⟩
 . rw [e]
   exact ⟨fun hh=>⟨fun ho=>by rcases ho with ⟨_,ho⟩ | ⟨⟨a,_⟩,_⟩; exact ho hh; exact h0 a,.inl (by omega)⟩,fun hh=>Classical.not_not.1 fun ho=>hh.1 (.inl ⟨by omega,ho⟩)⟩
 . rw [e]
   exact ⟨fun hh=>⟨by omega,.inr hh⟩,fun hh=>hh.2.resolve_left fun ho=>ho h2⟩
def e1u (x:Lk) (d:Dy) (n:Int):Q1 U:=⟨[d=ofS n,0<=x.Rule.Freq],[],blB (decide (O7 x.start x.Rule x.day n))⟩
def ccl (a:List (SV U)):Option (Q1 U):=match a with | [.fel 85 [x] 0 0,.agg [.int .i64 d0,.int .i64 d1,.int .i64 d2],.int .i64 n]=>some (e1u x (⟨d0,d1,d2⟩) n) | _=>none
noncomputable def Ncl:Env:=Ncb.addL 85 ccl
theorem d2k:j7 Ncl:=b6y.addL Tryz.call85 fun (args:List (SV U)) (q:Q1 U) (h:ccl args=some q) ho=>by
 unfold ccl at h
 split at h
 . rename_i x d0 d1 d2 n
   cases h
   exact q8 (an:=d7h 85) b6y (j6 b6y o9 d7h 2) Tryz.func85 (k:=.bool) (x:=decide (O7 x.start x.Rule x.day n)) trivial (kc (pcl x (⟨d0,d1,d2⟩) n ho.1 ho.2.1) (by kernel_rfl)) 0
 . cases h
noncomputable def d1z:Env:=Ncl.addI 105 Tryz.f105
theorem c31:j7 d1z:=d2k.addI Tryz.call105 Tryz.func105
noncomputable def d2e:Env:=d1z.addI 114 Tryz.f114
theorem c4c:j7 d2e:=c31.addI Tryz.call114 Tryz.func114
noncomputable def d0t:Env:=d2e.addI 106 Tryz.f106
theorem a6o:j7 d0t:=c4c.addI Tryz.call106 Tryz.func106
def d9y:Nat->Ann:=fun | 84=>⟨55,nn,fun | 4=>some ⟨[0,6],[.slot 9 (.int .i64),.slot 10 (.int .i64)]⟩ | _=>none⟩ | 105=>⟨9,nn,nn⟩ | 114=>⟨19,fun | 2=>some ⟨[0,1,7],[.slot 8 (.int .i64)]⟩ | _=>none,nn⟩ | 106=>⟨28,nn,nn⟩ | _=>⟨0,nn,nn⟩
def Vcw (x:Lk) (d:Dy) (n:Int) (lg:Int) (Q:Bool->Prop):Prop :=
∃ (J:Int->Int->Prop),(((ix [x] (0:Int)).Rule.Freq=1 ∨ (0:Int)<(↑(ix [x] (0:Int)).Rule.Month.length:Int)->J d.Date (u9 d.Year d.Month))/\(¬((ix [x] (0:Int)).Rule.Freq=1 ∨ (0:Int)<(↑(ix [x] (0:Int)).Rule.Month.length:Int))->J (ydS (Dy.mk d.Year d.Month d.Date)) lg))/\∀ (x_1 x_2:Int),J x_1 x_2->b9 (x_1-1)/\(7:Int)≠0/\b9 ((x_1-1).tdiv (7:Int))/\b9 ((x_1-1).tdiv (7:Int)+1)/\b9 (x_2-x_1)/\(7:Int)≠0/\b9 ((x_2-x_1).tdiv (7:Int))/\b9 ((x_2-x_1).tdiv (7:Int)+1)/\b9 ((0:Int)-((x_2-x_1).tdiv (7:Int)+1))/\∃ (I:Int->Prop),∃ (m:Int->Nat),I (0:Int)/\∀ (x_3:Int),I x_3->(x_3<(↑(ix [x] (0:Int)).Rule.Days.length:Int)->(0:Int)<=x_3/\x_3<(↑(ix [x] (0:Int)).Rule.Days.length:Int)/\(b9 (ix (ix [x] (0:Int)).Rule.Days x_3).N->b9 (ix (ix [x] (0:Int)).Rule.Days x_3).Day->((ix (ix [x] (0:Int)).Rule.Days x_3).Day=wdS n/\(((ix (ix [x] (0:Int)).Rule.Days x_3).N=0 ∨ (ix (ix [x] (0:Int)).Rule.Days x_3).N=(x_1-1).tdiv (7:Int)+1) ∨ (ix (ix [x] (0:Int)).Rule.Days x_3).N=(0:Int)-((x_2-x_1).tdiv (7:Int)+1))->Q (decide ((0:Int)<=x_3)))/\(¬((ix (ix [x] (0:Int)).Rule.Days x_3).Day=wdS n/\(((ix (ix [x] (0:Int)).Rule.Days x_3).N=0 ∨ (ix (ix [x] (0:Int)).Rule.Days x_3).N=(x_1-1).tdiv (7:Int)+1) ∨ (ix (ix [x] (0:Int)).Rule.Days x_3).N=(0:Int)-((x_2-x_1).tdiv (7:Int)+1)))->b9 (x_3+1)/\I (x_3+1)/\m (x_3+1)<m x_3)))/\(¬x_3<(↑(ix [x] (0:Int)).Rule.Days.length:Int)->Q (decide ((0:Int)<=(-1:Int))))
theorem pcw (x:Lk) (d:Dy) (n:Int) (lg:Int) (hd:d=ofS n) (hlg:lg=ydS ⟨(ofS n).Year,12,31⟩) (hfw:w4 x.Rule=true) (n0:1<=n) (n1:n<=3652059) (hR:A6 x.Rule=true):Vcw x d n lg (fun y0=>y0=wdB x.Rule n):=by
 unfold Vcw
 have ex:ix [x] 0=x:=rfl
 rw [ex]
 subst hd hlg
 rw [show Dy.mk (ofS n).Year (ofS n).Month (ofS n).Date=ofS n from rfl]
 obtain ⟨wmo,wwn,wyd,wmd,wdy,who,wmi,wse,wsp,wti⟩:=Q8 hfw
 refine ⟨fun a b=>a=atW x.Rule n/\b=a04 x.Rule n,⟨fun h=>by unfold atW a04; rw [if_pos h,if_pos h]; exact ⟨rfl,rfl⟩,fun h=>by unfold atW a04; rw [if_neg h,if_neg h]; exact ⟨rfl,rfl⟩⟩,?_⟩
 rintro _ _ ⟨rfl,rfl⟩
 obtain ⟨g1,g2,g3,g4⟩:=c7j x.Rule n
 obtain ⟨g5,g6⟩:=d0u (r:=x.Rule) n0 n1
 have e1:(atW x.Rule n-1).tdiv 7=(atW x.Rule n-1) / 7:=Int.tdiv_eq_ediv_of_nonneg (by omega)
 have e2:(a04 x.Rule n-atW x.Rule n).tdiv 7=(a04 x.Rule n-atW x.Rule n) / 7:=Int.tdiv_eq_ediv_of_nonneg (by omega)
 rw [e1,e2]
 refine ⟨⟨by omega,by omega⟩,by decide,⟨by omega,by omega⟩,⟨by omega,by omega⟩,⟨by omega,by omega⟩,by decide,⟨by omega,by omega⟩,⟨by omega,by omega⟩,⟨by omega,by omega⟩,?_⟩
 have key:∀ y:Nt,(y.Day=wdS n/\((y.N=0 ∨ y.N=(atW x.Rule n-1) / 7+1) ∨ y.N=0-((a04 x.Rule n-atW x.Rule n) / 7+1)))↔WdP x.Rule n y:=fun y=>by
  unfold WdP
  constructor <;> rintro ⟨a,b⟩ <;> refine ⟨a,?_⟩ <;> omega
 refine ⟨fun i=>0<=i/\∀ j:Int,0<=j->j<i->¬ WdP x.Rule n (ix x.Rule.Days j),fun i=>((x.Rule.Days.length:Int)-i).toNat,⟨by omega,fun j a b=>absurd b (by omega)⟩,?_⟩
 rintro i ⟨i0,hi⟩
 refine ⟨fun h=>⟨i0,h,fun _ _=>⟨fun hy=>?_,fun hy=>⟨⟨by omega,by omega⟩,⟨by omega,fun j a b=>?_⟩,by dsimp only; omega⟩⟩⟩,fun h=>c6s fun j a b=>hi j a (by omega)⟩
 . rw [decide_eq_true i0]; exact b8g i0 h ((key _).1 hy)
 . by_cases e:j=i
   . subst e; exact fun hw=>hy ((key _).2 hw)
   . exact hi j a (by omega)
def e2o (x:Lk) (d:Dy) (n:Int) (lg:Int):Q1 U:=⟨[d=ofS n,lg=ydS ⟨(ofS n).Year,12,31⟩,w4 x.Rule=true,1<=n,n<=3652059,A6 x.Rule=true],[],blB (wdB x.Rule n)⟩
def ccw (a:List (SV U)):Option (Q1 U):=match a with | [.fel 85 [x] 0 0,.agg [.int .i64 d0,.int .i64 d1,.int .i64 d2],.int .i64 n,.int .i64 lg]=>some (e2o x (⟨d0,d1,d2⟩) n lg) | _=>none
noncomputable def Ncw:Env:=d0t.addL 84 ccw
theorem b7h:j7 Ncw:=a6o.addL Tryz.call84 fun (args:List (SV U)) (q:Q1 U) (h:ccw args=some q) ho=>by
 unfold ccw at h
 split at h
 . rename_i x d0 d1 d2 n lg
   cases h
   exact q8 (an:=d9y 84) a6o (j6 a6o o9 d9y 4) Tryz.func84 (k:=.bool) (x:=wdB x.Rule n) trivial (kc (pcw x (⟨d0,d1,d2⟩) n lg ho.1 ho.2.1 ho.2.2.1 ho.2.2.2.1 ho.2.2.2.2.1 ho.2.2.2.2.2.1) (by kernel_rfl)) 0
 . cases h
end Go.Proofs.YtdjfeninmbpflaaGreat
end
section
namespace Go.Re
open Go Go.Wk Go.Wl Go.Rx
theorem b0s {l:List Int} {n a:Int} (h:0<(l.length:Int)/\¬ Re.hasE l n a=true):C4 l n a=false:=by
 unfold C4
 rw [decide_eq_false (by omega),Bool.false_or]
 exact Bool.eq_false_iff.2 h.2
theorem a2r {l:List Int} {n a:Int} (h:¬ (0<(l.length:Int)/\¬ Re.hasE l n a=true)):C4 l n a=true:=by
 unfold C4
 rw [Bool.or_eq_true,decide_eq_true_iff]
 by_cases h0:(l.length:Int)=0
 . exact .inl h0
 . exact .inr (Classical.not_not.1 fun hn=>h ⟨by omega,hn⟩)
def b4v (r:Rl) (m:Int):Bool:=decide ((r.Month.length:Int)=0) || w7 r.Month m
theorem d6t {r:Rl} {m:Int} (h:0<(r.Month.length:Int)/\¬ w7 r.Month m=true):b4v r m=false:=by
 unfold b4v
 rw [decide_eq_false (by omega),Bool.false_or]
 exact Bool.eq_false_iff.2 h.2
theorem d02 {r:Rl} {m:Int} (h:¬ (0<(r.Month.length:Int)/\¬ w7 r.Month m=true)):b4v r m=true:=by
 unfold b4v
 rw [Bool.or_eq_true,decide_eq_true_iff]
 by_cases h0:(r.Month.length:Int)=0
 . exact .inl h0
 . exact .inr (Classical.not_not.1 fun hn=>h ⟨by omega,hn⟩)
section
variable {s:Tm} {r:Rl} {dy n:Int}
abbrev wkB (r:Rl) (n:Int):Bool:=C4 r.WeekNo (w8 n r.Wkst).2 (O3 (w8 n r.Wkst).1 r.Wkst)
abbrev ydB (r:Rl) (n:Int):Bool:=C4 r.YearDay (ydS (ofS n)) (ydS ⟨(ofS n).Year,12,31⟩)
abbrev mdB (r:Rl) (n:Int):Bool:=C4 r.MonthDay (ofS n).Date (u9 (ofS n).Year (ofS n).Month)
def c77 (s:Tm) (r:Rl) (dy n:Int):Bool:=if 0<(r.Days.length:Int) then wdB r n else if 0<(r.YearDay.length:Int) ∨ 0<(r.MonthDay.length:Int) then true else decide (O7 s r dy n)
theorem a6b:N7 s r dy n=(((b4v r (ofS n).Month && wkB r n) && (ydB r n && mdB r n)) && c77 s r dy n):=rfl
theorem e1b (h:b4v r (ofS n).Month=false):false=N7 s r dy n:=by rw [a6b,h]; rfl
theorem d7l (h:wkB r n=false):false=N7 s r dy n:=by rw [a6b,h,Bool.and_false]; rfl
theorem d8p (h:ydB r n=false):false=N7 s r dy n:=by rw [a6b,h,Bool.false_and,Bool.and_false]; rfl
theorem e0v (h:mdB r n=false):false=N7 s r dy n:=by rw [a6b,h,Bool.and_false,Bool.and_false]; rfl
theorem c9f (h1:b4v r (ofS n).Month=true) (h2:wkB r n=true) (h3:ydB r n=true) (h4:mdB r n=true):N7 s r dy n=c77 s r dy n:=by rw [a6b,h1,h2,h3,h4]; rfl
end
end Go.Re
end
section
namespace Go.Proofs.YtdjfeninmbpflaaGreat
open Go Go.Wk Go.Wl Go.Rx Go.Re 
attribute [local irreducible] m7
def d8n:Nat->Ann:=fun | 46=>⟨141,nn,fun | 9=>some ⟨[0,1,5,7],[.slot 8 (.int .i64)]⟩ | 11=>some ⟨[0,1,5],[]⟩ | _=>none⟩ | _=>⟨0,nn,nn⟩
def Vcd (x:Lk) (n:Int) (Q:Bool->Prop):Prop :=
((0:Int)<(↑(ix [x] (0:Int)).Rule.Month.length:Int)->(ix [x] (0:Int)).Rule.Month.length<=1000000)/\((0:Int)<(↑(ix [x] (0:Int)).Rule.Month.length:Int)/\¬w7 (ix [x] (0:Int)).Rule.Month (ofS n).Month=true->Q false)/\(¬((0:Int)<(↑(ix [x] (0:Int)).Rule.Month.length:Int)/\¬w7 (ix [x] (0:Int)).Rule.Month (ofS n).Month=true)->∃ (J:Prop),(((0:Int)<(↑(ix [x] (0:Int)).Rule.WeekNo.length:Int)->∃ (J_1:Int->Prop),((F3 (w8 n (ix [x] (0:Int)).Rule.Wkst).fst (ix [x] (0:Int)).Rule.Wkst=0->J_1 (1:Int))/\(¬F3 (w8 n (ix [x] (0:Int)).Rule.Wkst).fst (ix [x] (0:Int)).Rule.Wkst=0->J_1 (F3 (w8 n (ix [x] (0:Int)).Rule.Wkst).fst (ix [x] (0:Int)).Rule.Wkst)))/\∀ (x_1:Int),J_1 x_1->(ix [x] (0:Int)).Rule.WeekNo.length<=1000000/\(-10000000:Int)<=(w8 n (ix [x] (0:Int)).Rule.Wkst).snd/\(w8 n (ix [x] (0:Int)).Rule.Wkst).snd<=10000000/\(-10000000:Int)<=x_1/\x_1<=10000000/\(¬Re.hasE (ix [x] (0:Int)).Rule.WeekNo (w8 n (ix [x] (0:Int)).Rule.Wkst).snd x_1=true->Q false)/\(¬¬Re.hasE (ix [x] (0:Int)).Rule.WeekNo (w8 n (ix [x] (0:Int)).Rule.Wkst).snd x_1=true->J))/\(¬(0:Int)<(↑(ix [x] (0:Int)).Rule.WeekNo.length:Int)->J))/\(J->(((0:Int)<(↑(ix [x] (0:Int)).Rule.YearDay.length:Int)->(ix [x] (0:Int)).Rule.YearDay.length<=1000000)/\((0:Int)<(↑(ix [x] (0:Int)).Rule.YearDay.length:Int)->(-10000000:Int)<=ydS (Dy.mk (ofS n).Year (ofS n).Month (ofS n).Date))/\((0:Int)<(↑(ix [x] (0:Int)).Rule.YearDay.length:Int)->ydS (Dy.mk (ofS n).Year (ofS n).Month (ofS n).Date)<=10000000)/\((0:Int)<(↑(ix [x] (0:Int)).Rule.YearDay.length:Int)->(-10000000:Int)<=ydS (Dy.mk (ofS n).Year (12:Int) (31:Int)))/\((0:Int)<(↑(ix [x] (0:Int)).Rule.YearDay.length:Int)->ydS (Dy.mk (ofS n).Year (12:Int) (31:Int))<=10000000))/\((0:Int)<(↑(ix [x] (0:Int)).Rule.YearDay.length:Int)/\¬Re.hasE (ix [x] (0:Int)).Rule.YearDay (ydS (Dy.mk (ofS n).Year (ofS n).Month (ofS n).Date)) (ydS (Dy.mk (ofS n).Year (12:Int) (31:Int)))=true->Q false)/\(¬((0:Int)<(↑(ix [x] (0:Int)).Rule.YearDay.length:Int)/\¬Re.hasE (ix [x] (0:Int)).Rule.YearDay (ydS (Dy.mk (ofS n).Year (ofS n).Month (ofS n).Date)) (ydS (Dy.mk (ofS n).Year (12:Int) (31:Int)))=true)->(((0:Int)<(↑(ix [x] (0:Int)).Rule.MonthDay.length:Int)->(ix [x] (0:Int)).Rule.MonthDay.length<=1000000)/\((0:Int)<(↑(ix [x] (0:Int)).Rule.MonthDay.length:Int)->(-10000000:Int)<=(ofS n).Date)/\((0:Int)<(↑(ix [x] (0:Int)).Rule.MonthDay.length:Int)->(ofS n).Date<=10000000)/\((0:Int)<(↑(ix [x] (0:Int)).Rule.MonthDay.length:Int)->(-10000000:Int)<=u9 (ofS n).Year (ofS n).Month)/\((0:Int)<(↑(ix [x] (0:Int)).Rule.MonthDay.length:Int)->u9 (ofS n).Year (ofS n).Month<=10000000))/\((0:Int)<(↑(ix [x] (0:Int)).Rule.MonthDay.length:Int)/\¬Re.hasE (ix [x] (0:Int)).Rule.MonthDay (ofS n).Date (u9 (ofS n).Year (ofS n).Month)=true->Q false)/\(¬((0:Int)<(↑(ix [x] (0:Int)).Rule.MonthDay.length:Int)/\¬Re.hasE (ix [x] (0:Int)).Rule.MonthDay (ofS n).Date (u9 (ofS n).Year (ofS n).Month)=true)->((0:Int)<(↑(ix [x] (0:Int)).Rule.Days.length:Int)->Dy.mk (ofS n).Year (ofS n).Month (ofS n).Date=ofS n/\ydS (Dy.mk (ofS n).Year (12:Int) (31:Int))=ydS (Dy.mk (ofS n).Year (12:Int) (31:Int))/\w4 x.Rule=true/\(1:Int)<=n/\n<=3652059/\A6 x.Rule=true/\Q (decide (wdB x.Rule n=true)))/\(¬(0:Int)<(↑(ix [x] (0:Int)).Rule.Days.length:Int)->b9 ((↑(ix [x] (0:Int)).Rule.YearDay.length:Int)+(↑(ix [x] (0:Int)).Rule.MonthDay.length:Int))/\((0:Int)<(↑(ix [x] (0:Int)).Rule.YearDay.length:Int)+(↑(ix [x] (0:Int)).Rule.MonthDay.length:Int)->Q true)/\(¬(0:Int)<(↑(ix [x] (0:Int)).Rule.YearDay.length:Int)+(↑(ix [x] (0:Int)).Rule.MonthDay.length:Int)->Dy.mk (ofS n).Year (ofS n).Month (ofS n).Date=ofS n/\(0:Int)<=x.Rule.Freq/\Q (decide (decide (O7 x.start x.Rule x.day n)=true))))))))
theorem pcd (x:Lk) (n:Int) (hfw:w4 x.Rule=true) (n0:1<=n) (n1:n<=3652059) (hR:A6 x.Rule=true):Vcd x n (fun y0=>y0=N7 x.start x.Rule x.day n):=by
 unfold Vcd
 have ex:ix [x] 0=x:=rfl
 rw [ex]
 rw [show Dy.mk (ofS n).Year (ofS n).Month (ofS n).Date=ofS n from rfl]
 obtain ⟨wmo,wwn,wyd,wmd,wdy,who,wmi,wse,wsp,wti⟩:=Q8 hfw
 have k1:=d1y n x.Rule.Wkst
 have k2:=c59 (w8 n x.Rule.Wkst).1 x.Rule.Wkst
 have k3:=a8h (ofS n)
 have k4:=a8h ⟨(ofS n).Year,12,31⟩
 have k5:=b0v (ofS n).Year (ofS n).Month
 obtain ⟨_,_,k6⟩:=a92 n
 refine ⟨fun _=>by omega,fun h=>e1b (d6t h),fun hm=>?_⟩
 have hm:=d02 hm
 refine ⟨wkB x.Rule n=true,⟨fun hl=>⟨fun w=>w=O3 (w8 n x.Rule.Wkst).1 x.Rule.Wkst,⟨fun h=>by unfold O3; rw [if_pos h],fun h=>by unfold O3; rw [if_neg h]⟩,?_⟩,fun hl=>a2r fun h=>hl h.1⟩,fun hw=>?_⟩
 . rintro _ rfl
   exact ⟨by omega,by omega,by omega,by omega,by omega,fun h=>d7l (b0s ⟨hl,h⟩),fun h=>a2r fun hh=>h hh.2⟩
 refine ⟨⟨fun _=>by omega,fun _=>by omega,fun _=>by omega,fun _=>by omega,fun _=>by omega⟩,fun h=>d8p (b0s h),fun hy=>?_⟩
 refine ⟨⟨fun _=>by omega,fun _=>by omega,fun _=>by omega,fun _=>by omega,fun _=>by omega⟩,fun h=>e0v (b0s h),fun hd=>?_⟩
 rw [c9f hm hw (a2r hy) (a2r hd)]
 unfold c77
 refine ⟨fun h=>⟨rfl,rfl,hfw,n0,n1,hR,by rw [if_pos h,Bool.decide_eq_true]⟩,fun h=>⟨⟨by omega,by omega⟩,fun h2=>by rw [if_neg h,if_pos (by omega)],fun h2=>⟨rfl,(m8.1 hR).head.1,by rw [if_neg h,if_neg (by omega),Bool.decide_eq_true]⟩⟩⟩
def ccd (a:List (SV U)):Option (Q1 U):=match a with | [.fel 85 [x] 0 0,.int .i64 n]=>some ⟨[w4 x.Rule=true,1<=n,n<=3652059,A6 x.Rule=true],[],blB (N7 x.start x.Rule x.day n)⟩ | _=>none
noncomputable def Ncd:Env:=Ncw.addL 46 ccd
theorem b4w:j7 Ncd:=b7h.addL Tryz.call46 fun (args:List (SV U)) (q:Q1 U) (h:ccd args=some q) ho=>by
 unfold ccd at h
 split at h
 . rename_i x n
   cases h
   exact q8 (an:=d8n 46) b7h (j6 b7h o9 d8n 2) Tryz.func46 (k:=.bool) (x:=N7 x.start x.Rule x.day n) trivial (kc (pcd x n ho.1 ho.2.1 ho.2.2.1 ho.2.2.2.1) (by kernel_rfl)) 0
 . cases h
end Go.Proofs.YtdjfeninmbpflaaGreat
end
