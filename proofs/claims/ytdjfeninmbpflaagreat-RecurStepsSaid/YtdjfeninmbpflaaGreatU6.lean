/- 66 texts, one behind the other. -/
import Derived.Test.YtdjfeninmbpflaaGreatU4
import Derived.Test.YtdjfeninmbpflaaGreatUEr
import Derived.Test.YtdjfeninmbpflaaGreatU1
import Derived.Shelf.Sort.Plain
import Derived.Ground.Names2Prog
import Derived.Shelf.Slices.Clone
import Derived.Shelf.Slices.CompactI
import Derived.Shelf.Slices.Cells
import Derived.Shelf.Slices.In.SortNone
import Derived.Test.YtdjfeninmbpflaaGreatProg
import Derived.Lib.SlicesCompact
set_option linter.unusedVariables false
set_option linter.unusedSimpArgs false
set_option maxRecDepth 100000
section
namespace Go.Proofs.YtdjfeninmbpflaaGreat
open Go Go.Wk Go.Wl Go.Rx Go.Re 
def Gl:U5:=⟨fun _ _=>True,fun _ _ _ _=>trivial⟩
noncomputable def yoF (x:ClX Tryz.prog) (a:List (SV U)):Option (OR U 0):=match a with | [.int .i64 t]=>some ⟨[ClX.pre x t],[],blB (ClX.res x t),ClX.put x t⟩ | _=>none
noncomputable def yoC:OC U:=⟨0,yoF⟩
theorem d5c (x:ClX Tryz.prog) (args:List (SV U)) (r:OR U 0) (hr:yoF x args=some r) (ho:l7 r.ob) (D:Nat->Prop) (Z:Nat->Prop) (w:World) (vs:List Value) (b:Nat) (F:List Nat) (hz:∀ b,Z b->b<w.heap.size) (hF:∀ b∈F,¬ Z b) (hob:(obY Tryz.prog b).is Z w x F) (ha:Rep U eT (fun _=>none) D w (.tuple vs.toArray) (.tup args)) :
  O2 Tryz.prog b vs w (fun v w'=>∃ F',(obY Tryz.prog b).is Z w' r.x F'/\b9c w w' F F'/\Rep U eT (fun _=>none) (fun _=>False) w' v r.r/\l7 r.hy):=by
 unfold yoF at hr
 split at hr
 . rename_i t
   cases hr
   obtain ⟨v1,vr,rfl,h1,ha⟩:=Rep.tup_cons ha
   obtain rfl:=d6k ha
   cases h1 with | int hi =>
   exact (x.1.step Z w b F x.2 t hz hF hob ho.1 (hi rfl)).mono fun v w' ⟨e,F',h1,h2⟩=>⟨F',h1,h2,by subst e; exact ClX.bl,trivial⟩
 . cases hr
noncomputable def E0:Env:=⟨Tryz.prog,U,eT,tyU,fun _=>none,fun _=>none,fun _=>false,fun _=>none,fun _=>none,Gl,fun _=>none,fun t=>Nat.beq t 101,fun _=>none,fun _=>none,some yoC⟩
theorem e2p:k8 E0:=by
 refine ⟨by kernel_rfl,fun t k x h=>?_,fun K h=>?_,fun K fn h=>?_,fun K f args nx c h=>?_,fun K f args nx c h=>?_,fun K o x args r h=>?_,fun K o a x r h=>?_,fun K h=>?_,fun K o args its r h=>?_,fun K h=>?_,fun K C args its q h=>?_,fun o x args r h hr ho=>?_⟩ <;> first | (cases h; done) | skip
 cases h
 exact fun Z D w vs b F hz _ hF hob _ ha=>d5c x args r hr ho D Z w vs b F hz (fun b hb=>(hF b hb).1) hob ha
theorem U7 {ρ:n8} {Z:Nat->Prop} {w:World} {cs:List Value} (h:Rep U eT ρ Z w (.tuple cs.toArray) (.tup [])):cs=[]:=by
 generalize e:Value.tuple cs.toArray=u at h
 cases h with | tup0=>simpa using e
theorem b6r {w w1 w2:World} {B:List Nat} (hs:Sim w w1) (h:Ext B w1 w2):Ext B w w2:=by
 obtain ⟨k,rfl⟩:=hs
 exact ⟨h.os,h.tape,h.output,h.size,h.block⟩
theorem c4t {K:Nat} {args:List (SV U)} {q:Q1 U} (h:∀ (D:Nat->Prop) (w:World) (vs:List Value),Rep U eT (fun _=>none) D w (.tuple vs.toArray) (.tup args)->∃ v,(∀ w',Rep U eT (fun _=>none) (fun _=>False) w' v q.v)/\l7 q.hy/\∀ w1,Sim w w1->Calls Tryz.prog K vs.toArray w1 fun e w'=>e=.returned v/\Ext [] w1 w'):l4 E0 K args ⟨q.ob,q.hy,q.v,[]⟩ :=
 fun D w vs _ _ ha w1 hs=>by
  obtain ⟨v,hr,hy,hc⟩:=h D w vs ha
  exact (hc w1 hs).mono fun e w2 ⟨h1,h2⟩=>⟨v,w2,h1,Sim.refl _,b6r hs h2,hr w2,hy⟩
theorem b5q (w:World) (o:Obj) (k:Nat) (hk:k<w.heap.size):(w.alloc o).heap[k]?=w.heap[k]? := by
 show (w.heap.push o)[k]?=_
 rw [Array.getElem?_push,if_neg (by omega)]
theorem b8l {w:World} {B:List Nat} (o:Obj):Ext B w (w.alloc o):=⟨rfl,rfl,rfl,(by show w.heap.size<=(w.heap.push o).size; rw [Array.size_push]; omega),fun k hk _=>b5q w o k hk⟩
def CvL (ρ:n8) (Z:Nat->Prop) (w:World):List (SV U)->List (SV U)->Prop
 | [],[]=>True
 | s::r,s'::r'=>(∀ v,Rep U eT ρ Z w v s->Rep U eT ρ Z w v s')/\CvL ρ Z w r r'
 | _,_=>False
theorem w5 {ρ:n8} {Z:Nat->Prop} {w:World}:∀ (a b:List (SV U)) (v:Value),CvL ρ Z w a b->Rep U eT ρ Z w v (.tup a)->Rep U eT ρ Z w v (.tup b)
 | [],[],_,_,h=>h
 | [],_::_,_,hc,_=>hc.elim
 | _::_,[],_,hc,_=>hc.elim
 | s::r,s'::r',v,hc,h=>by
  generalize e:SV.tup (s::r)=q at h
  cases h with
  | tup1 ha hr=>cases e; exact .tup1 (hc.1 _ ha) (w5 r r' _ hc.2 hr)
  | _=>cases e
theorem v6 {ρ:n8} {Z:Nat->Prop} {w:World} {v:Value} {ls:List (SV U)} {x:Tm} (e:y25.bk (.agg ls)=some x) (h:Rep U eT ρ Z w v (.agg ls)):Rep U eT ρ Z w v (.agg [.int .i64 x.Day.Year,.int .i64 x.Day.Month,.int .i64 x.Day.Date,.int .i64 x.Hour,.int .i64 x.Min,.int .i64 x.Sec,blB x.Bare,blB x.UTC]):=by
 obtain ⟨cs,rfl,hl⟩:=h.agg_inv
 exact y25.sv_ok (y25.bk_ok (s:=.agg ls) hl e)
theorem A5 {ρ:n8} {Z:Nat->Prop} {w:World} {v:Value} {ls:List (SV U)} {x:Rl} (e:y30.bk (.agg ls)=some x) (h:Rep U eT ρ Z w v (.agg ls)):Rep U eT ρ Z w v (.agg [.int .i64 x.Freq,.int .i64 x.Interval,.int .i64 x.Count,.sl (N:=U) 25 x.Until,.sl (N:=U) 3 x.Month,.sl (N:=U) 3 x.WeekNo,.sl (N:=U) 3 x.YearDay,.sl (N:=U) 3 x.MonthDay,.sl (N:=U) 60 x.Days,.sl (N:=U) 3 x.Hour,.sl (N:=U) 3 x.Minute,.sl (N:=U) 3 x.Second,.sl (N:=U) 3 x.SetPos,.int .i64 x.Wkst]):=by
 obtain ⟨cs,rfl,hl⟩:=h.agg_inv
 exact y30.sv_ok (y30.bk_ok (s:=.agg ls) hl e)
def cIs (a:List (SV U)):Option (Q1 U):=match a with | [.err e,.err (.no n)]=>some ⟨[],[],.bl (e.is n) inferInstance⟩ | _=>none
theorem d7q (args:List (SV U)) (q:Q1 U) (h:cIs args=some q) (_:l7 q.ob):l4 E0 38 args ⟨q.ob,q.hy,q.v,[]⟩:=by
 unfold cIs at h
 split at h
 . rename_i e n
   cases h
   refine c4t fun D w vs ha=>⟨.bool (decide (e.is n)),fun _=>.bl,trivial,fun w1 hs=>?_⟩
   have same:∀ {b:Bool},(Calls Tryz.prog 38 vs.toArray w1 fun e w'=>e=.returned (.bool b)/\w'=w1)->Calls Tryz.prog 38 vs.toArray w1 fun e w'=>e=.returned (.bool b)/\Ext [] w1 w':=fun h=>h.mono fun _ _ ⟨a,b⟩=>⟨a,by subst b; exact Ext.refl _ _⟩
   obtain ⟨v1,r1,rfl,h1,ha⟩:=Rep.tup_cons ha
   obtain ⟨v2,r2,rfl,h2,ha⟩:=Rep.tup_cons ha
   obtain rfl:=U7 ha
   cases h1 with | err h1 =>
   cases h2 with | err h2 =>
   cases h2 with | no hn =>
   cases h1 with
   | nil =>
    have e:decide (Err.is .nil n)=false:=decide_eq_false (by simp [Err.is,Err.num])
    rw [e]; exact same (e1s n w1)
   | @no a ha' =>
    have e:decide (Err.is (.no a) n)=decide (a=n):=decide_eq_decide.2 (by simp [Err.is,Err.num])
    rw [e]; exact same (c1l a n w1)
   | @fault b a m hz ho ha' hm h0=>exact absurd rfl h0
   | @w t k s m ht hm hk =>
    obtain ⟨rfl,rfl⟩:=d9h ht
    have e:decide (Err.is (.w 87 s (.no m)) n)=decide (m=n):=decide_eq_decide.2 (by simp [Err.is,Err.num])
    rw [e]; exact (d3f (sv s) m n w1).mono fun _ _ ⟨a,o,b⟩=>⟨a,by subst b; exact b8l _⟩
   | @p t S b s m ht hz ho hm=>exact absurd ht (by unfold eT; simp)
 . cases h
noncomputable def N0:Env:=E0.addL 38 cIs
theorem c6k:k8 N0:=e2p.addL Tryz.call38 d7q
def H0:Nat->Option (GD U):=noH
theorem p8:∀ K o args its S,H0 K=some o->o.C args its=some S->N7 Tryz.prog U eT Gl K args its (2 * its.length) S:=d4y
end Go.Proofs.YtdjfeninmbpflaaGreat
end
section
namespace Go.Proofs.YtdjfeninmbpflaaGreat
open Go Go.Wk Go.Wl Go.Rx Go.Re 
attribute [local irreducible] i6
def c1e:Nat->Ann:=fun | 83=>⟨42,fun _=>none,fun _=>none⟩ | _=>⟨0,fun _=>none,fun _=>none⟩
def Vgl (y:Int) (m:Int) (Q:Int->Prop):Prop :=
(y<1 ∨ (9999:Int)<y->Q (0:Int))/\(¬(y<1 ∨ (9999:Int)<y)->(m=2->(4:Int)≠0/\(y.tmod (4:Int)=0->(100:Int)≠0)/\(y.tmod (4:Int)=0/\¬y.tmod (100:Int)≠0->(400:Int)≠0)/\(y.tmod (4:Int)=0/\(y.tmod (100:Int)≠0 ∨ y.tmod (400:Int)=0)->Q (29:Int))/\(¬(y.tmod (4:Int)=0/\(y.tmod (100:Int)≠0 ∨ y.tmod (400:Int)=0))->Q (28:Int)))/\(¬m=2->(m=1->(m=1->Q (31:Int))/\(¬m=1->(m=4->Q (30:Int))/\(¬m=4->(m=6->Q (30:Int))/\(¬m=6->(m=9->(m=9->Q (30:Int))/\(¬m=9->Q (0:Int)))/\(¬m=9->(m=11->Q (30:Int))/\(¬m=11->Q (0:Int)))))))/\(¬m=1->(m=3->(m=3->Q (31:Int))/\(¬m=3->(m=4->Q (30:Int))/\(¬m=4->(m=6->Q (30:Int))/\(¬m=6->(m=9->(m=9->Q (30:Int))/\(¬m=9->Q (0:Int)))/\(¬m=9->(m=11->Q (30:Int))/\(¬m=11->Q (0:Int)))))))/\(¬m=3->(m=5->(m=5->Q (31:Int))/\(¬m=5->(m=4->Q (30:Int))/\(¬m=4->(m=6->Q (30:Int))/\(¬m=6->(m=9->(m=9->Q (30:Int))/\(¬m=9->Q (0:Int)))/\(¬m=9->(m=11->Q (30:Int))/\(¬m=11->Q (0:Int)))))))/\(¬m=5->(m=7->(m=7->Q (31:Int))/\(¬m=7->(m=4->Q (30:Int))/\(¬m=4->(m=6->Q (30:Int))/\(¬m=6->(m=9->(m=9->Q (30:Int))/\(¬m=9->Q (0:Int)))/\(¬m=9->(m=11->Q (30:Int))/\(¬m=11->Q (0:Int)))))))/\(¬m=7->(m=8->(m=8->Q (31:Int))/\(¬m=8->(m=4->Q (30:Int))/\(¬m=4->(m=6->Q (30:Int))/\(¬m=6->(m=9->(m=9->Q (30:Int))/\(¬m=9->Q (0:Int)))/\(¬m=9->(m=11->Q (30:Int))/\(¬m=11->Q (0:Int)))))))/\(¬m=8->(m=10->(m=10->Q (31:Int))/\(¬m=10->(m=4->Q (30:Int))/\(¬m=4->(m=6->Q (30:Int))/\(¬m=6->(m=9->(m=9->Q (30:Int))/\(¬m=9->Q (0:Int)))/\(¬m=9->(m=11->Q (30:Int))/\(¬m=11->Q (0:Int)))))))/\(¬m=10->(m=12->Q (31:Int))/\(¬m=12->(m=4->Q (30:Int))/\(¬m=4->(m=6->Q (30:Int))/\(¬m=6->(m=9->(m=9->Q (30:Int))/\(¬m=9->Q (0:Int)))/\(¬m=9->(m=11->Q (30:Int))/\(¬m=11->Q (0:Int))))))))))))))
theorem e1n {y:Int} {m:Int} {Q:Int->Prop}:@Eq Prop (Vgl y m Q) (i6 (E:=N0) (j7 N0 H0 c1e 2) (c1e 83) Tryz.f83 [.int .i64 y,.int .i64 m] [] [] 0 (m9 N0 [.int .i64] Q)):=by kernel_rfl
theorem d3s {y:Int} {m:Int} {Q:Int->Prop} (h:Vgl y m Q):i6 (E:=N0) (j7 N0 H0 c1e 2) (c1e 83) Tryz.f83 [.int .i64 y,.int .i64 m] [] [] 0 (m9 N0 [.int .i64] Q):=by rw [<- e1n]; exact h
set_option maxHeartbeats 2000000 in
theorem pgl (y:Int) (m:Int)  : Vgl y m (fun y0=>y0=s9 y m):=by
 unfold Vgl
 refine ⟨fun h=>by unfold s9; rw [if_pos h],fun h=>?_⟩
 have e4:y.tmod 4=y % 4:=Int.tmod_eq_emod_of_nonneg (by omega)
 have e100:y.tmod 100=y % 100:=Int.tmod_eq_emod_of_nonneg (by omega)
 have e400:y.tmod 400=y % 400:=Int.tmod_eq_emod_of_nonneg (by omega)
 rw [e4,e100,e400]
 repeat' (first | intro _ | apply And.intro)
 all_goals (first | omega | (unfold s9; (repeat' split) <;> omega))
def cgl (a:List (SV U)):Option (Q1 U):=match a with | [.int .i64 y,.int .i64 m]=>some ⟨[],[],.int .i64 (s9 y m)⟩ | _=>none
theorem e0v (args:List (SV U)) (q:Q1 U) (h:cgl args=some q) (ho:l7 q.ob):l4 N0 83 args ⟨q.ob,q.hy,q.v,[]⟩:=by
 unfold cgl at h
 split at h
 . rename_i y m
   cases h
   exact q8 c6k (j8 c6k p8 c1e 2) Tryz.func83 (k:=.int .i64) (x:=s9 y m) trivial (d3s (pgl y m )) 0
 . cases h
noncomputable def Ngl:Env:=N0.addL 83 cgl
theorem b5s:k8 Ngl:=c6k.addL Tryz.call83 e0v
end Go.Proofs.YtdjfeninmbpflaaGreat
end
section
namespace Go.Proofs.YtdjfeninmbpflaaGreat
open Go Go.Wk Go.Wl Go.Rx Go.Re 
attribute [local irreducible] i6
def c52:Nat->Ann:=fun | 110=>⟨16,fun _=>none,fun _=>none⟩ | _=>⟨0,fun _=>none,fun _=>none⟩
def Vgf (a:Int) (b:Int) (Q:Int->Prop):Prop :=
b≠0/\b9 (a.tdiv b)/\b≠0/\(a.tmod b<0->b9 (a.tdiv b-1)/\Q (a.tdiv b-1))/\(¬a.tmod b<0->Q (a.tdiv b))
theorem d6i {a:Int} {b:Int} {Q:Int->Prop}:@Eq Prop (Vgf a b Q) (i6 (E:=Ngl) (j7 Ngl H0 c52 2) (c52 110) Tryz.f110 [.int .i64 a,.int .i64 b] [] [] 0 (m9 Ngl [.int .i64] Q)):=by kernel_rfl
theorem d7s {a:Int} {b:Int} {Q:Int->Prop} (h:Vgf a b Q):i6 (E:=Ngl) (j7 Ngl H0 c52 2) (c52 110) Tryz.f110 [.int .i64 a,.int .i64 b] [] [] 0 (m9 Ngl [.int .i64] Q):=by rw [<- d6i]; exact h
theorem b92 (a:Int) {b:Int} (h:0<b):a.tdiv b=a / b+(if a.tmod b<0 then 1 else 0)/\True:=by
 refine ⟨?_,trivial⟩
 have h1:=Int.tdiv_mul_add_tmod a b
 have h2:=Int.ediv_mul_add_emod a b
 have h3:=Int.emod_nonneg a (show b≠0 by omega)
 have h4:=Int.emod_lt_of_pos a h
 have h5:a.tmod b<b:=Int.tmod_lt_of_pos a h
 have h6:-b<a.tmod b:=Int.lt_tmod_of_pos a h
 by_cases hc:a.tmod b<0
 . rw [if_pos hc]
   have e:(a.tdiv b-a / b) * b=a % b-a.tmod b:=by rw [Int.sub_mul]; omega
   have g1:0<(a.tdiv b-a / b) * b:=by omega
   have g2:(a.tdiv b-a / b) * b<2 * b:=by omega
   have g3:0<a.tdiv b-a / b:=Int.pos_of_mul_pos_left g1 (by omega)
   have g4:a.tdiv b-a / b<2:=Int.lt_of_mul_lt_mul_right g2 (by omega)
   omega
 . rw [if_neg hc]
   have e:(a.tdiv b-a / b) * b=a % b-a.tmod b:=by rw [Int.sub_mul]; omega
   have g1:-b<(a.tdiv b-a / b) * b:=by omega
   have g2:(a.tdiv b-a / b) * b<b:=by omega
   have g3:-1<a.tdiv b-a / b:=Int.lt_of_mul_lt_mul_right (a:=b) (by omega) (by omega)
   have g4:a.tdiv b-a / b<1:=Int.lt_of_mul_lt_mul_right (a:=b) (by omega) (by omega)
   omega
theorem pgf (a:Int) (b:Int) (h0:0<b) (h1:b<=100000) (h2:b9 (a / b)) (h3:b9 (a / b+1)):Vgf a b (fun y0=>y0=a / b):=by
 unfold Vgf
 obtain ⟨q0,q1⟩:=b92 a h0
 have i1:b9 (a.tdiv b):=by
  rw [q0]; split
  . exact h3
  . rw [Int.add_zero]; exact h2
 refine ⟨by omega,i1,by omega,fun h=>?_,fun h=>?_⟩
 . have e:a.tdiv b-1=a / b:=by rw [q0,if_pos h]; omega
   rw [e]; exact ⟨h2,rfl⟩
 . rw [q0,if_neg h]; omega
def cgf (a:List (SV U)):Option (Q1 U):=match a with | [.int .i64 a,.int .i64 b]=>some ⟨[0<b,b<=100000,b9 (a / b),b9 (a / b+1)],[],.int .i64 (a / b)⟩ | _=>none
theorem d6q (args:List (SV U)) (q:Q1 U) (h:cgf args=some q) (ho:l7 q.ob):l4 Ngl 110 args ⟨q.ob,q.hy,q.v,[]⟩:=by
 unfold cgf at h
 split at h
 . rename_i a b
   cases h
   exact q8 b5s (j8 b5s p8 c52 2) Tryz.func110 (k:=.int .i64) (x:=a / b) trivial (d7s (pgf a b ho.1 ho.2.1 ho.2.2.1 ho.2.2.2.1)) 0
 . cases h
noncomputable def Ngf:Env:=Ngl.addL 110 cgf
theorem b3z:k8 Ngf:=b5s.addL Tryz.call110 d6q
end Go.Proofs.YtdjfeninmbpflaaGreat
end
section
namespace Go.Proofs.YtdjfeninmbpflaaGreat
open Go Go.Wk Go.Wl Go.Rx Go.Re 
attribute [local irreducible] i6
def c3q:Nat->Ann:=fun | 107=>⟨9,fun _=>none,fun _=>none⟩ | _=>⟨0,fun _=>none,fun _=>none⟩
def Vgw (n:Int) (Q:Int->Prop):Prop :=
(7:Int)≠0/\b9 (n.tmod (7:Int)+7)/\(7:Int)≠0/\b9 ((n.tmod (7:Int)+7).tmod (7:Int)+6)/\(7:Int)≠0/\Q (((n.tmod (7:Int)+7).tmod (7:Int)+6).tmod (7:Int))
theorem d7a {n:Int} {Q:Int->Prop}:@Eq Prop (Vgw n Q) (i6 (E:=Ngf) (j7 Ngf H0 c3q 2) (c3q 107) Tryz.f107 [.int .i64 n] [] [] 0 (m9 Ngf [.int .i64] Q)):=by kernel_rfl
theorem d3k {n:Int} {Q:Int->Prop} (h:Vgw n Q):i6 (E:=Ngf) (j7 Ngf H0 c3q 2) (c3q 107) Tryz.f107 [.int .i64 n] [] [] 0 (m9 Ngf [.int .i64] Q):=by rw [<- d7a]; exact h
theorem pgw (n:Int)  : Vgw n (fun y0=>y0=wdS n):=by
 unfold Vgw wdS
 have h1:n.tmod 7=n % 7 ∨ n.tmod 7=n % 7-7/\n % 7≠0:=by
  have h1:=Int.tdiv_mul_add_tmod n 7
  have h5:n.tmod 7<7:=Int.tmod_lt_of_pos n (by decide)
  have h6:-7<n.tmod 7:=Int.lt_tmod_of_pos n (by decide)
  omega
 have e1:(n.tmod 7+7).tmod 7=(n.tmod 7+7) % 7:=Int.tmod_eq_emod_of_nonneg (by omega)
 have e2:((n.tmod 7+7).tmod 7+6).tmod 7=((n.tmod 7+7).tmod 7+6) % 7:=Int.tmod_eq_emod_of_nonneg (by omega)
 rw [e2,e1]
 exact ⟨by decide,⟨by omega,by omega⟩,by decide,⟨by omega,by omega⟩,by decide,by omega⟩
def cgw (a:List (SV U)):Option (Q1 U):=match a with | [.int .i64 n]=>some ⟨[],[],.int .i64 (wdS n)⟩ | _=>none
theorem d6g (args:List (SV U)) (q:Q1 U) (h:cgw args=some q) (ho:l7 q.ob):l4 Ngf 107 args ⟨q.ob,q.hy,q.v,[]⟩:=by
 unfold cgw at h
 split at h
 . rename_i n
   cases h
   exact q8 b3z (j8 b3z p8 c3q 2) Tryz.func107 (k:=.int .i64) (x:=wdS n) trivial (d3k (pgw n )) 0
 . cases h
noncomputable def Ngw:Env:=Ngf.addL 107 cgw
theorem b3q:k8 Ngw:=b3z.addL Tryz.call107 d6g
end Go.Proofs.YtdjfeninmbpflaaGreat
end
section
namespace Go.Proofs.YtdjfeninmbpflaaGreat
open Go Go.Wk Go.Wl Go.Rx Go.Re 
attribute [local irreducible] i6
def c1b:Nat->Ann:=fun | 59=>⟨74,fun _=>none,fun | 8=>some ⟨[2],[.slot 0 (.int .i64),.slot 3 (.int .i64),.slot 4 (.int .i64)]⟩ | 12=>some ⟨[2],[.slot 0 (.int .i64),.slot 3 (.int .i64),.slot 4 (.int .i64),.slot 5 (.int .i64),.slot 6 (.int .i64)]⟩ | 14=>some ⟨[2],[.slot 0 (.int .i64),.slot 7 (.int .i64),.slot 8 (.int .i64)]⟩ | _=>none⟩ | _=>⟨0,fun _=>none,fun _=>none⟩
def Vgo (n:Int) (Q:Dy->Prop):Prop :=
(n<1 ∨ (3652059:Int)<n->Q (Dy.mk (0:Int) (0:Int) (0:Int)))/\(¬(n<1 ∨ (3652059:Int)<n)->b9 (n+305)/\(146097:Int)≠0/\b9 ((n+305).tdiv (146097:Int))/\(146097:Int)≠0/\(36524:Int)≠0/\b9 (((n+305).tmod (146097:Int)).tdiv (36524:Int))/\∃ (J:Int->Int->Int->Prop),(b9 ((bif false then max (((n+305).tmod (146097:Int)).tdiv (36524:Int)) (3:Int) else min (((n+305).tmod (146097:Int)).tdiv (36524:Int)) (3:Int)) * 36524)/\b9 ((n+305).tmod (146097:Int)-(bif false then max (((n+305).tmod (146097:Int)).tdiv (36524:Int)) (3:Int) else min (((n+305).tmod (146097:Int)).tdiv (36524:Int)) (3:Int)) * 36524)/\J ((n+305).tmod (146097:Int)-(bif false then max (((n+305).tmod (146097:Int)).tdiv (36524:Int)) (3:Int) else min (((n+305).tmod (146097:Int)).tdiv (36524:Int)) (3:Int)) * 36524) ((n+305).tdiv (146097:Int)) (bif false then max (((n+305).tmod (146097:Int)).tdiv (36524:Int)) (3:Int) else min (((n+305).tmod (146097:Int)).tdiv (36524:Int)) (3:Int)))/\∀ (x x_1 x_2:Int),J x x_1 x_2->(1461:Int)≠0/\b9 (x.tdiv (1461:Int))/\(1461:Int)≠0/\(365:Int)≠0/\b9 ((x.tmod (1461:Int)).tdiv (365:Int))/\∃ (J:Int->Int->Int->Int->Int->Prop),(b9 ((bif false then max ((x.tmod (1461:Int)).tdiv (365:Int)) (3:Int) else min ((x.tmod (1461:Int)).tdiv (365:Int)) (3:Int)) * 365)/\b9 (x.tmod (1461:Int)-(bif false then max ((x.tmod (1461:Int)).tdiv (365:Int)) (3:Int) else min ((x.tmod (1461:Int)).tdiv (365:Int)) (3:Int)) * 365)/\J (x.tmod (1461:Int)-(bif false then max ((x.tmod (1461:Int)).tdiv (365:Int)) (3:Int) else min ((x.tmod (1461:Int)).tdiv (365:Int)) (3:Int)) * 365) x_1 x_2 (x.tdiv (1461:Int)) (bif false then max ((x.tmod (1461:Int)).tdiv (365:Int)) (3:Int) else min ((x.tmod (1461:Int)).tdiv (365:Int)) (3:Int)))/\∀ (x x_3 x_4 x_5 x_6:Int),J x x_3 x_4 x_5 x_6->b9 ((400:Int) * x_3)/\b9 ((100:Int) * x_4)/\b9 ((400:Int) * x_3+100 * x_4)/\b9 ((4:Int) * x_5)/\b9 ((400:Int) * x_3+100 * x_4+4 * x_5)/\b9 ((400:Int) * x_3+100 * x_4+4 * x_5+x_6)/\∃ (J:Int->Int->Int->Prop),(b9 ((5:Int) * x)/\b9 ((5:Int) * x+2)/\(153:Int)≠0/\b9 (((5:Int) * x+2).tdiv (153:Int))/\J x ((400:Int) * x_3+100 * x_4+4 * x_5+x_6) (((5:Int) * x+2).tdiv (153:Int)))/\∀ (x x_7 x_8:Int),J x x_7 x_8->b9 ((153:Int) * x_8)/\b9 ((153:Int) * x_8+2)/\(5:Int)≠0/\b9 (((153:Int) * x_8+2).tdiv (5:Int))/\b9 (x-((153:Int) * x_8+2).tdiv (5:Int))/\b9 (x-((153:Int) * x_8+2).tdiv (5:Int)+1)/\b9 (x_8+3)/\((12:Int)<x_8+3->b9 (x_8+3-12)/\b9 (x_7+1)/\Q (Dy.mk (x_7+1) (x_8+3-12) (x-((153:Int) * x_8+2).tdiv (5:Int)+1)))/\(¬(12:Int)<x_8+3->Q (Dy.mk x_7 (x_8+3) (x-((153:Int) * x_8+2).tdiv (5:Int)+1))))
theorem d9r {n:Int} {Q:Dy->Prop}:@Eq Prop (Vgo n Q) (i6 (E:=Ngw) (j7 Ngw H0 c1b 2) (c1b 59) Tryz.f59 [.int .i64 n] [] [] 0 (m9 Ngw [.val 23] Q)):=by kernel_rfl
theorem e19 {n:Int} {Q:Dy->Prop} (h:Vgo n Q):i6 (E:=Ngw) (j7 Ngw H0 c1b 2) (c1b 59) Tryz.f59 [.int .i64 n] [] [] 0 (m9 Ngw [.val 23] Q):=by rw [<- d9r]; exact h
set_option maxHeartbeats 2000000 in
theorem pgo (n:Int)  : Vgo n (fun y0=>y0=ofS n):=by
 unfold Vgo
 have b0:∀ a b:Int,(bif false then max a b else min a b)=min a b:=fun _ _=>rfl
 refine ⟨fun h=>by unfold ofS; rw [if_pos h],fun h=>?_⟩
 have eo:ofS n=ofN (n+305):=by unfold ofS; rw [if_neg h]
 rw [eo]
 obtain ⟨⟨r1,r2⟩,⟨r3,r4⟩,⟨r5,r6⟩,⟨r7,r8⟩,r9,r10⟩:=e3n (n+305)
 have hN:0<=n+305/\n+305<=3652364:=by omega
 generalize n+305=N at *
 have t1:N.tdiv 146097=N / 146097:=Int.tdiv_eq_ediv_of_nonneg (by omega)
 have t2:N.tmod 146097=N % 146097:=Int.tmod_eq_emod_of_nonneg (by omega)
 have t3:(N % 146097).tdiv 36524=N % 146097 / 36524:=Int.tdiv_eq_ediv_of_nonneg (by omega)
 have t4:(o2 N).tdiv 1461=o2 N / 1461:=Int.tdiv_eq_ediv_of_nonneg (by omega)
 have t5:(o2 N).tmod 1461=o2 N % 1461:=Int.tmod_eq_emod_of_nonneg (by omega)
 have t6:(o2 N % 1461).tdiv 365=o2 N % 1461 / 365:=Int.tdiv_eq_ediv_of_nonneg (by omega)
 have t7:(5 * o4 N+2).tdiv 153=(5 * o4 N+2) / 153:=Int.tdiv_eq_ediv_of_nonneg (by omega)
 have t8:(153 * om N+2).tdiv 5=(153 * om N+2) / 5:=Int.tdiv_eq_ediv_of_nonneg (by omega)
 rw [t1,t2,t3,b0]
 refine ⟨⟨by omega,by omega⟩,by decide,⟨by omega,by omega⟩,by decide,by decide,⟨by omega,by omega⟩,fun a b c=>a=o2 N/\b=N / 146097/\c=oh N,⟨⟨by omega,by omega⟩,⟨by omega,by omega⟩,rfl,rfl,rfl⟩,?_⟩
 rintro _ _ _ ⟨rfl,rfl,rfl⟩
 rw [t4,t5,t6,b0]
 refine ⟨by decide,⟨by omega,by omega⟩,by decide,by decide,⟨by omega,by omega⟩,fun a b c d e=>a=o4 N/\b=N / 146097/\c=oh N/\d=o2 N / 1461/\e=oo N,⟨⟨by omega,by omega⟩,⟨by omega,by omega⟩,rfl,rfl,rfl,rfl,rfl⟩,?_⟩
 rintro _ _ _ _ _ ⟨rfl,rfl,rfl,rfl,rfl⟩
 rw [t7]
 refine ⟨⟨by omega,by omega⟩,⟨by omega,by omega⟩,⟨by omega,by omega⟩,⟨by omega,by omega⟩,⟨by omega,by omega⟩,⟨by omega,by omega⟩,fun a b c=>a=o4 N/\b=oy N/\c=om N,⟨⟨by omega,by omega⟩,⟨by omega,by omega⟩,by decide,⟨by omega,by omega⟩,rfl,rfl,rfl⟩,?_⟩
 rintro _ _ _ ⟨rfl,rfl,rfl⟩
 have hy:0<=oy N/\oy N<=20000:=by unfold oy; omega
 rw [t8]
 refine ⟨⟨by omega,by omega⟩,⟨by omega,by omega⟩,by decide,⟨by omega,by omega⟩,⟨by omega,by omega⟩,⟨by omega,by omega⟩,⟨by omega,by omega⟩,fun h=>⟨⟨by omega,by omega⟩,⟨by omega,by omega⟩,?_⟩,fun h=>?_⟩
 . unfold ofN; rw [if_pos h]
 . unfold ofN; rw [if_neg h]
def cgo (a:List (SV U)):Option (Q1 U):=match a with | [.int .i64 n]=>some ⟨[],[],.agg [.int .i64 (ofS n).Year,.int .i64 (ofS n).Month,.int .i64 (ofS n).Date]⟩ | _=>none
theorem d1m (args:List (SV U)) (q:Q1 U) (h:cgo args=some q) (ho:l7 q.ob):l4 Ngw 59 args ⟨q.ob,q.hy,q.v,[]⟩:=by
 unfold cgo at h
 split at h
 . rename_i n
   cases h
   exact q8 b3q (j8 b3q p8 c1b 2) Tryz.func59 (k:=.val 23) (x:=ofS n) ⟨_,_,rfl,rfl,rfl⟩ (e19 (pgo n )) 0
 . cases h
noncomputable def Ngo:Env:=Ngw.addL 59 cgo
theorem b42:k8 Ngo:=b3q.addL Tryz.call59 d1m
end Go.Proofs.YtdjfeninmbpflaaGreat
end
section
namespace Go.Proofs.YtdjfeninmbpflaaGreat
open Go Go.Wk Go.Wl Go.Rx Go.Re 
attribute [local irreducible] i6
def c2i:Nat->Ann:=fun | 54=>⟨16,fun _=>none,fun _=>none⟩ | _=>⟨0,fun _=>none,fun _=>none⟩
def Vgr (d:Dy) (Q:Bool->Prop):Prop :=
Q (decide ((1:Int)<=d.Date/\d.Date<=s9 d.Year d.Month))
theorem d9m {d:Dy} {Q:Bool->Prop}:@Eq Prop (Vgr d Q) (i6 (E:=Ngo) (j7 Ngo H0 c2i 2) (c2i 54) Tryz.f54 [.agg [.int .i64 d.Year,.int .i64 d.Month,.int .i64 d.Date]] [] [] 0 (m9 Ngo [.bool] Q)):=by kernel_rfl
theorem e0w {d:Dy} {Q:Bool->Prop} (h:Vgr d Q):i6 (E:=Ngo) (j7 Ngo H0 c2i 2) (c2i 54) Tryz.f54 [.agg [.int .i64 d.Year,.int .i64 d.Month,.int .i64 d.Date]] [] [] 0 (m9 Ngo [.bool] Q):=by rw [<- d9m]; exact h
theorem pgr (d:Dy)  : Vgr d (fun y0=>y0=D1 d):=by
 unfold Vgr
 rfl
def e3r (d:Dy):Q1 U:=⟨[],[],blB (D1 d)⟩
def cgr (a:List (SV U)):Option (Q1 U):=match a with | [.agg [.int .i64 d0,.int .i64 d1,.int .i64 d2]]=>some (e3r (⟨d0,d1,d2⟩)) | _=>none
theorem e00 (args:List (SV U)) (q:Q1 U) (h:cgr args=some q) (ho:l7 q.ob):l4 Ngo 54 args ⟨q.ob,q.hy,q.v,[]⟩:=by
 unfold cgr at h
 split at h
 . rename_i d0 d1 d2
   cases h
   exact q8 b42 (j8 b42 p8 c2i 2) Tryz.func54 (k:=.bool) (x:=D1 (⟨d0,d1,d2⟩:Dy)) trivial (e0w (pgr (⟨d0,d1,d2⟩) )) 0
 . cases h
noncomputable def Ngr:Env:=Ngo.addL 54 cgr
theorem b3o:k8 Ngr:=b42.addL Tryz.call54 e00
end Go.Proofs.YtdjfeninmbpflaaGreat
end
section
namespace Go.Proofs.YtdjfeninmbpflaaGreat
open Go Go.Wk Go.Wl Go.Rx Go.Re 
attribute [local irreducible] i6
def c46:Nat->Ann:=fun | 94=>⟨33,fun _=>none,fun _=>none⟩ | _=>⟨0,fun _=>none,fun _=>none⟩
def Vgc (y:Int) (m:Int) (d:Int) (Q:Int->Prop):Prop :=
(m<3->b9 (y-1)/\b9 (m+12)/\b9 ((365:Int) * (y-1))/\(0:Int)<4/\(4:Int)<=100000/\b9 ((y-1) / (4:Int))/\b9 ((y-1) / (4:Int)+1)/\b9 ((365:Int) * (y-1)+(y-1) / (4:Int))/\(0:Int)<100/\(100:Int)<=100000/\b9 ((y-1) / (100:Int))/\b9 ((y-1) / (100:Int)+1)/\b9 ((365:Int) * (y-1)+(y-1) / (4:Int)-(y-1) / (100:Int))/\(0:Int)<400/\(400:Int)<=100000/\b9 ((y-1) / (400:Int))/\b9 ((y-1) / (400:Int)+1)/\b9 ((365:Int) * (y-1)+(y-1) / (4:Int)-(y-1) / (100:Int)+(y-1) / (400:Int))/\b9 (m+12-3)/\b9 ((153:Int) * (m+12-3))/\b9 ((153:Int) * (m+12-3)+2)/\(5:Int)≠0/\b9 (((153:Int) * (m+12-3)+2).tdiv (5:Int))/\b9 ((365:Int) * (y-1)+(y-1) / (4:Int)-(y-1) / (100:Int)+(y-1) / (400:Int)+((153:Int) * (m+12-3)+2).tdiv (5:Int))/\b9 ((365:Int) * (y-1)+(y-1) / (4:Int)-(y-1) / (100:Int)+(y-1) / (400:Int)+((153:Int) * (m+12-3)+2).tdiv (5:Int)+d)/\b9 ((365:Int) * (y-1)+(y-1) / (4:Int)-(y-1) / (100:Int)+(y-1) / (400:Int)+((153:Int) * (m+12-3)+2).tdiv (5:Int)+d-306)/\Q ((365:Int) * (y-1)+(y-1) / (4:Int)-(y-1) / (100:Int)+(y-1) / (400:Int)+((153:Int) * (m+12-3)+2).tdiv (5:Int)+d-306))/\(¬m<3->b9 ((365:Int) * y)/\(0:Int)<4/\(4:Int)<=100000/\b9 (y / (4:Int))/\b9 (y / (4:Int)+1)/\b9 ((365:Int) * y+y / (4:Int))/\(0:Int)<100/\(100:Int)<=100000/\b9 (y / (100:Int))/\b9 (y / (100:Int)+1)/\b9 ((365:Int) * y+y / (4:Int)-y / (100:Int))/\(0:Int)<400/\(400:Int)<=100000/\b9 (y / (400:Int))/\b9 (y / (400:Int)+1)/\b9 ((365:Int) * y+y / (4:Int)-y / (100:Int)+y / (400:Int))/\b9 (m-3)/\b9 ((153:Int) * (m-3))/\b9 ((153:Int) * (m-3)+2)/\(5:Int)≠0/\b9 (((153:Int) * (m-3)+2).tdiv (5:Int))/\b9 ((365:Int) * y+y / (4:Int)-y / (100:Int)+y / (400:Int)+((153:Int) * (m-3)+2).tdiv (5:Int))/\b9 ((365:Int) * y+y / (4:Int)-y / (100:Int)+y / (400:Int)+((153:Int) * (m-3)+2).tdiv (5:Int)+d)/\b9 ((365:Int) * y+y / (4:Int)-y / (100:Int)+y / (400:Int)+((153:Int) * (m-3)+2).tdiv (5:Int)+d-306)/\Q ((365:Int) * y+y / (4:Int)-y / (100:Int)+y / (400:Int)+((153:Int) * (m-3)+2).tdiv (5:Int)+d-306))
theorem d4e {y:Int} {m:Int} {d:Int} {Q:Int->Prop}:@Eq Prop (Vgc y m d Q) (i6 (E:=Ngr) (j7 Ngr H0 c46 2) (c46 94) Tryz.f94 [.int .i64 y,.int .i64 m,.int .i64 d] [] [] 0 (m9 Ngr [.int .i64] Q)):=by kernel_rfl
theorem d1b {y:Int} {m:Int} {d:Int} {Q:Int->Prop} (h:Vgc y m d Q):i6 (E:=Ngr) (j7 Ngr H0 c46 2) (c46 94) Tryz.f94 [.int .i64 y,.int .i64 m,.int .i64 d] [] [] 0 (m9 Ngr [.int .i64] Q):=by rw [<- d4e]; exact h
set_option maxHeartbeats 2000000 in
theorem pgc (y:Int) (m:Int) (d:Int) (y0:-100000<=y) (y1:y<=100000) (m0:1<=m) (m1:m<=12) (d0:-100000<=d) (d1:d<=100000):Vgc y m d (fun y0=>y0=B7 y m d):=by
 unfold Vgc B7
 have t1:(153 * (m+12-3)+2).tdiv 5=(153 * (m+12-3)+2) / 5:=Int.tdiv_eq_ediv_of_nonneg (by omega)
 refine ⟨fun h=>?_,fun h=>?_⟩
 . rw [t1,if_pos h]
   repeat' apply And.intro
   all_goals first | rfl | omega
 . have t2:(153 * (m-3)+2).tdiv 5=(153 * (m-3)+2) / 5:=Int.tdiv_eq_ediv_of_nonneg (by omega)
   rw [t2,if_neg h]
   repeat' apply And.intro
   all_goals first | rfl | omega
def cgc (a:List (SV U)):Option (Q1 U):=match a with | [.int .i64 y,.int .i64 m,.int .i64 d]=>some ⟨[-100000<=y,y<=100000,1<=m,m<=12,-100000<=d,d<=100000],[],.int .i64 (B7 y m d)⟩ | _=>none
theorem e1e (args:List (SV U)) (q:Q1 U) (h:cgc args=some q) (ho:l7 q.ob):l4 Ngr 94 args ⟨q.ob,q.hy,q.v,[]⟩:=by
 unfold cgc at h
 split at h
 . rename_i y m d
   cases h
   exact q8 b3o (j8 b3o p8 c46 2) Tryz.func94 (k:=.int .i64) (x:=B7 y m d) trivial (d1b (pgc y m d ho.1 ho.2.1 ho.2.2.1 ho.2.2.2.1 ho.2.2.2.2.1 ho.2.2.2.2.2.1)) 0
 . cases h
noncomputable def Ngc:Env:=Ngr.addL 94 cgc
theorem b3t:k8 Ngc:=b3o.addL Tryz.call94 e1e
end Go.Proofs.YtdjfeninmbpflaaGreat
end
section
namespace Go.Proofs.YtdjfeninmbpflaaGreat
open Go Go.Wk Go.Wl Go.Rx Go.Re 
attribute [local irreducible] i6
def c3a:Nat->Ann:=fun | 93=>⟨7,fun _=>none,fun _=>none⟩ | _=>⟨0,fun _=>none,fun _=>none⟩
def Vgt (d:Dy) (Q:Err->Prop):Prop :=
(¬D1 (Dy.mk d.Year d.Month d.Date)=true->Q (Err.no (3:Int)))/\(¬¬D1 (Dy.mk d.Year d.Month d.Date)=true->Q Err.nil)
theorem d5l {d:Dy} {Q:Err->Prop}:@Eq Prop (Vgt d Q) (i6 (E:=Ngc) (j7 Ngc H0 c3a 2) (c3a 93) Tryz.f93 [.agg [.int .i64 d.Year,.int .i64 d.Month,.int .i64 d.Date]] [] [] 0 (m9 Ngc [.err] Q)):=by kernel_rfl
theorem d4t {d:Dy} {Q:Err->Prop} (h:Vgt d Q):i6 (E:=Ngc) (j7 Ngc H0 c3a 2) (c3a 93) Tryz.f93 [.agg [.int .i64 d.Year,.int .i64 d.Month,.int .i64 d.Date]] [] [] 0 (m9 Ngc [.err] Q):=by rw [<- d5l]; exact h
def F6 (d:Dy):Err:=if w8 d then .nil else .no 3
theorem b1y (d:Dy):F6 d=.nil ∨ ∃ n,F6 d=.no n:=by
 unfold F6
 split
 . exact .inl rfl
 . exact .inr ⟨3,rfl⟩
theorem pgt (d:Dy)  : Vgt d (fun y0=>y0=F6 d):=by
 unfold Vgt F6
 refine ⟨fun h=>?_,fun h=>?_⟩
 . rw [if_neg (fun hr=>h (C5.2 hr))]
 . rw [if_pos (C5.1 (Classical.not_not.1 h))]
def e4p (d:Dy):Q1 U:=⟨[],[],.err (F6 d)⟩
def cgt (a:List (SV U)):Option (Q1 U):=match a with | [.agg [.int .i64 d0,.int .i64 d1,.int .i64 d2]]=>some (e4p (⟨d0,d1,d2⟩)) | _=>none
theorem d4w (args:List (SV U)) (q:Q1 U) (h:cgt args=some q) (ho:l7 q.ob):l4 Ngc 93 args ⟨q.ob,q.hy,q.v,[]⟩:=by
 unfold cgt at h
 split at h
 . rename_i d0 d1 d2
   cases h
   exact q8 b3t (j8 b3t p8 c3a 2) Tryz.func93 (k:=.err) (x:=F6 (⟨d0,d1,d2⟩:Dy)) (b1y _) (d4t (pgt (⟨d0,d1,d2⟩) )) 0
 . cases h
noncomputable def Ngt:Env:=Ngc.addL 93 cgt
theorem b44:k8 Ngt:=b3t.addL Tryz.call93 d4w
end Go.Proofs.YtdjfeninmbpflaaGreat
end
section
namespace Go.Proofs.YtdjfeninmbpflaaGreat
open Go Go.Wk Go.Wl Go.Rx Go.Re 
attribute [local irreducible] i6
def c6d:Nat->Ann:=fun | 56=>⟨14,fun _=>none,fun _=>none⟩ | _=>⟨0,fun _=>none,fun _=>none⟩
def Vgn (d:Dy) (Q:Int->Prop):Prop :=
((F6 (Dy.mk d.Year d.Month d.Date)).is (3:Int)->Q (0:Int))/\(¬(F6 (Dy.mk d.Year d.Month d.Date)).is (3:Int)->(-100000:Int)<=d.Year/\d.Year<=100000/\(1:Int)<=d.Month/\d.Month<=12/\(-100000:Int)<=d.Date/\d.Date<=100000/\Q (B7 d.Year d.Month d.Date))
theorem e1a {d:Dy} {Q:Int->Prop}:@Eq Prop (Vgn d Q) (i6 (E:=Ngt) (j7 Ngt H0 c6d 2) (c6d 56) Tryz.f56 [.agg [.int .i64 d.Year,.int .i64 d.Month,.int .i64 d.Date]] [] [] 0 (m9 Ngt [.int .i64] Q)):=by kernel_rfl
theorem e0p {d:Dy} {Q:Int->Prop} (h:Vgn d Q):i6 (E:=Ngt) (j7 Ngt H0 c6d 2) (c6d 56) Tryz.f56 [.agg [.int .i64 d.Year,.int .i64 d.Month,.int .i64 d.Date]] [] [] 0 (m9 Ngt [.int .i64] Q):=by rw [<- e1a]; exact h
theorem b2j {d:Dy}:(F6 d).is 3↔¬ w8 d:=by
 unfold F6
 split
 . rename_i h
   exact ⟨fun h'=>by simp [Err.is,Err.num] at h',fun h'=>absurd h h'⟩
 . rename_i h
   exact ⟨fun _=>h,fun _=>rfl⟩
theorem b06 {d:Dy}:F6 d≠Err.nil↔¬ w8 d:=by
 unfold F6
 split
 . rename_i h
   exact ⟨fun h'=>absurd rfl h',fun h'=>absurd h h'⟩
 . rename_i h
   exact ⟨fun _=>h,fun _ h'=>by cases h'⟩
theorem pgn (d:Dy)  : Vgn d (fun y0=>y0=p6 d):=by
 unfold Vgn p6
 refine ⟨fun h=>?_,fun h=>?_⟩
 . rw [if_neg (b2j.1 h)]
 . have hr:w8 d:=Classical.not_not.1 fun hn=>h (b2j.2 hn)
   obtain ⟨y0,y1,m0,m1,d0,d1⟩:=hr.ym
   rw [if_pos hr]
   exact ⟨by omega,by omega,m0,m1,by omega,by omega,X4 m0 m1⟩
def e47 (d:Dy):Q1 U:=⟨[],[],.int .i64 (p6 d)⟩
def cgn (a:List (SV U)):Option (Q1 U):=match a with | [.agg [.int .i64 d0,.int .i64 d1,.int .i64 d2]]=>some (e47 (⟨d0,d1,d2⟩)) | _=>none
theorem d9d (args:List (SV U)) (q:Q1 U) (h:cgn args=some q) (ho:l7 q.ob):l4 Ngt 56 args ⟨q.ob,q.hy,q.v,[]⟩:=by
 unfold cgn at h
 split at h
 . rename_i d0 d1 d2
   cases h
   exact q8 b44 (j8 b44 p8 c6d 2) Tryz.func56 (k:=.int .i64) (x:=p6 (⟨d0,d1,d2⟩:Dy)) trivial (e0p (pgn (⟨d0,d1,d2⟩) )) 0
 . cases h
noncomputable def Ngn:Env:=Ngt.addL 56 cgn
theorem b58:k8 Ngn:=b44.addL Tryz.call56 d9d
end Go.Proofs.YtdjfeninmbpflaaGreat
end
section
namespace Go.Proofs.YtdjfeninmbpflaaGreat
open Go Go.Wk Go.Wl Go.Rx Go.Re 
attribute [local irreducible] i6
def c14:Nat->Ann:=fun | 82=>⟨13,fun _=>none,fun _=>none⟩ | _=>⟨0,fun _=>none,fun _=>none⟩
def Vgy (d:Dy) (Q:Int->Prop):Prop :=
(F6 (Dy.mk d.Year d.Month d.Date)≠Err.nil->Q (0:Int))/\(¬F6 (Dy.mk d.Year d.Month d.Date)≠Err.nil->((-100000:Int)<=d.Year/\d.Year<=100000/\(1:Int)<=1/\(1:Int)<=12/\(-100000:Int)<=1/\(1:Int)<=100000)/\b9 (p6 (Dy.mk d.Year d.Month d.Date)-B7 d.Year (1:Int) (1:Int))/\b9 (p6 (Dy.mk d.Year d.Month d.Date)-B7 d.Year (1:Int) (1:Int)+1)/\Q (p6 (Dy.mk d.Year d.Month d.Date)-B7 d.Year (1:Int) (1:Int)+1))
theorem d3i {d:Dy} {Q:Int->Prop}:@Eq Prop (Vgy d Q) (i6 (E:=Ngn) (j7 Ngn H0 c14 2) (c14 82) Tryz.f82 [.agg [.int .i64 d.Year,.int .i64 d.Month,.int .i64 d.Date]] [] [] 0 (m9 Ngn [.int .i64] Q)):=by kernel_rfl
theorem d5d {d:Dy} {Q:Int->Prop} (h:Vgy d Q):i6 (E:=Ngn) (j7 Ngn H0 c14 2) (c14 82) Tryz.f82 [.agg [.int .i64 d.Year,.int .i64 d.Month,.int .i64 d.Date]] [] [] 0 (m9 Ngn [.int .i64] Q):=by rw [<- d3i]; exact h
theorem pgy (d:Dy)  : Vgy d (fun y0=>y0=ydS d):=by
 unfold Vgy ydS
 refine ⟨fun h=>?_,fun h=>?_⟩
 . rw [if_neg (b06.1 h)]
 . have hr:w8 d:=Classical.not_not.1 fun hn=>h (b06.2 hn)
   obtain ⟨y0,y1,m0,m1,d0,d1⟩:=hr.ym
   obtain ⟨n0,n1⟩:=J6 hr
   have a0:=v7 (show (0:Int)<=d.Year by omega)
   have a1:=v7 (show d.Year<=10000 by omega)
   have a2:j4 0=-366:=by decide
   have a3:j4 10000=3652059:=by decide
   have e:B7 d.Year 1 1=j4 d.Year+1:=by rw [X4 (by decide) (by decide)]; unfold D2; rw [if_pos (by decide)]; omega
   have en:p6 (Dy.mk d.Year d.Month d.Date)=z7 d:=by
    show p6 d=z7 d
    unfold p6; rw [if_pos hr]
   rw [if_pos hr,e,en]
   exact ⟨⟨by omega,by omega,by decide,by decide,by decide,by decide⟩,⟨by omega,by omega⟩,⟨by omega,by omega⟩,by omega⟩
def e4q (d:Dy):Q1 U:=⟨[],[],.int .i64 (ydS d)⟩
def cgy (a:List (SV U)):Option (Q1 U):=match a with | [.agg [.int .i64 d0,.int .i64 d1,.int .i64 d2]]=>some (e4q (⟨d0,d1,d2⟩)) | _=>none
theorem d2g (args:List (SV U)) (q:Q1 U) (h:cgy args=some q) (ho:l7 q.ob):l4 Ngn 82 args ⟨q.ob,q.hy,q.v,[]⟩:=by
 unfold cgy at h
 split at h
 . rename_i d0 d1 d2
   cases h
   exact q8 b58 (j8 b58 p8 c14 2) Tryz.func82 (k:=.int .i64) (x:=ydS (⟨d0,d1,d2⟩:Dy)) trivial (d5d (pgy (⟨d0,d1,d2⟩) )) 0
 . cases h
noncomputable def Ngy:Env:=Ngn.addL 82 cgy
theorem b4n:k8 Ngy:=b58.addL Tryz.call82 d2g
end Go.Proofs.YtdjfeninmbpflaaGreat
end
section
namespace Go.Proofs.YtdjfeninmbpflaaGreat
open Go Go.Wk Go.Wl Go.Rx Go.Re 
attribute [local irreducible] i6
def c69:Nat->Ann:=fun | 104=>⟨16,fun _=>none,fun _=>none⟩ | _=>⟨0,fun _=>none,fun _=>none⟩
def Vgb (y:Int) (f:Int) (Q:Int->Prop):Prop :=
(-100000:Int)<=y/\y<=100000/\(1:Int)<=1/\(1:Int)<=12/\(-100000:Int)<=4/\(4:Int)<=100000/\b9 (wdS (B7 y (1:Int) (4:Int))-f)/\b9 (wdS (B7 y (1:Int) (4:Int))-f+7)/\(7:Int)≠0/\b9 (B7 y (1:Int) (4:Int)-(wdS (B7 y (1:Int) (4:Int))-f+7).tmod (7:Int))/\Q (B7 y (1:Int) (4:Int)-(wdS (B7 y (1:Int) (4:Int))-f+7).tmod (7:Int))
theorem d5y {y:Int} {f:Int} {Q:Int->Prop}:@Eq Prop (Vgb y f Q) (i6 (E:=Ngy) (j7 Ngy H0 c69 2) (c69 104) Tryz.f104 [.int .i64 y,.int .i64 f] [] [] 0 (m9 Ngy [.int .i64] Q)):=by kernel_rfl
theorem e0h {y:Int} {f:Int} {Q:Int->Prop} (h:Vgb y f Q):i6 (E:=Ngy) (j7 Ngy H0 c69 2) (c69 104) Tryz.f104 [.int .i64 y,.int .i64 f] [] [] 0 (m9 Ngy [.int .i64] Q):=by rw [<- d5y]; exact h
theorem pgb (y:Int) (f:Int) (y0:0<=y) (y1:y<=10000) (f0:0<=f) (f1:f<=6):Vgb y f (fun y0=>y0=v8 y f):=by
 unfold Vgb v8
 have e:B7 y 1 4=j4 y+4:=by rw [X4 (by decide) (by decide)]; unfold D2; rw [if_pos (by decide)]; omega
 have w0:0<=wdS (j4 y+4)/\wdS (j4 y+4)<=6:=by unfold wdS; omega
 have a0:=v7 (show (0:Int)<=y by omega)
 have a1:=v7 (show y<=10000 by omega)
 have a2:j4 0=-366:=by decide
 have a3:j4 10000=3652059:=by decide
 rw [e]
 generalize wdS (j4 y+4)=w at w0 ⊢
 have t:(w-f+7).tmod 7=(w-f+7) % 7:=Int.tmod_eq_emod_of_nonneg (by omega)
 rw [t]
 refine ⟨by omega,by omega,by decide,by decide,by decide,by decide,⟨by omega,by omega⟩,⟨by omega,by omega⟩,by decide,⟨by omega,by omega⟩,rfl⟩
def cgb (a:List (SV U)):Option (Q1 U):=match a with | [.int .i64 y,.int .i64 f]=>some ⟨[0<=y,y<=10000,0<=f,f<=6],[],.int .i64 (v8 y f)⟩ | _=>none
theorem d8a (args:List (SV U)) (q:Q1 U) (h:cgb args=some q) (ho:l7 q.ob):l4 Ngy 104 args ⟨q.ob,q.hy,q.v,[]⟩:=by
 unfold cgb at h
 split at h
 . rename_i y f
   cases h
   exact q8 b4n (j8 b4n p8 c69 2) Tryz.func104 (k:=.int .i64) (x:=v8 y f) trivial (e0h (pgb y f ho.1 ho.2.1 ho.2.2.1 ho.2.2.2.1)) 0
 . cases h
noncomputable def Ngb:Env:=Ngy.addL 104 cgb
theorem b31:k8 Ngb:=b4n.addL Tryz.call104 d8a
end Go.Proofs.YtdjfeninmbpflaaGreat
end
section
namespace Go.Proofs.YtdjfeninmbpflaaGreat
open Go Go.Wk Go.Wl Go.Rx Go.Re 
attribute [local irreducible] i6
def c59:Nat->Ann:=fun | 79=>⟨49,fun _=>none,fun _=>none⟩ | _=>⟨0,fun _=>none,fun _=>none⟩
def Vgk (n:Int) (f:Int) (Q:Int->Int->Prop):Prop :=
(((n<1 ∨ (3652059:Int)<n) ∨ f<0) ∨ (6:Int)<f->Q (0:Int) (0:Int))/\(¬(((n<1 ∨ (3652059:Int)<n) ∨ f<0) ∨ (6:Int)<f)->b9 ((ofS n).Year+1)/\(0:Int)<=(ofS n).Year+1/\(ofS n).Year+1<=10000/\(0:Int)<=f/\f<=6/\(v8 ((ofS n).Year+1) f<=n->b9 ((ofS n).Year+1)/\(0:Int)<=(ofS n).Year+1/\(ofS n).Year+1<=10000/\(0:Int)<=f/\f<=6/\b9 (n-v8 ((ofS n).Year+1) f)/\(7:Int)≠0/\b9 ((n-v8 ((ofS n).Year+1) f).tdiv (7:Int))/\b9 ((n-v8 ((ofS n).Year+1) f).tdiv (7:Int)+1)/\Q ((ofS n).Year+1) ((n-v8 ((ofS n).Year+1) f).tdiv (7:Int)+1))/\(¬v8 ((ofS n).Year+1) f<=n->(0:Int)<=(ofS n).Year/\(ofS n).Year<=10000/\(0:Int)<=f/\f<=6/\(n<v8 (ofS n).Year f->b9 ((ofS n).Year-1)/\(0:Int)<=(ofS n).Year-1/\(ofS n).Year-1<=10000/\(0:Int)<=f/\f<=6/\b9 (n-v8 ((ofS n).Year-1) f)/\(7:Int)≠0/\b9 ((n-v8 ((ofS n).Year-1) f).tdiv (7:Int))/\b9 ((n-v8 ((ofS n).Year-1) f).tdiv (7:Int)+1)/\Q ((ofS n).Year-1) ((n-v8 ((ofS n).Year-1) f).tdiv (7:Int)+1))/\(¬n<v8 (ofS n).Year f->(0:Int)<=(ofS n).Year/\(ofS n).Year<=10000/\(0:Int)<=f/\f<=6/\b9 (n-v8 (ofS n).Year f)/\(7:Int)≠0/\b9 ((n-v8 (ofS n).Year f).tdiv (7:Int))/\b9 ((n-v8 (ofS n).Year f).tdiv (7:Int)+1)/\Q (ofS n).Year ((n-v8 (ofS n).Year f).tdiv (7:Int)+1))))
theorem d6t {n:Int} {f:Int} {Q:Int->Int->Prop}:@Eq Prop (Vgk n f Q) (i6 (E:=Ngb) (j7 Ngb H0 c59 2) (c59 79) Tryz.f79 [.int .i64 n,.int .i64 f] [] [] 0 (m9 Ngb [.int .i64,.int .i64] Q)):=by kernel_rfl
theorem d9c {n:Int} {f:Int} {Q:Int->Int->Prop} (h:Vgk n f Q):i6 (E:=Ngb) (j7 Ngb H0 c59 2) (c59 79) Tryz.f79 [.int .i64 n,.int .i64 f] [] [] 0 (m9 Ngb [.int .i64,.int .i64] Q):=by rw [<- d6t]; exact h
set_option maxHeartbeats 2000000 in
theorem pgk (n:Int) (f:Int)  : Vgk n f (fun y0 y1=>y0=(A7 n f).1/\y1=(A7 n f).2):=by
 unfold Vgk A7
 refine ⟨fun h=>by rw [if_pos h]; exact ⟨rfl,rfl⟩,fun h=>?_⟩
 rw [if_neg h]
 obtain ⟨hr,hn⟩:=N1 (n:=n) (by omega) (by omega)
 obtain ⟨y0,y1,_⟩:=hr.ym
 have hi:=R5 hr
 rw [hn] at hi
 unfold wkY
 generalize (ofS n).Year=y at *
 obtain ⟨q0,q1⟩:=J4 (y+1) f
 obtain ⟨q2,q3⟩:=J4 y f
 obtain ⟨q4,q5⟩:=J4 (y-1) f
 obtain ⟨r0,r1⟩:=z6 (y:=y+1) (by omega) (by omega)
 obtain ⟨r2,r3⟩:=z6 (y:=y) (by omega) (by omega)
 obtain ⟨r4,r5⟩:=z6 (y:=y-1) (by omega) (by omega)
 have hs:=H4 (y-1)
 rw [show y-1+1=y by omega] at hs
 have hs2:j4 (y-1)+365<=j4 y:=by split at hs <;> omega
 refine ⟨⟨by omega,by omega⟩,by omega,by omega,by omega,by omega,fun h1=>?_,fun h1=>?_⟩
 . have t:(n-v8 (y+1) f).tdiv 7=(n-v8 (y+1) f) / 7:=Int.tdiv_eq_ediv_of_nonneg (by omega)
   rw [if_pos h1,t]
   exact ⟨⟨by omega,by omega⟩,by omega,by omega,by omega,by omega,⟨by omega,by omega⟩,by decide,⟨by omega,by omega⟩,⟨by omega,by omega⟩,rfl,rfl⟩
 . rw [if_neg h1]
   refine ⟨by omega,by omega,by omega,by omega,fun h2=>?_,fun h2=>?_⟩
   . have t:(n-v8 (y-1) f).tdiv 7=(n-v8 (y-1) f) / 7:=Int.tdiv_eq_ediv_of_nonneg (by omega)
     rw [if_pos h2,t]
     exact ⟨⟨by omega,by omega⟩,by omega,by omega,by omega,by omega,⟨by omega,by omega⟩,by decide,⟨by omega,by omega⟩,⟨by omega,by omega⟩,rfl,rfl⟩
   . have t:(n-v8 y f).tdiv 7=(n-v8 y f) / 7:=Int.tdiv_eq_ediv_of_nonneg (by omega)
     rw [if_neg h2,t]
     exact ⟨by omega,by omega,by omega,by omega,⟨by omega,by omega⟩,by decide,⟨by omega,by omega⟩,⟨by omega,by omega⟩,rfl,rfl⟩
def cgk (a:List (SV U)):Option (Q1 U):=match a with | [.int .i64 n,.int .i64 f]=>some ⟨[],[],.tup [.int .i64 ((A7 n f).1),.int .i64 ((A7 n f).2)]⟩ | _=>none
theorem e1r (args:List (SV U)) (q:Q1 U) (h:cgk args=some q) (ho:l7 q.ob):l4 Ngb 79 args ⟨q.ob,q.hy,q.v,[]⟩:=by
 unfold cgk at h
 split at h
 . rename_i n f
   cases h
   exact d0e b31 (j8 b31 p8 c59 2) Tryz.func79 (k1:=.int .i64) (k2:=.int .i64) (x1:=(A7 n f).1) (x2:=(A7 n f).2) trivial trivial (d9c (pgk n f )) 0
 . cases h
noncomputable def Ngk:Env:=Ngb.addL 79 cgk
theorem b30:k8 Ngk:=b31.addL Tryz.call79 e1r
end Go.Proofs.YtdjfeninmbpflaaGreat
end
section
namespace Go.Proofs.YtdjfeninmbpflaaGreat
open Go Go.Wk Go.Wl Go.Rx Go.Re 
attribute [local irreducible] i6
def c1s:Nat->Ann:=fun | 80=>⟨28,fun _=>none,fun _=>none⟩ | _=>⟨0,fun _=>none,fun _=>none⟩
def Vgm (y:Int) (f:Int) (Q:Int->Prop):Prop :=
(((y<1 ∨ (9999:Int)<y) ∨ f<0) ∨ (6:Int)<f->Q (0:Int))/\(¬(((y<1 ∨ (9999:Int)<y) ∨ f<0) ∨ (6:Int)<f)->b9 (y+1)/\(0:Int)<=y+1/\y+1<=10000/\(0:Int)<=f/\f<=6/\(0:Int)<=y/\y<=10000/\(0:Int)<=f/\f<=6/\b9 (v8 (y+1) f-v8 y f)/\(7:Int)≠0/\b9 ((v8 (y+1) f-v8 y f).tdiv (7:Int))/\Q ((v8 (y+1) f-v8 y f).tdiv (7:Int)))
theorem d9x {y:Int} {f:Int} {Q:Int->Prop}:@Eq Prop (Vgm y f Q) (i6 (E:=Ngk) (j7 Ngk H0 c1s 2) (c1s 80) Tryz.f80 [.int .i64 y,.int .i64 f] [] [] 0 (m9 Ngk [.int .i64] Q)):=by kernel_rfl
theorem d1o {y:Int} {f:Int} {Q:Int->Prop} (h:Vgm y f Q):i6 (E:=Ngk) (j7 Ngk H0 c1s 2) (c1s 80) Tryz.f80 [.int .i64 y,.int .i64 f] [] [] 0 (m9 Ngk [.int .i64] Q):=by rw [<- d9x]; exact h
theorem pgm (y:Int) (f:Int)  : Vgm y f (fun y0=>y0=E8 y f):=by
 unfold Vgm E8
 refine ⟨fun h=>by rw [if_pos h],fun h=>?_⟩
 rw [if_neg h]
 obtain ⟨q0,q1⟩:=J4 (y+1) f
 obtain ⟨q2,q3⟩:=J4 y f
 obtain ⟨r0,r1⟩:=z6 (y:=y+1) (by omega) (by omega)
 obtain ⟨r2,r3⟩:=z6 (y:=y) (by omega) (by omega)
 have hs:=H4 y
 have hs2:j4 y+365<=j4 (y+1):=by split at hs <;> omega
 have t:(v8 (y+1) f-v8 y f).tdiv 7=(v8 (y+1) f-v8 y f) / 7:=Int.tdiv_eq_ediv_of_nonneg (by omega)
 rw [t]
 exact ⟨⟨by omega,by omega⟩,by omega,by omega,by omega,by omega,by omega,by omega,by omega,by omega,⟨by omega,by omega⟩,by decide,⟨by omega,by omega⟩,rfl⟩
def cgm (a:List (SV U)):Option (Q1 U):=match a with | [.int .i64 y,.int .i64 f]=>some ⟨[],[],.int .i64 (E8 y f)⟩ | _=>none
theorem d4u (args:List (SV U)) (q:Q1 U) (h:cgm args=some q) (ho:l7 q.ob):l4 Ngk 80 args ⟨q.ob,q.hy,q.v,[]⟩:=by
 unfold cgm at h
 split at h
 . rename_i y f
   cases h
   exact q8 b30 (j8 b30 p8 c1s 2) Tryz.func80 (k:=.int .i64) (x:=E8 y f) trivial (d1o (pgm y f )) 0
 . cases h
noncomputable def Ngm:Env:=Ngk.addL 80 cgm
theorem d8c:k8 Ngm:=b30.addL Tryz.call80 d4u
end Go.Proofs.YtdjfeninmbpflaaGreat
end
section
namespace Go.Proofs.YtdjfeninmbpflaaGreat
open Go Go.Wk Go.Wl Go.Rx Go.Re 
noncomputable def a65:Env:=Ngm.addI 55 Tryz.f55
theorem a94:k8 a65:=d8c.addI Tryz.call55 Tryz.func55
end Go.Proofs.YtdjfeninmbpflaaGreat
end
section
namespace Go.Proofs.YtdjfeninmbpflaaGreat
open Go Go.Wk Go.Wl Go.Rx Go.Re 
attribute [local irreducible] i6
def c5d:Nat->Ann:=fun | 29=>⟨42,fun _=>none,fun _=>none⟩ | 55=>⟨12,fun _=>none,fun _=>none⟩ | _=>⟨0,fun _=>none,fun _=>none⟩
def Vwr (t:Tm) (Q:Bool->Prop):Prop :=
(t.Bare=true/\(((t.Hour≠0 ∨ t.Min≠0) ∨ t.Sec≠0) ∨ t.UTC=true)->Q false)/\(¬(t.Bare=true/\(((t.Hour≠0 ∨ t.Min≠0) ∨ t.Sec≠0) ∨ t.UTC=true))->(D1 (Dy.mk t.Day.Year t.Day.Month t.Day.Date)=true->((0:Int)<=t.Hour/\t.Hour<=23->((0:Int)<=t.Min/\t.Min<=59->Q (decide ((0:Int)<=t.Sec/\t.Sec<=59)))/\(¬((0:Int)<=t.Min/\t.Min<=59)->Q false))/\(¬((0:Int)<=t.Hour/\t.Hour<=23)->Q false))/\(¬D1 (Dy.mk t.Day.Year t.Day.Month t.Day.Date)=true->Q false))
theorem d7b {t:Tm} {Q:Bool->Prop}:@Eq Prop (Vwr t Q) (i6 (E:=a65) (j7 a65 H0 c5d 2) (c5d 29) Tryz.f29 [.agg [.int .i64 t.Day.Year,.int .i64 t.Day.Month,.int .i64 t.Day.Date,.int .i64 t.Hour,.int .i64 t.Min,.int .i64 t.Sec,blB t.Bare,blB t.UTC]] [] [] 0 (m9 a65 [.bool] Q)):=by kernel_rfl
theorem d7w {t:Tm} {Q:Bool->Prop} (h:Vwr t Q):i6 (E:=a65) (j7 a65 H0 c5d 2) (c5d 29) Tryz.f29 [.agg [.int .i64 t.Day.Year,.int .i64 t.Day.Month,.int .i64 t.Day.Date,.int .i64 t.Hour,.int .i64 t.Min,.int .i64 t.Sec,blB t.Bare,blB t.UTC]] [] [] 0 (m9 a65 [.bool] Q):=by rw [<- d7b]; exact h
theorem pwr (t:Tm)  : Vwr t (fun y0=>y0=l9 t):=by
 unfold Vwr
 have e:(Dy.mk t.Day.Year t.Day.Month t.Day.Date)=t.Day:=rfl
 rw [e]
 refine ⟨fun h=>?_,fun h=>⟨fun hd=>⟨fun hh=>⟨fun hm=>?_,fun hm=>?_⟩,fun hh=>?_⟩,fun hd=>?_⟩⟩
 . exact (decide_eq_false fun hr=>hr.2.2.2.2 h).symm
 . by_cases hs:0<=t.Sec/\t.Sec<=59
   . rw [decide_eq_true hs]; exact (decide_eq_true ⟨C5.1 hd,hh,hm,hs,h⟩).symm
   . rw [decide_eq_false hs]; exact (decide_eq_false fun hr=>hs hr.2.2.2.1).symm
 . exact (decide_eq_false fun hr=>hm hr.2.2.1).symm
 . exact (decide_eq_false fun hr=>hh hr.2.1).symm
 . exact (decide_eq_false fun hr=>hd (C5.2 hr.1)).symm
noncomputable def e44 (t:Tm):Q1 U:=⟨[],[],blB (l9 t)⟩
noncomputable def cwr (a:List (SV U)):Option (Q1 U):=match a with | [.agg l_t]=>(y25.bk (.agg l_t)).bind fun t=>some (e44 t) | _=>none
theorem d3w (args:List (SV U)) (q:Q1 U) (h:cwr args=some q) (ho:l7 q.ob):l4 a65 29 args ⟨q.ob,q.hy,q.v,[]⟩:=by
 unfold cwr at h
 split at h
 . rename_i l_t
   obtain ⟨t,hb_t,h⟩:=Option.bind_eq_some_iff.1 h
   cases h
   refine l4.conv (E:=a65) (args':=[.agg [.int .i64 t.Day.Year,.int .i64 t.Day.Month,.int .i64 t.Day.Date,.int .i64 t.Hour,.int .i64 t.Min,.int .i64 t.Sec,blB t.Bare,blB t.UTC]]) (q8 a94 (j8 a94 p8 c5d 2) Tryz.func29 (k:=.bool) trivial (d7w (pwr t )) 0) fun D w vs hr=>w5 [.agg l_t] [.agg [.int .i64 t.Day.Year,.int .i64 t.Day.Month,.int .i64 t.Day.Date,.int .i64 t.Hour,.int .i64 t.Min,.int .i64 t.Sec,blB t.Bare,blB t.UTC]] _ ⟨fun _ h=>v6 hb_t h,trivial⟩ hr
 . cases h
noncomputable def Nwr:Env:=a65.addL 29 cwr
theorem b52:k8 Nwr:=a94.addL Tryz.call29 d3w
end Go.Proofs.YtdjfeninmbpflaaGreat
end
section
namespace Go.Proofs.YtdjfeninmbpflaaGreat
open Go Go.Wk Go.Wl Go.Rx Go.Re 
attribute [local irreducible] i6
def c4w:Nat->Ann:=fun | 31=>⟨22,fun _=>none,fun _=>none⟩ | _=>⟨0,fun _=>none,fun _=>none⟩
def Vws (t:Tm) (Q:Int->Prop):Prop :=
(¬l9 (Tm.mk (Dy.mk t.Day.Year t.Day.Month t.Day.Date) t.Hour t.Min t.Sec (decide (t.Bare=true)) (decide (t.UTC=true)))=true->Q (-1:Int))/\(¬¬l9 (Tm.mk (Dy.mk t.Day.Year t.Day.Month t.Day.Date) t.Hour t.Min t.Sec (decide (t.Bare=true)) (decide (t.UTC=true)))=true->b9 (p6 (Dy.mk t.Day.Year t.Day.Month t.Day.Date)-1)/\b9 ((p6 (Dy.mk t.Day.Year t.Day.Month t.Day.Date)-1) * 86400)/\b9 (t.Hour * 3600)/\b9 ((p6 (Dy.mk t.Day.Year t.Day.Month t.Day.Date)-1) * 86400+t.Hour * 3600)/\b9 (t.Min * 60)/\b9 ((p6 (Dy.mk t.Day.Year t.Day.Month t.Day.Date)-1) * 86400+t.Hour * 3600+t.Min * 60)/\b9 ((p6 (Dy.mk t.Day.Year t.Day.Month t.Day.Date)-1) * 86400+t.Hour * 3600+t.Min * 60+t.Sec)/\Q ((p6 (Dy.mk t.Day.Year t.Day.Month t.Day.Date)-1) * 86400+t.Hour * 3600+t.Min * 60+t.Sec))
theorem e1c {t:Tm} {Q:Int->Prop}:@Eq Prop (Vws t Q) (i6 (E:=Nwr) (j7 Nwr H0 c4w 2) (c4w 31) Tryz.f31 [.agg [.int .i64 t.Day.Year,.int .i64 t.Day.Month,.int .i64 t.Day.Date,.int .i64 t.Hour,.int .i64 t.Min,.int .i64 t.Sec,blB t.Bare,blB t.UTC]] [] [] 0 (m9 Nwr [.int .i64] Q)):=by kernel_rfl
theorem d8y {t:Tm} {Q:Int->Prop} (h:Vws t Q):i6 (E:=Nwr) (j7 Nwr H0 c4w 2) (c4w 31) Tryz.f31 [.agg [.int .i64 t.Day.Year,.int .i64 t.Day.Month,.int .i64 t.Day.Date,.int .i64 t.Hour,.int .i64 t.Min,.int .i64 t.Sec,blB t.Bare,blB t.UTC]] [] [] 0 (m9 Nwr [.int .i64] Q):=by rw [<- e1c]; exact h
theorem pws (t:Tm)  : Vws t (fun y0=>y0=b8 t):=by
 unfold Vws b8
 simp only [Bool.decide_eq_true]
 refine ⟨fun h=>by rw [if_neg (fun hr=>h (o7.2 hr))],fun h=>?_⟩
 have hr:O0 t:=o7.1 (Classical.not_not.1 h)
 have hrg:=a5q hr
 rw [if_pos hr]
 obtain ⟨hd,hh,hm,hs,_⟩:=hr
 obtain ⟨n0,n1⟩:=J6 hd
 have en:p6 (Dy.mk t.Day.Year t.Day.Month t.Day.Date)=z7 t.Day:=by
  show p6 t.Day=z7 t.Day
  unfold p6; rw [if_pos hd]
 rw [en]
 unfold E2 at *
 exact ⟨⟨by omega,by omega⟩,⟨by omega,by omega⟩,⟨by omega,by omega⟩,⟨by omega,by omega⟩,⟨by omega,by omega⟩,⟨by omega,by omega⟩,⟨by omega,by omega⟩,rfl⟩
noncomputable def e49 (t:Tm):Q1 U:=⟨[],[],.int .i64 (b8 t)⟩
noncomputable def cws (a:List (SV U)):Option (Q1 U):=match a with | [.agg l_t]=>(y25.bk (.agg l_t)).bind fun t=>some (e49 t) | _=>none
theorem e1q (args:List (SV U)) (q:Q1 U) (h:cws args=some q) (ho:l7 q.ob):l4 Nwr 31 args ⟨q.ob,q.hy,q.v,[]⟩:=by
 unfold cws at h
 split at h
 . rename_i l_t
   obtain ⟨t,hb_t,h⟩:=Option.bind_eq_some_iff.1 h
   cases h
   refine l4.conv (E:=Nwr) (args':=[.agg [.int .i64 t.Day.Year,.int .i64 t.Day.Month,.int .i64 t.Day.Date,.int .i64 t.Hour,.int .i64 t.Min,.int .i64 t.Sec,blB t.Bare,blB t.UTC]]) (q8 b52 (j8 b52 p8 c4w 2) Tryz.func31 (k:=.int .i64) trivial (d8y (pws t )) 0) fun D w vs hr=>w5 [.agg l_t] [.agg [.int .i64 t.Day.Year,.int .i64 t.Day.Month,.int .i64 t.Day.Date,.int .i64 t.Hour,.int .i64 t.Min,.int .i64 t.Sec,blB t.Bare,blB t.UTC]] _ ⟨fun _ h=>v6 hb_t h,trivial⟩ hr
 . cases h
noncomputable def Nws:Env:=Nwr.addL 31 cws
theorem b61:k8 Nws:=b52.addL Tryz.call31 e1q
end Go.Proofs.YtdjfeninmbpflaaGreat
end
section
namespace Go.Proofs.YtdjfeninmbpflaaGreat
open Go Go.Wk Go.Wl Go.Rx Go.Re 
attribute [local irreducible] i6
def c6n:Nat->Ann:=fun | 36=>⟨46,fun _=>none,fun _=>none⟩ | _=>⟨0,fun _=>none,fun _=>none⟩
def Vwa (n:Int) (t:Tm) (Q:Tm->Prop):Prop :=
((¬n<0/\t.Bare=true)/\¬t.UTC=true->(86400:Int)≠0)/\(n<0 ∨ t.Bare=true/\(t.UTC=true ∨ n.tmod (86400:Int)≠0)->Q (Tm.mk (Dy.mk (0:Int) (0:Int) (0:Int)) (0:Int) (0:Int) (0:Int) false false))/\(¬(n<0 ∨ t.Bare=true/\(t.UTC=true ∨ n.tmod (86400:Int)≠0))->(86400:Int)≠0/\b9 (n.tdiv (86400:Int))/\b9 (n.tdiv (86400:Int)+1)/\((ofS (n.tdiv (86400:Int)+1)).Year=0/\(ofS (n.tdiv (86400:Int)+1)).Month=0/\(ofS (n.tdiv (86400:Int)+1)).Date=0/\True->Q (Tm.mk (Dy.mk (0:Int) (0:Int) (0:Int)) (0:Int) (0:Int) (0:Int) false false))/\(¬((ofS (n.tdiv (86400:Int)+1)).Year=0/\(ofS (n.tdiv (86400:Int)+1)).Month=0/\(ofS (n.tdiv (86400:Int)+1)).Date=0/\True)->(86400:Int)≠0/\(3600:Int)≠0/\b9 ((n.tmod (86400:Int)).tdiv (3600:Int))/\(60:Int)≠0/\b9 ((n.tmod (86400:Int)).tdiv (60:Int))/\(60:Int)≠0/\(60:Int)≠0/\Q (Tm.mk (Dy.mk (ofS (n.tdiv (86400:Int)+1)).Year (ofS (n.tdiv (86400:Int)+1)).Month (ofS (n.tdiv (86400:Int)+1)).Date) ((n.tmod (86400:Int)).tdiv (3600:Int)) (((n.tmod (86400:Int)).tdiv (60:Int)).tmod (60:Int)) ((n.tmod (86400:Int)).tmod (60:Int)) (decide (t.Bare=true)) (decide (t.UTC=true)))))
theorem e1u {n:Int} {t:Tm} {Q:Tm->Prop}:@Eq Prop (Vwa n t Q) (i6 (E:=Nws) (j7 Nws H0 c6n 2) (c6n 36) Tryz.f36 [.int .i64 n,.agg [.int .i64 t.Day.Year,.int .i64 t.Day.Month,.int .i64 t.Day.Date,.int .i64 t.Hour,.int .i64 t.Min,.int .i64 t.Sec,blB t.Bare,blB t.UTC]] [] [] 0 (m9 Nws [.val 25] Q)):=by kernel_rfl
theorem d2z {n:Int} {t:Tm} {Q:Tm->Prop} (h:Vwa n t Q):i6 (E:=Nws) (j7 Nws H0 c6n 2) (c6n 36) Tryz.f36 [.int .i64 n,.agg [.int .i64 t.Day.Year,.int .i64 t.Day.Month,.int .i64 t.Day.Date,.int .i64 t.Hour,.int .i64 t.Min,.int .i64 t.Sec,blB t.Bare,blB t.UTC]] [] [] 0 (m9 Nws [.val 25] Q):=by rw [<- e1u]; exact h
theorem pwa (n:Int) (t:Tm) (hn:n<=9000000000000000000):Vwa n t (fun y0=>y0=atS n t):=by
 unfold Vwa atS
 simp only [Bool.decide_eq_true]
 refine ⟨fun _=>by decide,fun h=>?_,fun h=>?_⟩
 . by_cases h0:n<0
   . rw [if_pos (.inl h0)]
   . have e:n.tmod 86400=n % 86400:=Int.tmod_eq_emod_of_nonneg (by omega)
     rw [e] at h
     rw [if_pos (.inr (.inl (h.resolve_left h0)))]
 . have h0:¬ n<0:=fun h'=>h (.inl h')
   have e1:n.tdiv 86400=n / 86400:=Int.tdiv_eq_ediv_of_nonneg (by omega)
   have e2:n.tmod 86400=n % 86400:=Int.tmod_eq_emod_of_nonneg (by omega)
   have e3:(n % 86400).tdiv 3600=n % 86400 / 3600:=Int.tdiv_eq_ediv_of_nonneg (by omega)
   have e4:(n % 86400).tdiv 60=n % 86400 / 60:=Int.tdiv_eq_ediv_of_nonneg (by omega)
   have e5:(n % 86400 / 60).tmod 60=n % 86400 / 60 % 60:=Int.tmod_eq_emod_of_nonneg (by omega)
   have e6:(n % 86400).tmod 60=n % 86400 % 60:=Int.tmod_eq_emod_of_nonneg (by omega)
   rw [e2] at h
   rw [e1,e2,e3,e4,e5,e6]
   by_cases hl:3652059<n / 86400+1
   . have eo:ofS (n / 86400+1)=⟨0,0,0⟩:=by unfold ofS; rw [if_pos (.inr hl)]
     rw [if_pos (.inr (.inr hl)),eo]
     exact ⟨by decide,⟨by omega,by omega⟩,⟨by omega,by omega⟩,fun _=>rfl,fun hh=>absurd ⟨rfl,rfl,rfl,trivial⟩ hh⟩
   . obtain ⟨hr,_⟩:=N1 (n:=n / 86400+1) (by omega) (by omega)
     obtain ⟨y0,_⟩:=hr.ym
     rw [if_neg (by rintro (h' | h' | h')
                    . exact h0 h'
                    . exact h (.inr h')
                    . exact hl h')]
     exact ⟨by decide,⟨by omega,by omega⟩,⟨by omega,by omega⟩,fun hz=>absurd hz.1 (by omega),fun _=>⟨by decide,by decide,⟨by omega,by omega⟩,by decide,⟨by omega,by omega⟩,by decide,by decide,rfl⟩⟩
noncomputable def e4h (n:Int) (t:Tm):Q1 U:=⟨[n<=9000000000000000000],[],.agg [.int .i64 (atS n t).Day.Year,.int .i64 (atS n t).Day.Month,.int .i64 (atS n t).Day.Date,.int .i64 (atS n t).Hour,.int .i64 (atS n t).Min,.int .i64 (atS n t).Sec,blB (atS n t).Bare,blB (atS n t).UTC]⟩
noncomputable def cwa (a:List (SV U)):Option (Q1 U):=match a with | [.int .i64 n,.agg l_t]=>(y25.bk (.agg l_t)).bind fun t=>some (e4h n t) | _=>none
theorem d7c (args:List (SV U)) (q:Q1 U) (h:cwa args=some q) (ho:l7 q.ob):l4 Nws 36 args ⟨q.ob,q.hy,q.v,[]⟩:=by
 unfold cwa at h
 split at h
 . rename_i n l_t
   obtain ⟨t,hb_t,h⟩:=Option.bind_eq_some_iff.1 h
   cases h
   refine l4.conv (E:=Nws) (args':=[.int .i64 n,.agg [.int .i64 t.Day.Year,.int .i64 t.Day.Month,.int .i64 t.Day.Date,.int .i64 t.Hour,.int .i64 t.Min,.int .i64 t.Sec,blB t.Bare,blB t.UTC]]) (q8 b61 (j8 b61 p8 c6n 2) Tryz.func36 (k:=.val 25) ⟨_,_,rfl,rfl,rfl⟩ (d2z (pwa n t ho.1)) 0) fun D w vs hr=>w5 [.int .i64 n,.agg l_t] [.int .i64 n,.agg [.int .i64 t.Day.Year,.int .i64 t.Day.Month,.int .i64 t.Day.Date,.int .i64 t.Hour,.int .i64 t.Min,.int .i64 t.Sec,blB t.Bare,blB t.UTC]] _ ⟨fun _ h=>h,fun _ h=>v6 hb_t h,trivial⟩ hr
 . cases h
noncomputable def Nwa:Env:=Nws.addL 36 cwa
theorem b5k:k8 Nwa:=b61.addL Tryz.call36 d7c
end Go.Proofs.YtdjfeninmbpflaaGreat
end
section
namespace Go.Proofs.YtdjfeninmbpflaaGreat
open Go Go.Wk Go.Wl Go.Rx Go.Re 
attribute [local irreducible] i6
def c1j:Nat->Ann:=fun | 97=>⟨16,fun _=>none,fun _=>none⟩ | _=>⟨0,fun _=>none,fun _=>none⟩
def Vry (y:Int) (Q:Int->Prop):Prop :=
(400:Int)≠0/\(¬y.tmod (400:Int)=0->(4:Int)≠0)/\(¬y.tmod (400:Int)=0/\y.tmod (4:Int)=0->(100:Int)≠0)/\(y.tmod (400:Int)=0 ∨ y.tmod (4:Int)=0/\y.tmod (100:Int)≠0->Q (366:Int))/\(¬(y.tmod (400:Int)=0 ∨ y.tmod (4:Int)=0/\y.tmod (100:Int)≠0)->Q (365:Int))
theorem d5k {y:Int} {Q:Int->Prop}:@Eq Prop (Vry y Q) (i6 (E:=Nwa) (j7 Nwa H0 c1j 2) (c1j 97) Tryz.f97 [.int .i64 y] [] [] 0 (m9 Nwa [.int .i64] Q)):=by kernel_rfl
theorem d8t {y:Int} {Q:Int->Prop} (h:Vry y Q):i6 (E:=Nwa) (j7 Nwa H0 c1j 2) (c1j 97) Tryz.f97 [.int .i64 y] [] [] 0 (m9 Nwa [.int .i64] Q):=by rw [<- d5k]; exact h
theorem pry (y:Int)  : Vry y (fun y0=>y0=a07 y):=by
 unfold Vry a07
 refine ⟨by decide,fun _=>by decide,fun _=>by decide,fun h=>?_,fun h=>?_⟩
 . rw [tm0,tm0,ne_eq,tm0] at h
   rw [if_pos (by omega)]
 . rw [tm0,tm0,ne_eq,tm0] at h
   rw [if_neg (by omega)]
def cry (a:List (SV U)):Option (Q1 U):=match a with | [.int .i64 y]=>some ⟨[],[],.int .i64 (a07 y)⟩ | _=>none
theorem d2d (args:List (SV U)) (q:Q1 U) (h:cry args=some q) (ho:l7 q.ob):l4 Nwa 97 args ⟨q.ob,q.hy,q.v,[]⟩:=by
 unfold cry at h
 split at h
 . rename_i y
   cases h
   exact q8 b5k (j8 b5k p8 c1j 2) Tryz.func97 (k:=.int .i64) (x:=a07 y) trivial (d8t (pry y )) 0
 . cases h
noncomputable def Nry:Env:=Nwa.addL 97 cry
theorem b4o:k8 Nry:=b5k.addL Tryz.call97 d2d
end Go.Proofs.YtdjfeninmbpflaaGreat
end
section
namespace Go.Proofs.YtdjfeninmbpflaaGreat
open Go Go.Wk Go.Wl Go.Rx Go.Re 
attribute [local irreducible] i6
def c1c:Nat->Ann:=fun | 65=>⟨31,fun _=>none,fun _=>none⟩ | _=>⟨0,fun _=>none,fun _=>none⟩
def Vrl (y:Int) (m:Int) (Q:Int->Prop):Prop :=
(((y<1 ∨ (9999:Int)<y) ∨ m<1) ∨ (12:Int)<m->Q (0:Int))/\(¬(((y<1 ∨ (9999:Int)<y) ∨ m<1) ∨ (12:Int)<m)->(m=2->b9 (a07 y-337)/\Q (a07 y-337))/\(¬m=2->b9 (m-1)/\(0:Int)<=m-1/\m-1<(↑[(31:Int),(28:Int),(31:Int),(30:Int),(31:Int),(30:Int),(31:Int),(31:Int),(30:Int),(31:Int),(30:Int),(31:Int)].length:Int)/\(b9 (ix [(31:Int),(28:Int),(31:Int),(30:Int),(31:Int),(30:Int),(31:Int),(31:Int),(30:Int),(31:Int),(30:Int),(31:Int)] (m-1))->Q (ix [(31:Int),(28:Int),(31:Int),(30:Int),(31:Int),(30:Int),(31:Int),(31:Int),(30:Int),(31:Int),(30:Int),(31:Int)] (m-1)))))
theorem d4o {y:Int} {m:Int} {Q:Int->Prop}:@Eq Prop (Vrl y m Q) (i6 (E:=Nry) (j7 Nry H0 c1c 2) (c1c 65) Tryz.f65 [.int .i64 y,.int .i64 m] [] [] 0 (m9 Nry [.int .i64] Q)):=by kernel_rfl
theorem d5n {y:Int} {m:Int} {Q:Int->Prop} (h:Vrl y m Q):i6 (E:=Nry) (j7 Nry H0 c1c 2) (c1c 65) Tryz.f65 [.int .i64 y,.int .i64 m] [] [] 0 (m9 Nry [.int .i64] Q):=by rw [<- d4o]; exact h
theorem prl (y:Int) (m:Int)  : Vrl y m (fun y0=>y0=s9 y m):=by
 unfold Vrl
 refine ⟨fun h=>?_,fun h=>⟨fun h2=>?_,fun h2=>⟨⟨by omega,by omega⟩,by omega,by show m-1<12; omega,fun _=>?_⟩⟩⟩
 . unfold s9
   by_cases hy:y<1 ∨ 9999<y
   . rw [if_pos hy]
   . rw [if_neg hy,if_neg (by omega),if_neg (by omega),if_neg (by omega)]
 . subst h2
   unfold s9
   rw [if_neg (show ¬ (y<1 ∨ 9999<y) by omega),if_pos rfl]
   unfold a07
   by_cases hl:y % 4=0/\(y % 100≠0 ∨ y % 400=0)
   . rw [if_pos hl,if_pos hl]; exact ⟨⟨by decide,by decide⟩,rfl⟩
   . rw [if_neg hl,if_neg hl]; exact ⟨⟨by decide,by decide⟩,rfl⟩
 . have hm:m=1 ∨ m=3 ∨ m=4 ∨ m=5 ∨ m=6 ∨ m=7 ∨ m=8 ∨ m=9 ∨ m=10 ∨ m=11 ∨ m=12:=by omega
   unfold s9
   rw [if_neg (by omega)]
   rcases hm with rfl | rfl | rfl | rfl | rfl | rfl | rfl | rfl | rfl | rfl | rfl <;> rfl
def crl (a:List (SV U)):Option (Q1 U):=match a with | [.int .i64 y,.int .i64 m]=>some ⟨[],[],.int .i64 (s9 y m)⟩ | _=>none
theorem e1y (args:List (SV U)) (q:Q1 U) (h:crl args=some q) (ho:l7 q.ob):l4 Nry 65 args ⟨q.ob,q.hy,q.v,[]⟩:=by
 unfold crl at h
 split at h
 . rename_i y m
   cases h
   exact q8 b4o (j8 b4o p8 c1c 2) Tryz.func65 (k:=.int .i64) (x:=s9 y m) trivial (d5n (prl y m )) 0
 . cases h
noncomputable def Nrl:Env:=Nry.addL 65 crl
theorem b4m:k8 Nrl:=b4o.addL Tryz.call65 e1y
end Go.Proofs.YtdjfeninmbpflaaGreat
end
section
namespace Go.Proofs.YtdjfeninmbpflaaGreat
open Go Go.Wk Go.Wl Go.Rx Go.Re 
attribute [local irreducible] i6
def c50:Nat->Ann:=fun | 64=>⟨18,fun _=>none,fun _=>none⟩ | _=>⟨0,fun _=>none,fun _=>none⟩
def Vra (y:Int) (Q:Int->Prop):Prop :=
b9 (y-1)/\b9 ((365:Int) * (y-1))/\b9 (y-1)/\(4:Int)≠0/\b9 ((y-1).tdiv (4:Int))/\b9 ((365:Int) * (y-1)+(y-1).tdiv (4:Int))/\b9 (y-1)/\(100:Int)≠0/\b9 ((y-1).tdiv (100:Int))/\b9 ((365:Int) * (y-1)+(y-1).tdiv (4:Int)-(y-1).tdiv (100:Int))/\b9 (y-1)/\(400:Int)≠0/\b9 ((y-1).tdiv (400:Int))/\b9 ((365:Int) * (y-1)+(y-1).tdiv (4:Int)-(y-1).tdiv (100:Int)+(y-1).tdiv (400:Int))/\Q ((365:Int) * (y-1)+(y-1).tdiv (4:Int)-(y-1).tdiv (100:Int)+(y-1).tdiv (400:Int))
theorem d8q {y:Int} {Q:Int->Prop}:@Eq Prop (Vra y Q) (i6 (E:=Nrl) (j7 Nrl H0 c50 2) (c50 64) Tryz.f64 [.int .i64 y] [] [] 0 (m9 Nrl [.int .i64] Q)):=by kernel_rfl
theorem d1l {y:Int} {Q:Int->Prop} (h:Vra y Q):i6 (E:=Nrl) (j7 Nrl H0 c50 2) (c50 64) Tryz.f64 [.int .i64 y] [] [] 0 (m9 Nrl [.int .i64] Q):=by rw [<- d8q]; exact h
theorem pra (y:Int) (y0:1<=y) (y1:y<=100000):Vra y (fun y0=>y0=j4 y):=by
 unfold Vra j4
 have e1:(y-1).tdiv 4=(y-1) / 4:=Int.tdiv_eq_ediv_of_nonneg (by omega)
 have e2:(y-1).tdiv 100=(y-1) / 100:=Int.tdiv_eq_ediv_of_nonneg (by omega)
 have e3:(y-1).tdiv 400=(y-1) / 400:=Int.tdiv_eq_ediv_of_nonneg (by omega)
 rw [e1,e2,e3]
 repeat' apply And.intro
 all_goals first | rfl | omega
def cra (a:List (SV U)):Option (Q1 U):=match a with | [.int .i64 y]=>some ⟨[1<=y,y<=100000],[],.int .i64 (j4 y)⟩ | _=>none
theorem d6j (args:List (SV U)) (q:Q1 U) (h:cra args=some q) (ho:l7 q.ob):l4 Nrl 64 args ⟨q.ob,q.hy,q.v,[]⟩:=by
 unfold cra at h
 split at h
 . rename_i y
   cases h
   exact q8 b4m (j8 b4m p8 c50 2) Tryz.func64 (k:=.int .i64) (x:=j4 y) trivial (d1l (pra y ho.1 ho.2.1)) 0
 . cases h
noncomputable def Nra:Env:=Nrl.addL 64 cra
theorem b39:k8 Nra:=b4m.addL Tryz.call64 d6j
end Go.Proofs.YtdjfeninmbpflaaGreat
end
section
namespace Go.Proofs.YtdjfeninmbpflaaGreat
open Go Go.Wk Go.Wl Go.Rx Go.Re 
attribute [local irreducible] i6
def c4k:Nat->Ann:=fun | 92=>⟨14,fun _=>none,fun _=>none⟩ | _=>⟨0,fun _=>none,fun _=>none⟩
def Vrw (n:Int) (Q:Int->Prop):Prop :=
(7:Int)≠0/\(n.tmod (7:Int)<0->b9 (n.tmod (7:Int)+7)/\(n.tmod (7:Int)+7=0->Q (6:Int))/\(¬n.tmod (7:Int)+7=0->b9 (n.tmod (7:Int)+7-1)/\Q (n.tmod (7:Int)+7-1)))/\(¬n.tmod (7:Int)<0->(n.tmod (7:Int)=0->Q (6:Int))/\(¬n.tmod (7:Int)=0->b9 (n.tmod (7:Int)-1)/\Q (n.tmod (7:Int)-1)))
theorem d8m {n:Int} {Q:Int->Prop}:@Eq Prop (Vrw n Q) (i6 (E:=Nra) (j7 Nra H0 c4k 2) (c4k 92) Tryz.f92 [.int .i64 n] [] [] 0 (m9 Nra [.int .i64] Q)):=by kernel_rfl
theorem e0t {n:Int} {Q:Int->Prop} (h:Vrw n Q):i6 (E:=Nra) (j7 Nra H0 c4k 2) (c4k 92) Tryz.f92 [.int .i64 n] [] [] 0 (m9 Nra [.int .i64] Q):=by rw [<- d8m]; exact h
theorem prw (n:Int)  : Vrw n (fun y0=>y0=wdS n):=by
 unfold Vrw wdS
 have h1:n.tmod 7=n % 7 ∨ n.tmod 7=n % 7-7/\n % 7≠0:=by
  have h1:=Int.tdiv_mul_add_tmod n 7
  have h5:n.tmod 7<7:=Int.tmod_lt_of_pos n (by decide)
  have h6:-7<n.tmod 7:=Int.lt_tmod_of_pos n (by decide)
  omega
 generalize n.tmod 7=r at h1 ⊢
 refine ⟨by decide,fun h=>⟨⟨by omega,by omega⟩,fun _=>by omega,fun _=>⟨⟨by omega,by omega⟩,by omega⟩⟩,fun h=>⟨fun _=>by omega,fun _=>⟨⟨by omega,by omega⟩,by omega⟩⟩⟩
def crw (a:List (SV U)):Option (Q1 U):=match a with | [.int .i64 n]=>some ⟨[],[],.int .i64 (wdS n)⟩ | _=>none
theorem d7z (args:List (SV U)) (q:Q1 U) (h:crw args=some q) (ho:l7 q.ob):l4 Nra 92 args ⟨q.ob,q.hy,q.v,[]⟩:=by
 unfold crw at h
 split at h
 . rename_i n
   cases h
   exact q8 b39 (j8 b39 p8 c4k 2) Tryz.func92 (k:=.int .i64) (x:=wdS n) trivial (e0t (prw n )) 0
 . cases h
noncomputable def Nrw:Env:=Nra.addL 92 crw
theorem b3h:k8 Nrw:=b39.addL Tryz.call92 d7z
end Go.Proofs.YtdjfeninmbpflaaGreat
end
section
namespace Go.Proofs.YtdjfeninmbpflaaGreat
open Go Go.Wk Go.Wl Go.Rx Go.Re 
attribute [local irreducible] i6
def c34:Nat->Ann:=fun | 42=>⟨16,fun _=>none,fun _=>none⟩ | _=>⟨0,fun _=>none,fun _=>none⟩
def Vrr (d:Dy) (Q:Bool->Prop):Prop :=
Q (decide ((1:Int)<=d.Date/\d.Date<=s9 d.Year d.Month))
theorem d2t {d:Dy} {Q:Bool->Prop}:@Eq Prop (Vrr d Q) (i6 (E:=Nrw) (j7 Nrw H0 c34 2) (c34 42) Tryz.f42 [.agg [.int .i64 d.Year,.int .i64 d.Month,.int .i64 d.Date]] [] [] 0 (m9 Nrw [.bool] Q)):=by kernel_rfl
theorem d2j {d:Dy} {Q:Bool->Prop} (h:Vrr d Q):i6 (E:=Nrw) (j7 Nrw H0 c34 2) (c34 42) Tryz.f42 [.agg [.int .i64 d.Year,.int .i64 d.Month,.int .i64 d.Date]] [] [] 0 (m9 Nrw [.bool] Q):=by rw [<- d2t]; exact h
theorem prr (d:Dy)  : Vrr d (fun y0=>y0=D1 d):=by
 unfold Vrr
 rfl
def e4g (d:Dy):Q1 U:=⟨[],[],blB (D1 d)⟩
def crr (a:List (SV U)):Option (Q1 U):=match a with | [.agg [.int .i64 d0,.int .i64 d1,.int .i64 d2]]=>some (e4g (⟨d0,d1,d2⟩)) | _=>none
theorem d9y (args:List (SV U)) (q:Q1 U) (h:crr args=some q) (ho:l7 q.ob):l4 Nrw 42 args ⟨q.ob,q.hy,q.v,[]⟩:=by
 unfold crr at h
 split at h
 . rename_i d0 d1 d2
   cases h
   exact q8 b3h (j8 b3h p8 c34 2) Tryz.func42 (k:=.bool) (x:=D1 (⟨d0,d1,d2⟩:Dy)) trivial (d2j (prr (⟨d0,d1,d2⟩) )) 0
 . cases h
noncomputable def Nrr:Env:=Nrw.addL 42 crr
theorem b4t:k8 Nrr:=b3h.addL Tryz.call42 d9y
end Go.Proofs.YtdjfeninmbpflaaGreat
end
section
namespace Go.Proofs.YtdjfeninmbpflaaGreat
open Go Go.Wk Go.Wl Go.Rx Go.Re 
attribute [local irreducible] i6
def c3w:Nat->Ann:=fun | 39=>⟨27,fun | 5=>some ⟨[1],[.slot 3 (.int .i64),.slot 4 (.int .i64)]⟩ | _=>none,fun _=>none⟩ | _=>⟨0,fun _=>none,fun _=>none⟩
def Vrn (d:Dy) (Q:Int->Prop):Prop :=
(¬D1 (Dy.mk d.Year d.Month d.Date)=true->Q (0:Int))/\(¬¬D1 (Dy.mk d.Year d.Month d.Date)=true->((1:Int)<=d.Year/\d.Year<=100000)/\b9 (j4 d.Year+d.Date)/\∃ (I:Int->Int->Prop),∃ (m:Int->Int->Nat),I (j4 d.Year+d.Date) (1:Int)/\∀ (x x_1:Int),I x x_1->(x_1<d.Month->b9 (x+s9 d.Year x_1)/\b9 (x_1+1)/\I (x+s9 d.Year x_1) (x_1+1)/\m (x+s9 d.Year x_1) (x_1+1)<m x x_1)/\(¬x_1<d.Month->Q x))
theorem d4j {d:Dy} {Q:Int->Prop}:@Eq Prop (Vrn d Q) (i6 (E:=Nrr) (j7 Nrr H0 c3w 2) (c3w 39) Tryz.f39 [.agg [.int .i64 d.Year,.int .i64 d.Month,.int .i64 d.Date]] [] [] 0 (m9 Nrr [.int .i64] Q)):=by kernel_rfl
theorem d1n {d:Dy} {Q:Int->Prop} (h:Vrn d Q):i6 (E:=Nrr) (j7 Nrr H0 c3w 2) (c3w 39) Tryz.f39 [.agg [.int .i64 d.Year,.int .i64 d.Month,.int .i64 d.Date]] [] [] 0 (m9 Nrr [.int .i64] Q):=by rw [<- d4j]; exact h
theorem prn (d:Dy)  : Vrn d (fun y0=>y0=p6 d):=by
 unfold Vrn
 have ed:(Dy.mk d.Year d.Month d.Date)=d:=rfl
 rw [ed]
 refine ⟨fun h=>by unfold p6; rw [if_neg (fun hr=>h (C5.2 hr))],fun h=>?_⟩
 have hr:w8 d:=C5.1 (Classical.not_not.1 h)
 obtain ⟨y0,y1,m0,m1,d0,d1⟩:=hr.ym
 obtain ⟨a0,a1⟩:=z6 (y:=d.Year) (by omega) (by omega)
 refine ⟨⟨y0,by omega⟩,⟨by omega,by omega⟩,fun x k=>1<=k/\k<=d.Month/\x=j4 d.Year+d.Date+D2 d.Year k,fun _ k=>(13-k).toNat,⟨Int.le_refl 1,m0,by rw [d04]; omega⟩,?_⟩
 rintro x k ⟨k0,k1,hx⟩
 refine ⟨fun hk=>?_,fun hk=>?_⟩
 . have hc:=a7f (y:=d.Year) k0 (by omega) y0 y1 (by omega)
   obtain ⟨c0,c1⟩:=a88 d.Year k
   obtain ⟨c2,c3⟩:=a88 d.Year (k+1)
   exact ⟨⟨by omega,by omega⟩,⟨by omega,by omega⟩,⟨by omega,by omega,by omega⟩,by dsimp only; omega⟩
 . have e:k=d.Month:=by omega
   subst e
   unfold p6 z7
   rw [if_pos hr]; omega
def e45 (d:Dy):Q1 U:=⟨[],[],.int .i64 (p6 d)⟩
def crn (a:List (SV U)):Option (Q1 U):=match a with | [.agg [.int .i64 d0,.int .i64 d1,.int .i64 d2]]=>some (e45 (⟨d0,d1,d2⟩)) | _=>none
theorem d7l (args:List (SV U)) (q:Q1 U) (h:crn args=some q) (ho:l7 q.ob):l4 Nrr 39 args ⟨q.ob,q.hy,q.v,[]⟩:=by
 unfold crn at h
 split at h
 . rename_i d0 d1 d2
   cases h
   exact q8 b4t (j8 b4t p8 c3w 2) Tryz.func39 (k:=.int .i64) (x:=p6 (⟨d0,d1,d2⟩:Dy)) trivial (d1n (prn (⟨d0,d1,d2⟩) )) 0
 . cases h
noncomputable def Nrn:Env:=Nrr.addL 39 crn
theorem b5f:k8 Nrn:=b4t.addL Tryz.call39 d7l
end Go.Proofs.YtdjfeninmbpflaaGreat
end
section
namespace Go.Proofs.YtdjfeninmbpflaaGreat
open Go Go.Wk Go.Wl Go.Rx Go.Re 
attribute [local irreducible] i6
def c3c:Nat->Ann:=fun | 88=>⟨12,fun _=>none,fun _=>none⟩ | _=>⟨0,fun _=>none,fun _=>none⟩
def Vrd (d:Dy) (Q:Int->Prop):Prop :=
(¬D1 (Dy.mk d.Year d.Month d.Date)=true->Q (0:Int))/\(¬¬D1 (Dy.mk d.Year d.Month d.Date)=true->((1:Int)<=d.Year/\d.Year<=100000)/\b9 (p6 (Dy.mk d.Year d.Month d.Date)-j4 d.Year)/\Q (p6 (Dy.mk d.Year d.Month d.Date)-j4 d.Year))
theorem d8n {d:Dy} {Q:Int->Prop}:@Eq Prop (Vrd d Q) (i6 (E:=Nrn) (j7 Nrn H0 c3c 2) (c3c 88) Tryz.f88 [.agg [.int .i64 d.Year,.int .i64 d.Month,.int .i64 d.Date]] [] [] 0 (m9 Nrn [.int .i64] Q)):=by kernel_rfl
theorem d3h {d:Dy} {Q:Int->Prop} (h:Vrd d Q):i6 (E:=Nrn) (j7 Nrn H0 c3c 2) (c3c 88) Tryz.f88 [.agg [.int .i64 d.Year,.int .i64 d.Month,.int .i64 d.Date]] [] [] 0 (m9 Nrn [.int .i64] Q):=by rw [<- d8n]; exact h
theorem prd (d:Dy)  : Vrd d (fun y0=>y0=ydS d):=by
 unfold Vrd
 have ed:(Dy.mk d.Year d.Month d.Date)=d:=rfl
 rw [ed]
 refine ⟨fun h=>by unfold ydS; rw [if_neg (fun hr=>h (C5.2 hr))],fun h=>?_⟩
 have hr:w8 d:=C5.1 (Classical.not_not.1 h)
 obtain ⟨y0,y1,m0,m1,d0,d1⟩:=hr.ym
 obtain ⟨a0,a1⟩:=z6 (y:=d.Year) (by omega) (by omega)
 obtain ⟨n0,n1⟩:=J6 hr
 unfold ydS p6
 rw [if_pos hr,if_pos hr]
 exact ⟨⟨y0,by omega⟩,⟨by omega,by omega⟩,rfl⟩
def e4t (d:Dy):Q1 U:=⟨[],[],.int .i64 (ydS d)⟩
def crd (a:List (SV U)):Option (Q1 U):=match a with | [.agg [.int .i64 d0,.int .i64 d1,.int .i64 d2]]=>some (e4t (⟨d0,d1,d2⟩)) | _=>none
theorem e1m (args:List (SV U)) (q:Q1 U) (h:crd args=some q) (ho:l7 q.ob):l4 Nrn 88 args ⟨q.ob,q.hy,q.v,[]⟩:=by
 unfold crd at h
 split at h
 . rename_i d0 d1 d2
   cases h
   exact q8 b5f (j8 b5f p8 c3c 2) Tryz.func88 (k:=.int .i64) (x:=ydS (⟨d0,d1,d2⟩:Dy)) trivial (d3h (prd (⟨d0,d1,d2⟩) )) 0
 . cases h
noncomputable def Nrd:Env:=Nrn.addL 88 crd
theorem b4c:k8 Nrd:=b5f.addL Tryz.call88 e1m
end Go.Proofs.YtdjfeninmbpflaaGreat
end
section
namespace Go.Proofs.YtdjfeninmbpflaaGreat
open Go Go.Wk Go.Wl Go.Rx Go.Re 
attribute [local irreducible] i6
def c3r:Nat->Ann:=fun | 109=>⟨8,fun _=>none,fun _=>none⟩ | _=>⟨0,fun _=>none,fun _=>none⟩
def Vrf (y:Int) (Q:Int->Prop):Prop :=
(y=0->Q (-365:Int))/\(¬y=0->(1:Int)<=y/\y<=100000/\b9 (j4 y+1)/\Q (j4 y+1))
theorem e16 {y:Int} {Q:Int->Prop}:@Eq Prop (Vrf y Q) (i6 (E:=Nrd) (j7 Nrd H0 c3r 2) (c3r 109) Tryz.f109 [.int .i64 y] [] [] 0 (m9 Nrd [.int .i64] Q)):=by kernel_rfl
theorem d4d {y:Int} {Q:Int->Prop} (h:Vrf y Q):i6 (E:=Nrd) (j7 Nrd H0 c3r 2) (c3r 109) Tryz.f109 [.int .i64 y] [] [] 0 (m9 Nrd [.int .i64] Q):=by rw [<- e16]; exact h
theorem prf (y:Int) (y0:0<=y) (y1:y<=10000):Vrf y (fun y0=>y0=j4 y+1):=by
 unfold Vrf
 obtain ⟨a0,a1⟩:=z6 y0 y1
 refine ⟨fun h=>by subst h; decide,fun h=>⟨by omega,by omega,⟨by omega,by omega⟩,rfl⟩⟩
def crf (a:List (SV U)):Option (Q1 U):=match a with | [.int .i64 y]=>some ⟨[0<=y,y<=10000],[],.int .i64 (j4 y+1)⟩ | _=>none
theorem d4p (args:List (SV U)) (q:Q1 U) (h:crf args=some q) (ho:l7 q.ob):l4 Nrd 109 args ⟨q.ob,q.hy,q.v,[]⟩:=by
 unfold crf at h
 split at h
 . rename_i y
   cases h
   exact q8 b4c (j8 b4c p8 c3r 2) Tryz.func109 (k:=.int .i64) (x:=j4 y+1) trivial (d4d (prf y ho.1 ho.2.1)) 0
 . cases h
noncomputable def Nrf:Env:=Nrd.addL 109 crf
theorem b3e:k8 Nrf:=b4c.addL Tryz.call109 d4p
end Go.Proofs.YtdjfeninmbpflaaGreat
end
section
namespace Go.Proofs.YtdjfeninmbpflaaGreat
open Go Go.Wk Go.Wl Go.Rx Go.Re 
attribute [local irreducible] i6
def c6s:Nat->Ann:=fun | 43=>⟨49,fun | 7=>some ⟨[2,3,4],[.own 4 [(.int .i64),(.int .i64),(.int .i64)]]⟩ | 4=>some ⟨[0,2],[.slot 3 (.int .i64)]⟩ | _=>none,fun _=>none⟩ | _=>⟨0,fun _=>none,fun _=>none⟩
def Vro (n:Int) (Q:Dy->Prop):Prop :=
(n<1 ∨ (3652059:Int)<n->Q (Dy.mk (0:Int) (0:Int) (0:Int)))/\(¬(n<1 ∨ (3652059:Int)<n)->b9 (n-1)/\(366:Int)≠0/\b9 ((n-1).tdiv (366:Int))/\b9 ((1:Int)+(n-1).tdiv (366:Int))/\∃ (I:Int->Prop),∃ (m:Int->Nat),I ((1:Int)+(n-1).tdiv (366:Int))/\∀ (x:Int),I x->b9 (x+1)/\(1:Int)<=x+1/\x+1<=100000/\(j4 (x+1)<n->b9 (x+1)/\I (x+1)/\m (x+1)<m x)/\(¬j4 (x+1)<n->(1:Int)<=x/\x<=100000/\b9 (n-j4 x)/\∃ (I:Int->Int->Int->Prop),∃ (m:Int->Int->Int->Nat),I x (1:Int) (n-j4 x)/\∀ (x_1 x_2 x_3:Int),I x_1 x_2 x_3->(s9 x x_2<x_3->b9 (x_3-s9 x x_2)/\b9 (x_2+1)/\I x_1 (x_2+1) (x_3-s9 x x_2)/\m x_1 (x_2+1) (x_3-s9 x x_2)<m x_1 x_2 x_3)/\(¬s9 x x_2<x_3->Q (Dy.mk x_1 x_2 x_3))))
theorem d4x {n:Int} {Q:Dy->Prop}:@Eq Prop (Vro n Q) (i6 (E:=Nrf) (j7 Nrf H0 c6s 2) (c6s 43) Tryz.f43 [.int .i64 n] [] [] 0 (m9 Nrf [.val 23] Q)):=by kernel_rfl
theorem d8j {n:Int} {Q:Dy->Prop} (h:Vro n Q):i6 (E:=Nrf) (j7 Nrf H0 c6s 2) (c6s 43) Tryz.f43 [.int .i64 n] [] [] 0 (m9 Nrf [.val 23] Q):=by rw [<- d4x]; exact h
set_option maxHeartbeats 2000000 in
theorem pro (n:Int)  : Vro n (fun y0=>y0=ofS n):=by
 unfold Vro
 refine ⟨fun h=>by unfold ofS; rw [if_pos h],fun h=>?_⟩
 have t:(n-1).tdiv 366=(n-1) / 366:=Int.tdiv_eq_ediv_of_nonneg (by omega)
 rw [t]
 have h366:=b8o (y:=1+(n-1) / 366) (by omega)
 refine ⟨⟨by omega,by omega⟩,by decide,⟨by omega,by omega⟩,⟨by omega,by omega⟩,fun y=>1<=y/\y<=9999/\j4 y<n,fun y=>(10000-y).toNat,⟨by omega,by omega,by omega⟩,?_⟩
 rintro y ⟨y0,y1,hy⟩
 obtain ⟨a0,a1⟩:=z6 (y:=y) (by omega) (by omega)
 have e4:j4 10000=3652059:=by decide
 refine ⟨⟨by omega,by omega⟩,by omega,by omega,fun h2=>⟨⟨by omega,by omega⟩,⟨by omega,?_,h2⟩,by dsimp only; omega⟩,fun h2=>⟨y0,by omega,⟨by omega,by omega⟩,fun y' m t=>y'=y/\1<=m/\m<=12/\t=n-j4 y-D2 y m/\1<=t,fun _ m _=>(13-m).toNat,⟨rfl,Int.le_refl 1,by decide,by rw [d04]; omega,by omega⟩,?_⟩⟩
 . by_cases e:y=9999
   . subst e
     have e5:j4 (9999+1)=3652059:=by decide
     omega
   . omega
 rintro y' m t ⟨rfl,m0,m1,ht,t0⟩
 have hs:=b10 y'
 have hg:=a3f y0 y1 m0 m1
 obtain ⟨c0,c1⟩:=a88 y' m
 refine ⟨fun h3=>?_,fun h3=>?_⟩
 . by_cases e:m=12
   . subst e
     rcases a0e y0 y1 m0 m1 with e2 | ⟨_,e2⟩
     . unfold D2 at e2; simp at e2; omega
     . omega
   . have hc:=a7f (y:=y') m0 (by omega) y0 y1 (by omega)
     exact ⟨⟨by omega,by omega⟩,⟨by omega,by omega⟩,⟨rfl,by omega,by omega,by omega,by omega⟩,by dsimp only; omega⟩
 . refine of_eq (d:=⟨y',m,t⟩) ⟨t0,show t<=s9 y' m by omega⟩ ?_ (by omega) (by omega)
   show j4 y'+D2 y' m+t=n
   omega
def cro (a:List (SV U)):Option (Q1 U):=match a with | [.int .i64 n]=>some ⟨[],[],.agg [.int .i64 (ofS n).Year,.int .i64 (ofS n).Month,.int .i64 (ofS n).Date]⟩ | _=>none
theorem d2n (args:List (SV U)) (q:Q1 U) (h:cro args=some q) (ho:l7 q.ob):l4 Nrf 43 args ⟨q.ob,q.hy,q.v,[]⟩:=by
 unfold cro at h
 split at h
 . rename_i n
   cases h
   exact q8 b3e (j8 b3e p8 c6s 2) Tryz.func43 (k:=.val 23) (x:=ofS n) ⟨_,_,rfl,rfl,rfl⟩ (d8j (pro n )) 0
 . cases h
noncomputable def Nro:Env:=Nrf.addL 43 cro
theorem d4c:k8 Nro:=b3e.addL Tryz.call43 d2n
end Go.Proofs.YtdjfeninmbpflaaGreat
end
section
namespace Go.Proofs.YtdjfeninmbpflaaGreat
open Go Go.Wk Go.Wl Go.Rx Go.Re 
noncomputable def a0i:Env:=Nro.addI 108 Tryz.f108
theorem a5u:k8 a0i:=d4c.addI Tryz.call108 Tryz.func108
end Go.Proofs.YtdjfeninmbpflaaGreat
end
section
namespace Go.Proofs.YtdjfeninmbpflaaGreat
open Go Go.Wk Go.Wl Go.Rx Go.Re 
attribute [local irreducible] i6
def c6t:Nat->Ann:=fun | 89=>⟨48,fun _=>none,fun _=>none⟩ | 108=>⟨14,fun _=>none,fun _=>none⟩ | _=>⟨0,fun _=>none,fun _=>none⟩
def Vrk (n:Int) (f:Int) (Q:Int->Int->Prop):Prop :=
(((n<1 ∨ (3652059:Int)<n) ∨ f<0) ∨ (6:Int)<f->Q (0:Int) (0:Int))/\(¬(((n<1 ∨ (3652059:Int)<n) ∨ f<0) ∨ (6:Int)<f)->b9 (wdS n-f)/\b9 (wdS n-f+7)/\(7:Int)≠0/\b9 (n-(wdS n-f+7).tmod (7:Int))/\b9 (n-(wdS n-f+7).tmod (7:Int)+3)/\(0:Int)<=(ofS n).Year/\(ofS n).Year<=10000/\(n-(wdS n-f+7).tmod (7:Int)+3<j4 (ofS n).Year+1->b9 ((ofS n).Year-1)/\b9 ((ofS n).Year-1+1)/\(0:Int)<=(ofS n).Year-1+1/\(ofS n).Year-1+1<=10000/\(j4 ((ofS n).Year-1+1)+1<=n-(wdS n-f+7).tmod (7:Int)+3->b9 ((ofS n).Year-1+1)/\(0:Int)<=(ofS n).Year-1+1/\(ofS n).Year-1+1<=10000/\b9 (n-(wdS n-f+7).tmod (7:Int)+3-(j4 ((ofS n).Year-1+1)+1))/\(7:Int)≠0/\b9 ((n-(wdS n-f+7).tmod (7:Int)+3-(j4 ((ofS n).Year-1+1)+1)).tdiv (7:Int))/\b9 ((n-(wdS n-f+7).tmod (7:Int)+3-(j4 ((ofS n).Year-1+1)+1)).tdiv (7:Int)+1)/\Q ((ofS n).Year-1+1) ((n-(wdS n-f+7).tmod (7:Int)+3-(j4 ((ofS n).Year-1+1)+1)).tdiv (7:Int)+1))/\(¬j4 ((ofS n).Year-1+1)+1<=n-(wdS n-f+7).tmod (7:Int)+3->(0:Int)<=(ofS n).Year-1/\(ofS n).Year-1<=10000/\b9 (n-(wdS n-f+7).tmod (7:Int)+3-(j4 ((ofS n).Year-1)+1))/\(7:Int)≠0/\b9 ((n-(wdS n-f+7).tmod (7:Int)+3-(j4 ((ofS n).Year-1)+1)).tdiv (7:Int))/\b9 ((n-(wdS n-f+7).tmod (7:Int)+3-(j4 ((ofS n).Year-1)+1)).tdiv (7:Int)+1)/\Q ((ofS n).Year-1) ((n-(wdS n-f+7).tmod (7:Int)+3-(j4 ((ofS n).Year-1)+1)).tdiv (7:Int)+1)))/\(¬n-(wdS n-f+7).tmod (7:Int)+3<j4 (ofS n).Year+1->b9 ((ofS n).Year+1)/\(0:Int)<=(ofS n).Year+1/\(ofS n).Year+1<=10000/\(j4 ((ofS n).Year+1)+1<=n-(wdS n-f+7).tmod (7:Int)+3->b9 ((ofS n).Year+1)/\(0:Int)<=(ofS n).Year+1/\(ofS n).Year+1<=10000/\b9 (n-(wdS n-f+7).tmod (7:Int)+3-(j4 ((ofS n).Year+1)+1))/\(7:Int)≠0/\b9 ((n-(wdS n-f+7).tmod (7:Int)+3-(j4 ((ofS n).Year+1)+1)).tdiv (7:Int))/\b9 ((n-(wdS n-f+7).tmod (7:Int)+3-(j4 ((ofS n).Year+1)+1)).tdiv (7:Int)+1)/\Q ((ofS n).Year+1) ((n-(wdS n-f+7).tmod (7:Int)+3-(j4 ((ofS n).Year+1)+1)).tdiv (7:Int)+1))/\(¬j4 ((ofS n).Year+1)+1<=n-(wdS n-f+7).tmod (7:Int)+3->(0:Int)<=(ofS n).Year/\(ofS n).Year<=10000/\b9 (n-(wdS n-f+7).tmod (7:Int)+3-(j4 (ofS n).Year+1))/\(7:Int)≠0/\b9 ((n-(wdS n-f+7).tmod (7:Int)+3-(j4 (ofS n).Year+1)).tdiv (7:Int))/\b9 ((n-(wdS n-f+7).tmod (7:Int)+3-(j4 (ofS n).Year+1)).tdiv (7:Int)+1)/\Q (ofS n).Year ((n-(wdS n-f+7).tmod (7:Int)+3-(j4 (ofS n).Year+1)).tdiv (7:Int)+1))))
theorem e0i {n:Int} {f:Int} {Q:Int->Int->Prop}:@Eq Prop (Vrk n f Q) (i6 (E:=a0i) (j7 a0i H0 c6t 2) (c6t 89) Tryz.f89 [.int .i64 n,.int .i64 f] [] [] 0 (m9 a0i [.int .i64,.int .i64] Q)):=by kernel_rfl
theorem d4f {n:Int} {f:Int} {Q:Int->Int->Prop} (h:Vrk n f Q):i6 (E:=a0i) (j7 a0i H0 c6t 2) (c6t 89) Tryz.f89 [.int .i64 n,.int .i64 f] [] [] 0 (m9 a0i [.int .i64,.int .i64] Q):=by rw [<- e0i]; exact h
set_option maxHeartbeats 2000000 in
theorem prk (n:Int) (f:Int)  : Vrk n f (fun y0 y1=>y0=(A7 n f).1/\y1=(A7 n f).2):=by
 unfold Vrk A7
 refine ⟨fun h=>by rw [if_pos h]; exact ⟨rfl,rfl⟩,fun h=>?_⟩
 rw [if_neg h]
 obtain ⟨hr,hn⟩:=N1 (n:=n) (by omega) (by omega)
 obtain ⟨y0,y1,_⟩:=hr.ym
 have hi:=R5 hr
 rw [hn] at hi
 unfold wkY
 generalize (ofS n).Year=y at *
 have f0:0<=f:=by omega
 have f1:f<=6:=by omega
 obtain ⟨u1,v1⟩:=a95 n (y+1) f0 f1
 obtain ⟨u2,v2⟩:=a95 n y f0 f1
 obtain ⟨u3,v3⟩:=a95 n (y-1) f0 f1
 obtain ⟨q0,q1⟩:=J4 (y+1) f
 obtain ⟨q2,q3⟩:=J4 y f
 obtain ⟨q4,q5⟩:=J4 (y-1) f
 obtain ⟨r0,r1⟩:=z6 (y:=y+1) (by omega) (by omega)
 obtain ⟨r2,r3⟩:=z6 (y:=y) (by omega) (by omega)
 obtain ⟨r4,r5⟩:=z6 (y:=y-1) (by omega) (by omega)
 have hs:=H4 (y-1)
 have hs3:=H4 y
 have ey:y-1+1=y:=by omega
 rw [ey] at hs ⊢
 have hs2:j4 (y-1)+365<=j4 y:=by split at hs <;> omega
 have hs4:j4 y+365<=j4 (y+1):=by split at hs3 <;> omega
 have w0:0<=wdS n/\wdS n<=6:=by unfold wdS; omega
 have tt:(wdS n-f+7).tmod 7=(wdS n-f+7) % 7:=Int.tmod_eq_emod_of_nonneg (by omega)
 rw [tt]
 have hm:0<=(wdS n-f+7) % 7/\(wdS n-f+7) % 7<=6:=by omega
 generalize (wdS n-f+7) % 7=r at *
 refine ⟨⟨by omega,by omega⟩,⟨by omega,by omega⟩,by decide,⟨by omega,by omega⟩,⟨by omega,by omega⟩,by omega,by omega,fun h1=>?_,fun h1=>?_⟩
 . refine ⟨⟨by omega,by omega⟩,⟨by omega,by omega⟩,by omega,by omega,fun h2=>absurd h2 (by omega),fun _=>?_⟩
   have c1:¬ v8 (y+1) f<=n:=by omega
   have c2:n<v8 y f:=by omega
   have c3:v8 (y-1) f<=n:=by omega
   have t:(n-r+3-(j4 (y-1)+1)).tdiv 7=(n-r+3-(j4 (y-1)+1)) / 7:=Int.tdiv_eq_ediv_of_nonneg (by omega)
   rw [if_neg c1,if_pos c2,t,v3 c3]
   exact ⟨by omega,by omega,⟨by omega,by omega⟩,by decide,⟨by omega,by omega⟩,⟨by omega,by omega⟩,rfl,rfl⟩
 . refine ⟨⟨by omega,by omega⟩,by omega,by omega,fun h2=>?_,fun h2=>?_⟩
   . have c1:v8 (y+1) f<=n:=by omega
     have t:(n-r+3-(j4 (y+1)+1)).tdiv 7=(n-r+3-(j4 (y+1)+1)) / 7:=Int.tdiv_eq_ediv_of_nonneg (by omega)
     rw [if_pos c1,t,v1 c1]
     exact ⟨⟨by omega,by omega⟩,by omega,by omega,⟨by omega,by omega⟩,by decide,⟨by omega,by omega⟩,⟨by omega,by omega⟩,rfl,rfl⟩
   . have c1:¬ v8 (y+1) f<=n:=by omega
     have c2:¬ n<v8 y f:=by omega
     have t:(n-r+3-(j4 y+1)).tdiv 7=(n-r+3-(j4 y+1)) / 7:=Int.tdiv_eq_ediv_of_nonneg (by omega)
     rw [if_neg c1,if_neg c2,t,v2 (by omega)]
     exact ⟨by omega,by omega,⟨by omega,by omega⟩,by decide,⟨by omega,by omega⟩,⟨by omega,by omega⟩,rfl,rfl⟩
def crk (a:List (SV U)):Option (Q1 U):=match a with | [.int .i64 n,.int .i64 f]=>some ⟨[],[],.tup [.int .i64 ((A7 n f).1),.int .i64 ((A7 n f).2)]⟩ | _=>none
theorem d2b (args:List (SV U)) (q:Q1 U) (h:crk args=some q) (ho:l7 q.ob):l4 a0i 89 args ⟨q.ob,q.hy,q.v,[]⟩:=by
 unfold crk at h
 split at h
 . rename_i n f
   cases h
   exact d0e a5u (j8 a5u p8 c6t 2) Tryz.func89 (k1:=.int .i64) (k2:=.int .i64) (x1:=(A7 n f).1) (x2:=(A7 n f).2) trivial trivial (d4f (prk n f )) 0
 . cases h
noncomputable def Nrk:Env:=a0i.addL 89 crk
theorem b3b:k8 Nrk:=a5u.addL Tryz.call89 d2b
end Go.Proofs.YtdjfeninmbpflaaGreat
end
section
namespace Go.Proofs.YtdjfeninmbpflaaGreat
open Go Go.Wk Go.Wl Go.Rx Go.Re 
attribute [local irreducible] i6
def c5u:Nat->Ann:=fun | 90=>⟨40,fun | 5=>some ⟨[0,1],[.slot 5 (.int .i64),.slot 6 (.int .i64)]⟩ | _=>none,fun _=>none⟩ | _=>⟨0,fun _=>none,fun _=>none⟩
def Vrm (y:Int) (f:Int) (Q:Int->Prop):Prop :=
(((y<1 ∨ (9999:Int)<y) ∨ f<0) ∨ (6:Int)<f->Q (0:Int))/\(¬(((y<1 ∨ (9999:Int)<y) ∨ f<0) ∨ (6:Int)<f)->(0:Int)<=y/\y<=10000/\∃ (I:Int->Int->Prop),∃ (m:Int->Int->Nat),I (0:Int) (j4 y+1)/\∀ (x x_1:Int),I x x_1->b9 (y+1)/\(0:Int)<=y+1/\y+1<=10000/\(x_1<j4 (y+1)+1->b9 (wdS x_1-f)/\b9 (wdS x_1-f+7)/\(7:Int)≠0/\((wdS x_1-f+7).tmod (7:Int)=3->b9 (x+1)/\b9 (x_1+1)/\I (x+1) (x_1+1)/\m (x+1) (x_1+1)<m x x_1)/\(¬(wdS x_1-f+7).tmod (7:Int)=3->b9 (x_1+1)/\I x (x_1+1)/\m x (x_1+1)<m x x_1))/\(¬x_1<j4 (y+1)+1->Q x))
theorem d9v {y:Int} {f:Int} {Q:Int->Prop}:@Eq Prop (Vrm y f Q) (i6 (E:=Nrk) (j7 Nrk H0 c5u 2) (c5u 90) Tryz.f90 [.int .i64 y,.int .i64 f] [] [] 0 (m9 Nrk [.int .i64] Q)):=by kernel_rfl
theorem d7f {y:Int} {f:Int} {Q:Int->Prop} (h:Vrm y f Q):i6 (E:=Nrk) (j7 Nrk H0 c5u 2) (c5u 90) Tryz.f90 [.int .i64 y,.int .i64 f] [] [] 0 (m9 Nrk [.int .i64] Q):=by rw [<- d9v]; exact h
set_option maxHeartbeats 2000000 in
theorem prm (y:Int) (f:Int)  : Vrm y f (fun y0=>y0=E8 y f):=by
 unfold Vrm E8
 refine ⟨fun h=>by rw [if_pos h],fun h=>?_⟩
 rw [if_neg h]
 have f0:0<=f:=by omega
 have f1:f<=6:=by omega
 obtain ⟨r0,r1⟩:=z6 (y:=y+1) (by omega) (by omega)
 obtain ⟨r2,r3⟩:=z6 (y:=y) (by omega) (by omega)
 obtain ⟨q2,q3⟩:=J4 y f
 obtain ⟨e1,e2⟩:=b8v y f0 f1
 have hm:=v7 (show y<=y+1 by omega)
 refine ⟨by omega,by omega,fun c x=>j4 y+1<=x/\x<=j4 (y+1)+1/\c=(x-v8 y f+3) / 7,fun _ x=>(j4 (y+1)+1-x).toNat,⟨Int.le_refl _,by omega,e2.symm⟩,?_⟩
 rintro c x ⟨x0,x1,hc⟩
 have hs:=b4x y x f0 f1
 have w0:0<=wdS x/\wdS x<=6:=by unfold wdS; omega
 have tt:(wdS x-f+7).tmod 7=(wdS x-f+7) % 7:=Int.tmod_eq_emod_of_nonneg (by omega)
 rw [tt]
 refine ⟨⟨by omega,by omega⟩,by omega,by omega,fun hx=>⟨⟨by omega,by omega⟩,⟨by omega,by omega⟩,by decide,fun h3=>?_,fun h3=>?_⟩,fun hx=>?_⟩
 . rw [if_pos h3] at hs
   exact ⟨⟨by omega,by omega⟩,⟨by omega,by omega⟩,⟨by omega,by omega,by omega⟩,by dsimp only; omega⟩
 . rw [if_neg h3] at hs
   exact ⟨⟨by omega,by omega⟩,⟨by omega,by omega,by omega⟩,by dsimp only; omega⟩
 . have e:x=j4 (y+1)+1:=by omega
   rw [hc,e,e1]
def crm (a:List (SV U)):Option (Q1 U):=match a with | [.int .i64 y,.int .i64 f]=>some ⟨[],[],.int .i64 (E8 y f)⟩ | _=>none
theorem d8r (args:List (SV U)) (q:Q1 U) (h:crm args=some q) (ho:l7 q.ob):l4 Nrk 90 args ⟨q.ob,q.hy,q.v,[]⟩:=by
 unfold crm at h
 split at h
 . rename_i y f
   cases h
   exact q8 b3b (j8 b3b p8 c5u 2) Tryz.func90 (k:=.int .i64) (x:=E8 y f) trivial (d7f (prm y f )) 0
 . cases h
noncomputable def Nrm:Env:=Nrk.addL 90 crm
theorem d5f:k8 Nrm:=b3b.addL Tryz.call90 d8r
end Go.Proofs.YtdjfeninmbpflaaGreat
end
section
namespace Go.Proofs.YtdjfeninmbpflaaGreat
open Go Go.Wk Go.Wl Go.Rx Go.Re 
noncomputable def a6d:Env:=Nrm.addI 41 Tryz.f41
theorem a90:k8 a6d:=d5f.addI Tryz.call41 Tryz.func41
end Go.Proofs.YtdjfeninmbpflaaGreat
end
section
namespace Go.Proofs.YtdjfeninmbpflaaGreat
open Go Go.Wk Go.Wl Go.Rx Go.Re 
attribute [local irreducible] i6
def c2w:Nat->Ann:=fun | 19=>⟨50,fun _=>none,fun _=>none⟩ | 41=>⟨12,fun _=>none,fun _=>none⟩ | _=>⟨0,fun _=>none,fun _=>none⟩
def Vtr (t:Tm) (Q:Bool->Prop):Prop :=
((0:Int)<=t.Hour/\t.Hour<=23->((0:Int)<=t.Min/\t.Min<=59->Q (decide ((D1 (Dy.mk t.Day.Year t.Day.Month t.Day.Date)=true/\(0:Int)<=t.Sec/\t.Sec<=59)/\(¬t.Bare=true ∨ ((t.Hour=0/\t.Min=0)/\t.Sec=0)/\¬t.UTC=true))))/\(¬((0:Int)<=t.Min/\t.Min<=59)->Q (decide ((D1 (Dy.mk t.Day.Year t.Day.Month t.Day.Date)=true/\False)/\(¬t.Bare=true ∨ ((t.Hour=0/\t.Min=0)/\t.Sec=0)/\¬t.UTC=true)))))/\(¬((0:Int)<=t.Hour/\t.Hour<=23)->Q (decide ((D1 (Dy.mk t.Day.Year t.Day.Month t.Day.Date)=true/\False)/\(¬t.Bare=true ∨ ((t.Hour=0/\t.Min=0)/\t.Sec=0)/\¬t.UTC=true))))
theorem d6e {t:Tm} {Q:Bool->Prop}:@Eq Prop (Vtr t Q) (i6 (E:=a6d) (j7 a6d H0 c2w 2) (c2w 19) Tryz.f19 [.agg [.int .i64 t.Day.Year,.int .i64 t.Day.Month,.int .i64 t.Day.Date,.int .i64 t.Hour,.int .i64 t.Min,.int .i64 t.Sec,blB t.Bare,blB t.UTC]] [] [] 0 (m9 a6d [.bool] Q)):=by kernel_rfl
theorem d0y {t:Tm} {Q:Bool->Prop} (h:Vtr t Q):i6 (E:=a6d) (j7 a6d H0 c2w 2) (c2w 19) Tryz.f19 [.agg [.int .i64 t.Day.Year,.int .i64 t.Day.Month,.int .i64 t.Day.Date,.int .i64 t.Hour,.int .i64 t.Min,.int .i64 t.Sec,blB t.Bare,blB t.UTC]] [] [] 0 (m9 a6d [.bool] Q):=by rw [<- d6e]; exact h
theorem ptr (t:Tm)  : Vtr t (fun y0=>y0=l9 t):=by
 unfold Vtr
 have e:(Dy.mk t.Day.Year t.Day.Month t.Day.Date)=t.Day:=rfl
 rw [e]
 have hb:(¬t.Bare=true ∨ ((t.Hour=0/\t.Min=0)/\t.Sec=0)/\¬t.UTC=true)↔¬ (t.Bare=true/\(((t.Hour≠0 ∨ t.Min≠0) ∨ t.Sec≠0) ∨ t.UTC=true)):=by
  by_cases b1:t.Bare=true <;> by_cases b2:t.UTC=true <;> simp [b1,b2] <;> omega
 refine ⟨fun hh=>⟨fun hm=>decide_eq_decide.2 ?_,fun hm=>decide_eq_decide.2 ?_⟩,fun hh=>decide_eq_decide.2 ?_⟩
 . rw [hb,C5]
   exact ⟨fun h=>⟨h.1.1,hh,hm,h.1.2,h.2⟩,fun h=>⟨⟨h.1,h.2.2.2.1⟩,h.2.2.2.2⟩⟩
 . exact ⟨fun h=>h.1.2.elim,fun h=>absurd h.2.2.1 hm⟩
 . exact ⟨fun h=>h.1.2.elim,fun h=>absurd h.2.1 hh⟩
noncomputable def e4c (t:Tm):Q1 U:=⟨[],[],blB (l9 t)⟩
noncomputable def ctr (a:List (SV U)):Option (Q1 U):=match a with | [.agg l_t]=>(y25.bk (.agg l_t)).bind fun t=>some (e4c t) | _=>none
theorem d1i (args:List (SV U)) (q:Q1 U) (h:ctr args=some q) (ho:l7 q.ob):l4 a6d 19 args ⟨q.ob,q.hy,q.v,[]⟩:=by
 unfold ctr at h
 split at h
 . rename_i l_t
   obtain ⟨t,hb_t,h⟩:=Option.bind_eq_some_iff.1 h
   cases h
   refine l4.conv (E:=a6d) (args':=[.agg [.int .i64 t.Day.Year,.int .i64 t.Day.Month,.int .i64 t.Day.Date,.int .i64 t.Hour,.int .i64 t.Min,.int .i64 t.Sec,blB t.Bare,blB t.UTC]]) (q8 a90 (j8 a90 p8 c2w 2) Tryz.func19 (k:=.bool) trivial (d0y (ptr t )) 0) fun D w vs hr=>w5 [.agg l_t] [.agg [.int .i64 t.Day.Year,.int .i64 t.Day.Month,.int .i64 t.Day.Date,.int .i64 t.Hour,.int .i64 t.Min,.int .i64 t.Sec,blB t.Bare,blB t.UTC]] _ ⟨fun _ h=>v6 hb_t h,trivial⟩ hr
 . cases h
noncomputable def Ntr:Env:=a6d.addL 19 ctr
theorem b5o:k8 Ntr:=a90.addL Tryz.call19 d1i
end Go.Proofs.YtdjfeninmbpflaaGreat
end
section
namespace Go.Proofs.YtdjfeninmbpflaaGreat
open Go Go.Wk Go.Wl Go.Rx Go.Re 
attribute [local irreducible] i6
def c49:Nat->Ann:=fun | 17=>⟨22,fun _=>none,fun _=>none⟩ | _=>⟨0,fun _=>none,fun _=>none⟩
def Vts (t:Tm) (Q:Int->Prop):Prop :=
(¬l9 (Tm.mk (Dy.mk t.Day.Year t.Day.Month t.Day.Date) t.Hour t.Min t.Sec (decide (t.Bare=true)) (decide (t.UTC=true)))=true->Q (-1:Int))/\(¬¬l9 (Tm.mk (Dy.mk t.Day.Year t.Day.Month t.Day.Date) t.Hour t.Min t.Sec (decide (t.Bare=true)) (decide (t.UTC=true)))=true->b9 (p6 (Dy.mk t.Day.Year t.Day.Month t.Day.Date)-1)/\b9 ((86400:Int) * (p6 (Dy.mk t.Day.Year t.Day.Month t.Day.Date)-1))/\b9 ((3600:Int) * t.Hour)/\b9 ((86400:Int) * (p6 (Dy.mk t.Day.Year t.Day.Month t.Day.Date)-1)+3600 * t.Hour)/\b9 ((60:Int) * t.Min)/\b9 ((86400:Int) * (p6 (Dy.mk t.Day.Year t.Day.Month t.Day.Date)-1)+3600 * t.Hour+60 * t.Min)/\b9 ((86400:Int) * (p6 (Dy.mk t.Day.Year t.Day.Month t.Day.Date)-1)+3600 * t.Hour+60 * t.Min+t.Sec)/\Q ((86400:Int) * (p6 (Dy.mk t.Day.Year t.Day.Month t.Day.Date)-1)+3600 * t.Hour+60 * t.Min+t.Sec))
theorem d4i {t:Tm} {Q:Int->Prop}:@Eq Prop (Vts t Q) (i6 (E:=Ntr) (j7 Ntr H0 c49 2) (c49 17) Tryz.f17 [.agg [.int .i64 t.Day.Year,.int .i64 t.Day.Month,.int .i64 t.Day.Date,.int .i64 t.Hour,.int .i64 t.Min,.int .i64 t.Sec,blB t.Bare,blB t.UTC]] [] [] 0 (m9 Ntr [.int .i64] Q)):=by kernel_rfl
theorem d4k {t:Tm} {Q:Int->Prop} (h:Vts t Q):i6 (E:=Ntr) (j7 Ntr H0 c49 2) (c49 17) Tryz.f17 [.agg [.int .i64 t.Day.Year,.int .i64 t.Day.Month,.int .i64 t.Day.Date,.int .i64 t.Hour,.int .i64 t.Min,.int .i64 t.Sec,blB t.Bare,blB t.UTC]] [] [] 0 (m9 Ntr [.int .i64] Q):=by rw [<- d4i]; exact h
theorem pts (t:Tm)  : Vts t (fun y0=>y0=b8 t):=by
 unfold Vts b8
 simp only [Bool.decide_eq_true]
 refine ⟨fun h=>by rw [if_neg (fun hr=>h (o7.2 hr))],fun h=>?_⟩
 have hr:O0 t:=o7.1 (Classical.not_not.1 h)
 have hrg:=a5q hr
 rw [if_pos hr]
 obtain ⟨hd,hh,hm,hs,_⟩:=hr
 obtain ⟨n0,n1⟩:=J6 hd
 have en:p6 (Dy.mk t.Day.Year t.Day.Month t.Day.Date)=z7 t.Day:=by
  show p6 t.Day=z7 t.Day
  unfold p6; rw [if_pos hd]
 rw [en]
 unfold E2 at *
 exact ⟨⟨by omega,by omega⟩,⟨by omega,by omega⟩,⟨by omega,by omega⟩,⟨by omega,by omega⟩,⟨by omega,by omega⟩,⟨by omega,by omega⟩,⟨by omega,by omega⟩,by omega⟩
noncomputable def e41 (t:Tm):Q1 U:=⟨[],[],.int .i64 (b8 t)⟩
noncomputable def cts (a:List (SV U)):Option (Q1 U):=match a with | [.agg l_t]=>(y25.bk (.agg l_t)).bind fun t=>some (e41 t) | _=>none
theorem d3z (args:List (SV U)) (q:Q1 U) (h:cts args=some q) (ho:l7 q.ob):l4 Ntr 17 args ⟨q.ob,q.hy,q.v,[]⟩:=by
 unfold cts at h
 split at h
 . rename_i l_t
   obtain ⟨t,hb_t,h⟩:=Option.bind_eq_some_iff.1 h
   cases h
   refine l4.conv (E:=Ntr) (args':=[.agg [.int .i64 t.Day.Year,.int .i64 t.Day.Month,.int .i64 t.Day.Date,.int .i64 t.Hour,.int .i64 t.Min,.int .i64 t.Sec,blB t.Bare,blB t.UTC]]) (q8 b5o (j8 b5o p8 c49 2) Tryz.func17 (k:=.int .i64) trivial (d4k (pts t )) 0) fun D w vs hr=>w5 [.agg l_t] [.agg [.int .i64 t.Day.Year,.int .i64 t.Day.Month,.int .i64 t.Day.Date,.int .i64 t.Hour,.int .i64 t.Min,.int .i64 t.Sec,blB t.Bare,blB t.UTC]] _ ⟨fun _ h=>v6 hb_t h,trivial⟩ hr
 . cases h
noncomputable def Nts:Env:=Ntr.addL 17 cts
theorem b6b:k8 Nts:=b5o.addL Tryz.call17 d3z
end Go.Proofs.YtdjfeninmbpflaaGreat
end
section
namespace Go.Proofs.YtdjfeninmbpflaaGreat
open Go Go.Wk Go.Wl Go.Rx Go.Re 
attribute [local irreducible] i6
def c29:Nat->Ann:=fun | 20=>⟨35,fun _=>none,fun _=>none⟩ | _=>⟨0,fun _=>none,fun _=>none⟩
def Vta (n:Int) (t:Tm) (Q:Tm->Prop):Prop :=
(n<0 ∨ (315537897600:Int)<=n->Q (Tm.mk (Dy.mk (0:Int) (0:Int) (0:Int)) (0:Int) (0:Int) (0:Int) false false))/\(¬(n<0 ∨ (315537897600:Int)<=n)->((86400:Int)≠0/\b9 (n.tdiv (86400:Int)))/\b9 (n.tdiv (86400:Int)+1)/\(86400:Int)≠0/\((3600:Int)≠0/\b9 ((n.tmod (86400:Int)).tdiv (3600:Int)))/\(3600:Int)≠0/\((60:Int)≠0/\b9 ((n.tmod (3600:Int)).tdiv (60:Int)))/\(60:Int)≠0/\(¬l9 (Tm.mk (Dy.mk (ofS (n.tdiv (86400:Int)+1)).Year (ofS (n.tdiv (86400:Int)+1)).Month (ofS (n.tdiv (86400:Int)+1)).Date) ((n.tmod (86400:Int)).tdiv (3600:Int)) ((n.tmod (3600:Int)).tdiv (60:Int)) (n.tmod (60:Int)) (decide (t.Bare=true)) (decide (t.UTC=true)))=true->Q (Tm.mk (Dy.mk (0:Int) (0:Int) (0:Int)) (0:Int) (0:Int) (0:Int) false false))/\(¬¬l9 (Tm.mk (Dy.mk (ofS (n.tdiv (86400:Int)+1)).Year (ofS (n.tdiv (86400:Int)+1)).Month (ofS (n.tdiv (86400:Int)+1)).Date) ((n.tmod (86400:Int)).tdiv (3600:Int)) ((n.tmod (3600:Int)).tdiv (60:Int)) (n.tmod (60:Int)) (decide (t.Bare=true)) (decide (t.UTC=true)))=true->Q (Tm.mk (Dy.mk (ofS (n.tdiv (86400:Int)+1)).Year (ofS (n.tdiv (86400:Int)+1)).Month (ofS (n.tdiv (86400:Int)+1)).Date) ((n.tmod (86400:Int)).tdiv (3600:Int)) ((n.tmod (3600:Int)).tdiv (60:Int)) (n.tmod (60:Int)) (decide (t.Bare=true)) (decide (t.UTC=true)))))
theorem d7n {n:Int} {t:Tm} {Q:Tm->Prop}:@Eq Prop (Vta n t Q) (i6 (E:=Nts) (j7 Nts H0 c29 2) (c29 20) Tryz.f20 [.int .i64 n,.agg [.int .i64 t.Day.Year,.int .i64 t.Day.Month,.int .i64 t.Day.Date,.int .i64 t.Hour,.int .i64 t.Min,.int .i64 t.Sec,blB t.Bare,blB t.UTC]] [] [] 0 (m9 Nts [.val 25] Q)):=by kernel_rfl
theorem d9g {n:Int} {t:Tm} {Q:Tm->Prop} (h:Vta n t Q):i6 (E:=Nts) (j7 Nts H0 c29 2) (c29 20) Tryz.f20 [.int .i64 n,.agg [.int .i64 t.Day.Year,.int .i64 t.Day.Month,.int .i64 t.Day.Date,.int .i64 t.Hour,.int .i64 t.Min,.int .i64 t.Sec,blB t.Bare,blB t.UTC]] [] [] 0 (m9 Nts [.val 25] Q):=by rw [<- d7n]; exact h
set_option maxHeartbeats 2000000 in
theorem pta (n:Int) (t:Tm)  : Vta n t (fun y0=>y0=atS n t):=by
 unfold Vta
 simp only [Bool.decide_eq_true]
 refine ⟨fun h=>?_,fun h=>?_⟩
 . unfold atS
   by_cases h0:n<0
   . rw [if_pos (.inl h0)]
   . rw [if_pos (.inr (.inr (by omega)))]
 . have e1:n.tdiv 86400=n / 86400:=Int.tdiv_eq_ediv_of_nonneg (by omega)
   have e2:n.tmod 86400=n % 86400:=Int.tmod_eq_emod_of_nonneg (by omega)
   have e3:(n % 86400).tdiv 3600=n % 86400 / 3600:=Int.tdiv_eq_ediv_of_nonneg (by omega)
   have e4:n.tmod 3600=n % 3600:=Int.tmod_eq_emod_of_nonneg (by omega)
   have e5:(n % 3600).tdiv 60=n % 86400 / 60 % 60:=by rw [Int.tdiv_eq_ediv_of_nonneg (by omega)]; omega
   have e6:n.tmod 60=n % 86400 % 60:=by rw [Int.tmod_eq_emod_of_nonneg (by omega)]; omega
   rw [e1,e2,e3,e4,e5,e6]
   have eD:(Dy.mk (ofS (n / 86400+1)).Year (ofS (n / 86400+1)).Month (ofS (n / 86400+1)).Date)=ofS (n / 86400+1):=rfl
   rw [eD]
   obtain ⟨hr,_⟩:=N1 (n:=n / 86400+1) (by omega) (by omega)
   have hR:l9 ⟨ofS (n / 86400+1),n % 86400 / 3600,n % 86400 / 60 % 60,n % 86400 % 60,t.Bare,t.UTC⟩=true↔¬ (t.Bare=true/\(t.UTC=true ∨ n % 86400≠0)):=by
    rw [o7]
    constructor
    . rintro ⟨_,_,_,_,hb⟩ ⟨b1,b2⟩
      refine hb ⟨b1,?_⟩
      rcases b2 with b2 | b2
      . exact .inr b2
      . left
        show (n % 86400 / 3600≠0 ∨ n % 86400 / 60 % 60≠0) ∨ n % 86400 % 60≠0
        omega
    . intro hb
      refine ⟨hr,⟨by show 0<=n % 86400 / 3600; omega,by show n % 86400 / 3600<=23; omega⟩,⟨by show 0<=n % 86400 / 60 % 60; omega,by show n % 86400 / 60 % 60<=59; omega⟩,⟨by show 0<=n % 86400 % 60; omega,by show n % 86400 % 60<=59; omega⟩,?_⟩
      rintro ⟨b1,b2⟩
      refine hb ⟨b1,?_⟩
      rcases b2 with b2 | b2
      . right
        have b2:(n % 86400 / 3600≠0 ∨ n % 86400 / 60 % 60≠0) ∨ n % 86400 % 60≠0:=b2
        omega
      . exact .inl b2
   refine ⟨⟨by decide,by omega,by omega⟩,⟨by omega,by omega⟩,by decide,⟨by decide,by omega,by omega⟩,by decide,⟨by decide,by omega,by omega⟩,by decide,fun hn=>?_,fun hn=>?_⟩
   . unfold atS
     rw [if_pos (.inr (.inl (Classical.not_not.1 fun hc=>hn (hR.2 hc))))]
   . unfold atS
     rw [if_neg (by rintro (h' | h' | h')
                    . omega
                    . exact hR.1 (Classical.not_not.1 hn) h'
                    . omega)]
noncomputable def e3p (n:Int) (t:Tm):Q1 U:=⟨[],[],.agg [.int .i64 (atS n t).Day.Year,.int .i64 (atS n t).Day.Month,.int .i64 (atS n t).Day.Date,.int .i64 (atS n t).Hour,.int .i64 (atS n t).Min,.int .i64 (atS n t).Sec,blB (atS n t).Bare,blB (atS n t).UTC]⟩
noncomputable def cta (a:List (SV U)):Option (Q1 U):=match a with | [.int .i64 n,.agg l_t]=>(y25.bk (.agg l_t)).bind fun t=>some (e3p n t) | _=>none
theorem d7o (args:List (SV U)) (q:Q1 U) (h:cta args=some q) (ho:l7 q.ob):l4 Nts 20 args ⟨q.ob,q.hy,q.v,[]⟩:=by
 unfold cta at h
 split at h
 . rename_i n l_t
   obtain ⟨t,hb_t,h⟩:=Option.bind_eq_some_iff.1 h
   cases h
   refine l4.conv (E:=Nts) (args':=[.int .i64 n,.agg [.int .i64 t.Day.Year,.int .i64 t.Day.Month,.int .i64 t.Day.Date,.int .i64 t.Hour,.int .i64 t.Min,.int .i64 t.Sec,blB t.Bare,blB t.UTC]]) (q8 b6b (j8 b6b p8 c29 2) Tryz.func20 (k:=.val 25) ⟨_,_,rfl,rfl,rfl⟩ (d9g (pta n t )) 0) fun D w vs hr=>w5 [.int .i64 n,.agg l_t] [.int .i64 n,.agg [.int .i64 t.Day.Year,.int .i64 t.Day.Month,.int .i64 t.Day.Date,.int .i64 t.Hour,.int .i64 t.Min,.int .i64 t.Sec,blB t.Bare,blB t.UTC]] _ ⟨fun _ h=>h,fun _ h=>v6 hb_t h,trivial⟩ hr
 . cases h
noncomputable def Nta:Env:=Nts.addL 20 cta
theorem b4e:k8 Nta:=b6b.addL Tryz.call20 d7o
end Go.Proofs.YtdjfeninmbpflaaGreat
end
section
namespace Go.Re
open Go.Wl
def Z4 (a b:Nt):Prop:=a.Day<b.Day ∨ a.Day=b.Day/\a.N<b.N
instance:∀ a b,Decidable (Z4 a b):=fun _ _=>inferInstanceAs (Decidable (_ ∨ _))
def a5t (a b:Nt):Bool:=decide (Z4 a b)
def B6 (l:List Int):Int:=if (l.length:Int)=0 then 1 else (l.length:Int)
def OkN (lo hi:Int) (b:Bool) (n:Int):Prop:=if (b=true/\n<0)/\-hi<=n then lo<=-n/\-n<=hi else lo<=n/\n<=hi
structure I8 (l:List Int) (lo hi:Int) (b:Bool):Prop where
 ok:∀ i:Int,0<=i->i<l.length->OkN lo hi b (ix l i)
 up:∀ i:Int,0<i->i<l.length->ix l (i-1)<ix l i
 few:(l.length:Int)<=24
open Classical in
noncomputable def l8 (l:List Int) (lo hi:Int) (b:Bool):Bool:=decide (I8 l lo hi b)
open Classical in
theorem a54 {l:List Int} {lo hi:Int} {b:Bool}:l8 l lo hi b=true↔I8 l lo hi b:=by
 unfold l8
 exact decide_eq_true_iff
theorem a34 {l:List Int} {lo hi:Int} {b:Bool} (h:¬ I8 l lo hi b):l8 l lo hi b=false:=by
 cases e:l8 l lo hi b with
 | true=>exact absurd (a54.1 e) h
 | false=>rfl
theorem a36 {α:Type} [Inhabited α] {l:List α} {i:Int} (h0:0<=i) (h1:i<l.length):ix l i∈l:=by
 have h:i.toNat<l.length:=by omega
 rw [A8 h]
 exact List.getElem_mem h
def c6a (L:List Int):Bool:=L.all fun n=>decide (n<=60)
theorem c5o {L:List Int} (h:∀ j:Int,0<=j->j<L.length->ix L j<=60):c6a L=true:=List.all_eq_true.2 fun n hn=>by
 obtain ⟨k,hk,e⟩:=List.getElem_of_mem hn
 have:=h k (by omega) (by omega)
 rw [A8 (by omega)] at this
 have e:L[(k:Int).toNat]'(by omega)=n:=e
 rw [e] at this
 exact decide_eq_true this
theorem c7r {L:List Int} {j:Int} (h0:0<=j) (h1:j<L.length) (h:60<ix L j):c6a L=false:=by
 cases e:c6a L with
 | false=>rfl
 | true =>
  have:=of_decide_eq_true (List.all_eq_true.1 e _ (a36 h0 h1))
  omega
def B9 (r:Rl):Bool:=c6a [(r.Month.length:Int),r.WeekNo.length,r.YearDay.length,r.MonthDay.length,r.Days.length,r.Hour.length,r.Minute.length,r.Second.length,r.SetPos.length,r.Until.length]
end Go.Re
end
section
namespace Go.Proofs.YtdjfeninmbpflaaGreat
open Go Go.Wk Go.Wl Go.Rx Go.Re 
attribute [local irreducible] i6
def c2j:Nat->Ann:=fun | 76=>⟨24,fun _=>none,fun _=>none⟩ | _=>⟨0,fun _=>none,fun _=>none⟩
def Vql (a:Nt) (b:Nt) (Q:Bool->Prop):Prop :=
Q (decide (a.Day<b.Day ∨ a.Day=b.Day/\a.N<b.N))
theorem d9a {a:Nt} {b:Nt} {Q:Bool->Prop}:@Eq Prop (Vql a b Q) (i6 (E:=Nta) (j7 Nta H0 c2j 2) (c2j 76) Tryz.f76 [.agg [.int .i64 a.N,.int .i64 a.Day],.agg [.int .i64 b.N,.int .i64 b.Day]] [] [] 0 (m9 Nta [.bool] Q)):=by kernel_rfl
theorem e18 {a:Nt} {b:Nt} {Q:Bool->Prop} (h:Vql a b Q):i6 (E:=Nta) (j7 Nta H0 c2j 2) (c2j 76) Tryz.f76 [.agg [.int .i64 a.N,.int .i64 a.Day],.agg [.int .i64 b.N,.int .i64 b.Day]] [] [] 0 (m9 Nta [.bool] Q):=by rw [<- d9a]; exact h
theorem pql (a:Nt) (b:Nt)  : Vql a b (fun y0=>y0=a5t a b):=by
 unfold Vql
 rfl
def e4f (a:Nt) (b:Nt):Q1 U:=⟨[],[],blB (a5t a b)⟩
def cql (a:List (SV U)):Option (Q1 U):=match a with | [.agg [.int .i64 a0,.int .i64 a1],.agg [.int .i64 b0,.int .i64 b1]]=>some (e4f (⟨a0,a1⟩) (⟨b0,b1⟩)) | _=>none
theorem d7t (args:List (SV U)) (q:Q1 U) (h:cql args=some q) (ho:l7 q.ob):l4 Nta 76 args ⟨q.ob,q.hy,q.v,[]⟩:=by
 unfold cql at h
 split at h
 . rename_i a0 a1 b0 b1
   cases h
   exact q8 b4e (j8 b4e p8 c2j 2) Tryz.func76 (k:=.bool) (x:=a5t (⟨a0,a1⟩:Nt) (⟨b0,b1⟩:Nt)) trivial (e18 (pql (⟨a0,a1⟩) (⟨b0,b1⟩) )) 0
 . cases h
noncomputable def Nql:Env:=Nta.addL 76 cql
theorem b65:k8 Nql:=b4e.addL Tryz.call76 d7t
end Go.Proofs.YtdjfeninmbpflaaGreat
end
section
namespace Go.Proofs.YtdjfeninmbpflaaGreat
open Go Go.Wk Go.Wl Go.Rx Go.Re 
attribute [local irreducible] i6
def c2k:Nat->Ann:=fun | 77=>⟨8,fun _=>none,fun _=>none⟩ | _=>⟨0,fun _=>none,fun _=>none⟩
def Vqg (l:List Int) (Q:Int->Prop):Prop :=
((↑l.length:Int)=0->Q (1:Int))/\(¬(↑l.length:Int)=0->Q (↑l.length:Int))
theorem d5q {l:List Int} {Q:Int->Prop}:@Eq Prop (Vqg l Q) (i6 (E:=Nql) (j7 Nql H0 c2k 2) (c2k 77) Tryz.f77 [.sl (N:=U) 3 l] [] [] 0 (m9 Nql [.int .i64] Q)):=by kernel_rfl
theorem d7u {l:List Int} {Q:Int->Prop} (h:Vqg l Q):i6 (E:=Nql) (j7 Nql H0 c2k 2) (c2k 77) Tryz.f77 [.sl (N:=U) 3 l] [] [] 0 (m9 Nql [.int .i64] Q):=by rw [<- d5q]; exact h
theorem pqg (l:List Int)  : Vqg l (fun y0=>y0=B6 l):=by
 unfold Vqg B6
 exact ⟨fun h=>by rw [if_pos h],fun h=>by rw [if_neg h]⟩
def cqg (a:List (SV U)):Option (Q1 U):=match a with | [.sl 3 l]=>some ⟨[],[],.int .i64 (B6 l)⟩ | _=>none
theorem d6d (args:List (SV U)) (q:Q1 U) (h:cqg args=some q) (ho:l7 q.ob):l4 Nql 77 args ⟨q.ob,q.hy,q.v,[]⟩:=by
 unfold cqg at h
 split at h
 . rename_i l
   cases h
   exact q8 b65 (j8 b65 p8 c2k 2) Tryz.func77 (k:=.int .i64) (x:=B6 l) trivial (d7u (pqg l )) 0
 . cases h
noncomputable def Nqg:Env:=Nql.addL 77 cqg
theorem b68:k8 Nqg:=b65.addL Tryz.call77 d6d
end Go.Proofs.YtdjfeninmbpflaaGreat
end
section
namespace Go.Proofs.YtdjfeninmbpflaaGreat
open Go Go.Wk Go.Wl Go.Rx Go.Re 
attribute [local irreducible] i6
def c1a:Nat->Ann:=fun | 75=>⟨56,fun | 2=>some ⟨[0,1,2,3],[.slot 9 (.int .i64)]⟩ | _=>none,fun _=>none⟩ | _=>⟨0,fun _=>none,fun _=>none⟩
def Vqr (l:List Int) (lo:Int) (hi:Int) (b:Bool) (Q:Bool->Prop):Prop :=
∃ (I:Int->Prop),∃ (m:Int->Nat),I (0:Int)/\∀ (x:Int),I x->(x<(↑l.length:Int)->(0:Int)<=x/\x<(↑l.length:Int)/\(b9 (ix l x)->((0:Int)<x->b9 (x-1))/\((0:Int)<x->(0:Int)<=x-1)/\((0:Int)<x->x-1<(↑l.length:Int))/\(((0:Int)<x->b9 (ix l (x-1)))->((0:Int)<x/\ix l x<=ix l (x-1)->Q false)/\(¬((0:Int)<x/\ix l x<=ix l (x-1))->(b=true/\ix l x<0->b9 ((0:Int)-hi))/\((b=true/\ix l x<0)/\(0:Int)-hi<=ix l x->b9 ((0:Int)-ix l x)/\((0:Int)-ix l x<lo ∨ hi<(0:Int)-ix l x->Q false)/\(¬((0:Int)-ix l x<lo ∨ hi<(0:Int)-ix l x)->b9 (x+1)/\I (x+1)/\m (x+1)<m x))/\(¬((b=true/\ix l x<0)/\(0:Int)-hi<=ix l x)->(ix l x<lo ∨ hi<ix l x->Q false)/\(¬(ix l x<lo ∨ hi<ix l x)->b9 (x+1)/\I (x+1)/\m (x+1)<m x))))))/\(¬x<(↑l.length:Int)->Q (decide ((↑l.length:Int)<=24)))
theorem e1l {l:List Int} {lo:Int} {hi:Int} {b:Bool} {Q:Bool->Prop}:@Eq Prop (Vqr l lo hi b Q) (i6 (E:=Nqg) (j7 Nqg H0 c1a 2) (c1a 75) Tryz.f75 [.sl (N:=U) 3 l,.int .i64 lo,.int .i64 hi,blB b] [] [] 0 (m9 Nqg [.bool] Q)):=by kernel_rfl
theorem d3d {l:List Int} {lo:Int} {hi:Int} {b:Bool} {Q:Bool->Prop} (h:Vqr l lo hi b Q):i6 (E:=Nqg) (j7 Nqg H0 c1a 2) (c1a 75) Tryz.f75 [.sl (N:=U) 3 l,.int .i64 lo,.int .i64 hi,blB b] [] [] 0 (m9 Nqg [.bool] Q):=by rw [<- e1l]; exact h
theorem pqr (l:List Int) (lo:Int) (hi:Int) (b:Bool) (l0:0<=lo) (l1:lo<=1000) (h0:0<=hi) (h1:hi<=1000) (hl:l.length<=1000000):Vqr l lo hi b (fun y0=>y0=l8 l lo hi b):=by
 unfold Vqr
 have z:∀ n:Int,0-n=-n:=fun n=>by omega
 simp only [z]
 refine ⟨fun x=>0<=x/\x<=l.length/\(∀ i:Int,0<=i->i<x->OkN lo hi b (ix l i))/\∀ i:Int,0<i->i<x->ix l (i-1)<ix l i,fun x=>((l.length:Int)-x).toNat,⟨Int.le_refl 0,by omega,fun i a b=>by omega,fun i a b=>by omega⟩,?_⟩
 rintro x ⟨x0,x1,hk,hu⟩
 refine ⟨fun hx=>⟨x0,hx,fun hi=>⟨fun _=>⟨by omega,by omega⟩,fun _=>by omega,fun _=>by omega,fun _=>⟨fun h=>?_,fun h=>⟨fun _=>⟨by omega,by omega⟩,fun hn=>⟨⟨by omega,by omega⟩,fun h2=>?_,fun h2=>?_⟩,fun hn=>⟨fun h2=>?_,fun h2=>?_⟩⟩⟩⟩⟩,fun hx=>?_⟩
 . exact (a34 fun hr=>by have:=hr.up x h.1 hx; omega).symm
 . exact (a34 fun hr=>by
     have:=hr.ok x x0 hx
     unfold OkN at this
     rw [if_pos hn] at this
     omega).symm
 . refine ⟨⟨by omega,by omega⟩,⟨by omega,by omega,fun i i0 i1=>?_,fun i i0 i1=>?_⟩,by dsimp only; omega⟩
   . by_cases e:i=x
     . subst e; unfold OkN; rw [if_pos hn]; omega
     . exact hk i i0 (by omega)
   . by_cases e:i=x
     . subst e; omega
     . exact hu i i0 (by omega)
 . exact (a34 fun hr=>by
     have:=hr.ok x x0 hx
     unfold OkN at this
     rw [if_neg hn] at this
     omega).symm
 . refine ⟨⟨by omega,by omega⟩,⟨by omega,by omega,fun i i0 i1=>?_,fun i i0 i1=>?_⟩,by dsimp only; omega⟩
   . by_cases e:i=x
     . subst e; unfold OkN; rw [if_neg hn]; omega
     . exact hk i i0 (by omega)
   . by_cases e:i=x
     . subst e; omega
     . exact hu i i0 (by omega)
 . by_cases h24:(l.length:Int)<=24
   . rw [decide_eq_true h24]
     exact (a54.2 ⟨fun i a b=>hk i a (by omega),fun i a b=>hu i a (by omega),h24⟩).symm
   . rw [decide_eq_false h24]
     exact (a34 fun hr=>h24 hr.few).symm
noncomputable def e4n (l:List Int) (lo:Int) (hi:Int) (b:Bool):Q1 U:=⟨[0<=lo,lo<=1000,0<=hi,hi<=1000,List.length (α:=Int) l<=1000000],[],blB (l8 l lo hi b)⟩
noncomputable def cqr (a:List (SV U)):Option (Q1 U):=match a with | [.sl 3 l,.int .i64 lo,.int .i64 hi,x_b]=>(a98 x_b).bind fun b=>some (e4n l lo hi b) | _=>none
theorem d6z (args:List (SV U)) (q:Q1 U) (h:cqr args=some q) (ho:l7 q.ob):l4 Nqg 75 args ⟨q.ob,q.hy,q.v,[]⟩:=by
 unfold cqr at h
 split at h
 . rename_i l lo hi x_b
   obtain ⟨b,hb_b,h⟩:=Option.bind_eq_some_iff.1 h
   cases h
   refine l4.conv (E:=Nqg) (args':=[.sl 3 l,.int .i64 lo,.int .i64 hi,blB b]) (q8 b68 (j8 b68 p8 c1a 2) Tryz.func75 (k:=.bool) trivial (d3d (pqr l lo hi b ho.1 ho.2.1 ho.2.2.1 ho.2.2.2.1 ho.2.2.2.2.1)) 0) fun D w vs hr=>w5 [.sl 3 l,.int .i64 lo,.int .i64 hi,x_b] [.sl (N:=U) 3 l,.int .i64 lo,.int .i64 hi,blB b] _ ⟨fun _ h=>h,fun _ h=>h,fun _ h=>h,fun _ h=>Z8 (E:=Nqg) hb_b h,trivial⟩ hr
 . cases h
noncomputable def Nqr:Env:=Nqg.addL 75 cqr
theorem b4y:k8 Nqr:=b68.addL Tryz.call75 d6z
end Go.Proofs.YtdjfeninmbpflaaGreat
end
section
namespace Go.Proofs.YtdjfeninmbpflaaGreat
open Go Go.Wk Go.Wl Go.Rx Go.Re 
attribute [local irreducible] i6
def c6u:Nat->Ann:=fun | 10=>⟨44,fun | 2=>some ⟨[35,36],[.slot 37 (.int .i64)]⟩ | _=>none,fun _=>none⟩ | _=>⟨0,fun _=>none,fun _=>none⟩
def Vqf (r:Rl) (Q:Bool->Prop):Prop :=
∃ (I:Int->Prop),∃ (m:Int->Nat),I (0:Int)/\∀ (x:Int),I x->(x<(↑[(↑r.Month.length:Int),(↑r.WeekNo.length:Int),(↑r.YearDay.length:Int),(↑r.MonthDay.length:Int),(↑r.Days.length:Int),(↑r.Hour.length:Int),(↑r.Minute.length:Int),(↑r.Second.length:Int),(↑r.SetPos.length:Int),(↑r.Until.length:Int)].length:Int)->(0:Int)<=x/\x<(↑[(↑r.Month.length:Int),(↑r.WeekNo.length:Int),(↑r.YearDay.length:Int),(↑r.MonthDay.length:Int),(↑r.Days.length:Int),(↑r.Hour.length:Int),(↑r.Minute.length:Int),(↑r.Second.length:Int),(↑r.SetPos.length:Int),(↑r.Until.length:Int)].length:Int)/\(b9 (ix [(↑r.Month.length:Int),(↑r.WeekNo.length:Int),(↑r.YearDay.length:Int),(↑r.MonthDay.length:Int),(↑r.Days.length:Int),(↑r.Hour.length:Int),(↑r.Minute.length:Int),(↑r.Second.length:Int),(↑r.SetPos.length:Int),(↑r.Until.length:Int)] x)->((60:Int)<ix [(↑r.Month.length:Int),(↑r.WeekNo.length:Int),(↑r.YearDay.length:Int),(↑r.MonthDay.length:Int),(↑r.Days.length:Int),(↑r.Hour.length:Int),(↑r.Minute.length:Int),(↑r.Second.length:Int),(↑r.SetPos.length:Int),(↑r.Until.length:Int)] x->Q false)/\(¬(60:Int)<ix [(↑r.Month.length:Int),(↑r.WeekNo.length:Int),(↑r.YearDay.length:Int),(↑r.MonthDay.length:Int),(↑r.Days.length:Int),(↑r.Hour.length:Int),(↑r.Minute.length:Int),(↑r.Second.length:Int),(↑r.SetPos.length:Int),(↑r.Until.length:Int)] x->b9 (x+1)/\I (x+1)/\m (x+1)<m x)))/\(¬x<(↑[(↑r.Month.length:Int),(↑r.WeekNo.length:Int),(↑r.YearDay.length:Int),(↑r.MonthDay.length:Int),(↑r.Days.length:Int),(↑r.Hour.length:Int),(↑r.Minute.length:Int),(↑r.Second.length:Int),(↑r.SetPos.length:Int),(↑r.Until.length:Int)].length:Int)->Q true)
theorem d4g {r:Rl} {Q:Bool->Prop}:@Eq Prop (Vqf r Q) (i6 (E:=Nqr) (j7 Nqr H0 c6u 2) (c6u 10) Tryz.f10 [.agg [.int .i64 r.Freq,.int .i64 r.Interval,.int .i64 r.Count,.sl (N:=U) 25 r.Until,.sl (N:=U) 3 r.Month,.sl (N:=U) 3 r.WeekNo,.sl (N:=U) 3 r.YearDay,.sl (N:=U) 3 r.MonthDay,.sl (N:=U) 60 r.Days,.sl (N:=U) 3 r.Hour,.sl (N:=U) 3 r.Minute,.sl (N:=U) 3 r.Second,.sl (N:=U) 3 r.SetPos,.int .i64 r.Wkst]] [] [] 0 (m9 Nqr [.bool] Q)):=by kernel_rfl
theorem d2r {r:Rl} {Q:Bool->Prop} (h:Vqf r Q):i6 (E:=Nqr) (j7 Nqr H0 c6u 2) (c6u 10) Tryz.f10 [.agg [.int .i64 r.Freq,.int .i64 r.Interval,.int .i64 r.Count,.sl (N:=U) 25 r.Until,.sl (N:=U) 3 r.Month,.sl (N:=U) 3 r.WeekNo,.sl (N:=U) 3 r.YearDay,.sl (N:=U) 3 r.MonthDay,.sl (N:=U) 60 r.Days,.sl (N:=U) 3 r.Hour,.sl (N:=U) 3 r.Minute,.sl (N:=U) 3 r.Second,.sl (N:=U) 3 r.SetPos,.int .i64 r.Wkst]] [] [] 0 (m9 Nqr [.bool] Q):=by rw [<- d4g]; exact h
theorem pqf (r:Rl)  : Vqf r (fun y0=>y0=B9 r):=by
 unfold Vqf B9
 generalize hL:([(r.Month.length:Int),r.WeekNo.length,r.YearDay.length,r.MonthDay.length,r.Days.length,r.Hour.length,r.Minute.length,r.Second.length,r.SetPos.length,r.Until.length]:List Int)=L
 have hl:L.length=10:=by rw [<- hL]; rfl
 refine ⟨fun x=>0<=x/\∀ j:Int,0<=j->j<x->ix L j<=60,fun x=>((L.length:Int)-x).toNat,⟨Int.le_refl 0,fun j a b=>by omega⟩,?_⟩
 rintro x ⟨x0,hx⟩
 refine ⟨fun h=>⟨x0,h,fun hi=>⟨fun h60=>(c7r x0 h h60).symm,fun h60=>⟨⟨by omega,by omega⟩,⟨by omega,fun j a b=>?_⟩,by dsimp only; omega⟩⟩⟩,fun h=>(c5o fun j a b=>hx j a (by omega)).symm⟩
 by_cases e:j=x
 . subst e; omega
 . exact hx j a (by omega)
noncomputable def e3v (r:Rl):Q1 U:=⟨[],[],blB (B9 r)⟩
noncomputable def cqf (a:List (SV U)):Option (Q1 U):=match a with | [.agg l_r]=>(y30.bk (.agg l_r)).bind fun r=>some (e3v r) | _=>none
theorem d7j (args:List (SV U)) (q:Q1 U) (h:cqf args=some q) (ho:l7 q.ob):l4 Nqr 10 args ⟨q.ob,q.hy,q.v,[]⟩:=by
 unfold cqf at h
 split at h
 . rename_i l_r
   obtain ⟨r,hb_r,h⟩:=Option.bind_eq_some_iff.1 h
   cases h
   refine l4.conv (E:=Nqr) (args':=[.agg [.int .i64 r.Freq,.int .i64 r.Interval,.int .i64 r.Count,.sl 25 r.Until,.sl 3 r.Month,.sl 3 r.WeekNo,.sl 3 r.YearDay,.sl 3 r.MonthDay,.sl 60 r.Days,.sl 3 r.Hour,.sl 3 r.Minute,.sl 3 r.Second,.sl 3 r.SetPos,.int .i64 r.Wkst]]) (q8 b4y (j8 b4y p8 c6u 2) Tryz.func10 (k:=.bool) trivial (d2r (pqf r )) 0) fun D w vs hr=>w5 [.agg l_r] [.agg [.int .i64 r.Freq,.int .i64 r.Interval,.int .i64 r.Count,.sl (N:=U) 25 r.Until,.sl (N:=U) 3 r.Month,.sl (N:=U) 3 r.WeekNo,.sl (N:=U) 3 r.YearDay,.sl (N:=U) 3 r.MonthDay,.sl (N:=U) 60 r.Days,.sl (N:=U) 3 r.Hour,.sl (N:=U) 3 r.Minute,.sl (N:=U) 3 r.Second,.sl (N:=U) 3 r.SetPos,.int .i64 r.Wkst]] _ ⟨fun _ h=>A5 hb_r h,trivial⟩ hr
 . cases h
noncomputable def Nqf:Env:=Nqr.addL 10 cqf
theorem b5v:k8 Nqf:=b4y.addL Tryz.call10 d7j
end Go.Proofs.YtdjfeninmbpflaaGreat
end
section
namespace Go.Re
open Go.Wl
open Go.Rx (b9)
def B8 (r:Rl):Int:=if r.Freq=1 then 5 else if r.Freq=0/\(r.WeekNo.length:Int)=0 then 53 else 0
def c0u (m:Int) (d:Nt):Prop:=0<=d.Day/\d.Day<=6/\d.N<=m/\-m<=d.N
def b21 (r:Rl):Prop:=0<=r.Freq/\r.Freq<=6/\1<=r.Interval/\r.Interval<=9999/\0<=r.Count/\r.Count<=9999/\0<=r.Wkst/\r.Wkst<=6
def b4p (r:Rl):Prop:=(r.Until.length:Int)<=1/\((r.Until.length:Int)=1->r.Count<=0/\l9 (ix r.Until 0)=true)
structure a7v (r:Rl):Prop where
 mo:I8 r.Month 1 12 false
 wn:I8 r.WeekNo 1 53 true
 yd:I8 r.YearDay 1 366 true
 md:I8 r.MonthDay 1 31 true
 ho:I8 r.Hour 0 23 false
 mi:I8 r.Minute 0 59 false
 se:I8 r.Second 0 59 false
 sp:I8 r.SetPos 1 366 true
structure d0o (l:List Nt) (m:Int):Prop where
 ok:∀ i:Int,0<=i->i<l.length->c0u m (ix l i)
 up:∀ i:Int,0<i->i<l.length->Z4 (ix l (i-1)) (ix l i)
def b1i (r:Rl):Prop:=¬ (((r.Freq≠0/\0<(r.WeekNo.length:Int)) ∨ ((1<=r.Freq/\r.Freq<=3)/\0<(r.YearDay.length:Int))) ∨ r.Freq=2/\0<(r.MonthDay.length:Int))
def b7q (r:Rl):Prop:=(0<(r.Month.length:Int)+r.WeekNo.length+r.YearDay.length+r.MonthDay.length+r.Days.length+r.Hour.length+r.Minute.length+r.Second.length ∨ (r.SetPos.length:Int)=0)/\B6 r.Hour * B6 r.Minute * B6 r.Second<=48
structure b60 (r:Rl):Prop where
 head:b21 r
 til:b4p r
 lists:a7v r
 few:(r.Days.length:Int)<=24
 days:d0o r.Days (B8 r)
 fit:b1i r
 some:b7q r
open Classical in
noncomputable def A2 (r:Rl):Bool:=decide (b60 r)
open Classical in
theorem n9 {r:Rl}:A2 r=true↔b60 r:=by
 unfold A2
 exact decide_eq_true_iff
theorem o5 {r:Rl} (h:¬ b60 r):A2 r=false:=by
 cases e:A2 r with
 | true=>exact absurd (n9.1 e) h
 | false=>rfl
theorem a73 {a b:Nt}:a5t a b=true↔Z4 a b:=by unfold a5t; exact decide_eq_true_iff
theorem c7x {L:List Int} (h:c6a L=true) {n:Int} (hn:n∈L):n<=60:=of_decide_eq_true (List.all_eq_true.1 h n hn)
structure e4l (r:Rl):Prop where
 mo:(r.Month.length:Int)<=60
 wn:(r.WeekNo.length:Int)<=60
 yd:(r.YearDay.length:Int)<=60
 md:(r.MonthDay.length:Int)<=60
 dy:(r.Days.length:Int)<=60
 ho:(r.Hour.length:Int)<=60
 mi:(r.Minute.length:Int)<=60
 se:(r.Second.length:Int)<=60
 sp:(r.SetPos.length:Int)<=60
 ti:(r.Until.length:Int)<=60
theorem a10 {r:Rl} (h:B9 r=true):e4l r:=by
 unfold B9 at h
 constructor <;> exact c7x h (by simp)
theorem P3 {l:List Int}:(B6 l=1/\(l.length:Int)=0) ∨ (B6 l=(l.length:Int)/\1<=(l.length:Int)):=by
 unfold B6
 by_cases h:(l.length:Int)=0
 . rw [if_pos h]; omega
 . rw [if_neg h]; omega
theorem c3e {a b:Int} (h0:1<=a) (h1:a<=3600) (h2:1<=b) (h3:b<=60):1<=a * b/\a * b<=216000:=by
 constructor
 . have:=Int.mul_le_mul h0 h2 (by decide) (by omega); omega
 . have:=Int.mul_le_mul h1 h3 (by omega) (by decide); omega
theorem d0b {a b c:Int} (ha:1<=a/\a<=60) (hb:1<=b/\b<=60) (hc:1<=c/\c<=60):b9 (a * b)/\b9 (a * b * c):=by
 have h1:1<=a * b:=by have:=Int.mul_le_mul ha.1 hb.1 (by decide) (by omega); omega
 have h2:a * b<=3600:=by have:=Int.mul_le_mul ha.2 hb.2 (by omega) (by decide); omega
 have h3:=c3e h1 h2 hc.1 hc.2
 exact ⟨⟨by omega,by omega⟩,⟨by omega,by omega⟩⟩
structure K9 (l:List Nt) (m:Int) (x:Int):Prop where
 ok:∀ i:Int,0<=i->i<x->c0u m (ix l i)
 up:∀ i:Int,0<i->i<x->Z4 (ix l (i-1)) (ix l i)
theorem K9.nil {l:List Nt} {m:Int}:K9 l m 0:=⟨fun i a b=>by omega,fun i a b=>by omega⟩
theorem K9.step {l:List Nt} {m x:Int} (h:K9 l m x) (h1:c0u m (ix l x)) (h2:0<x->Z4 (ix l (x-1)) (ix l x)):K9 l m (x+1):=by
 constructor
 . intro i a b
   by_cases e:i=x
   . subst e; exact h1
   . exact h.ok i a (by omega)
 . intro i a b
   by_cases e:i=x
   . subst e; exact h2 a
   . exact h.up i a (by omega)
theorem K9.done {l:List Nt} {m x:Int} (h:K9 l m x) (hx:¬ x<l.length):d0o l m:=⟨fun i a b=>h.ok i a (by omega),fun i a b=>h.up i a (by omega)⟩
end Go.Re
end
section
namespace Go.Proofs.YtdjfeninmbpflaaGreat
open Go Go.Wk Go.Wl Go.Rx Go.Re 
attribute [local irreducible] i6
def c4l:Nat->Ann:=fun | 44=>⟨267,fun | 15=>some ⟨[1,3],[.slot 4 (.int .i64)]⟩ | _=>none,fun | 12=>some ⟨[1],[.slot 3 (.int .i64)]⟩ | 14=>some ⟨[1],[.slot 3 (.int .i64)]⟩ | _=>none⟩ | _=>⟨0,fun _=>none,fun _=>none⟩
def VqR (r:Rl) (Q:Bool->Prop):Prop :=
(((((((r.Freq<0 ∨ (6:Int)<r.Freq) ∨ r.Interval<1) ∨ (9999:Int)<r.Interval) ∨ r.Count<0) ∨ (9999:Int)<r.Count) ∨ r.Wkst<0) ∨ (6:Int)<r.Wkst->Q false)/\(¬(((((((r.Freq<0 ∨ (6:Int)<r.Freq) ∨ r.Interval<1) ∨ (9999:Int)<r.Interval) ∨ r.Count<0) ∨ (9999:Int)<r.Count) ∨ r.Wkst<0) ∨ (6:Int)<r.Wkst)->((¬(1:Int)<(↑r.Until.length:Int)/\(↑r.Until.length:Int)=1)/\¬(0:Int)<r.Count->(0:Int)<=0)/\((¬(1:Int)<(↑r.Until.length:Int)/\(↑r.Until.length:Int)=1)/\¬(0:Int)<r.Count->(0:Int)<(↑r.Until.length:Int))/\(((¬(1:Int)<(↑r.Until.length:Int)/\(↑r.Until.length:Int)=1)/\¬(0:Int)<r.Count->b9 (ix r.Until (0:Int)).Day.Year)->((¬(1:Int)<(↑r.Until.length:Int)/\(↑r.Until.length:Int)=1)/\¬(0:Int)<r.Count->b9 (ix r.Until (0:Int)).Day.Month)->((¬(1:Int)<(↑r.Until.length:Int)/\(↑r.Until.length:Int)=1)/\¬(0:Int)<r.Count->b9 (ix r.Until (0:Int)).Day.Date)->((¬(1:Int)<(↑r.Until.length:Int)/\(↑r.Until.length:Int)=1)/\¬(0:Int)<r.Count->b9 (ix r.Until (0:Int)).Hour)->((¬(1:Int)<(↑r.Until.length:Int)/\(↑r.Until.length:Int)=1)/\¬(0:Int)<r.Count->b9 (ix r.Until (0:Int)).Min)->((¬(1:Int)<(↑r.Until.length:Int)/\(↑r.Until.length:Int)=1)/\¬(0:Int)<r.Count->b9 (ix r.Until (0:Int)).Sec)->((1:Int)<(↑r.Until.length:Int) ∨ (↑r.Until.length:Int)=1/\((0:Int)<r.Count ∨ ¬l9 (Tm.mk (Dy.mk (ix r.Until (0:Int)).Day.Year (ix r.Until (0:Int)).Day.Month (ix r.Until (0:Int)).Day.Date) (ix r.Until (0:Int)).Hour (ix r.Until (0:Int)).Min (ix r.Until (0:Int)).Sec (decide ((ix r.Until (0:Int)).Bare=true)) (decide ((ix r.Until (0:Int)).UTC=true)))=true)->Q false)/\(¬((1:Int)<(↑r.Until.length:Int) ∨ (↑r.Until.length:Int)=1/\((0:Int)<r.Count ∨ ¬l9 (Tm.mk (Dy.mk (ix r.Until (0:Int)).Day.Year (ix r.Until (0:Int)).Day.Month (ix r.Until (0:Int)).Day.Date) (ix r.Until (0:Int)).Hour (ix r.Until (0:Int)).Min (ix r.Until (0:Int)).Sec (decide ((ix r.Until (0:Int)).Bare=true)) (decide ((ix r.Until (0:Int)).UTC=true)))=true))->(0:Int)<=1/\(1:Int)<=1000/\(0:Int)<=12/\(12:Int)<=1000/\r.Month.length<=1000000/\(¬¬l8 r.Month (1:Int) (12:Int) false=true->(0:Int)<=1)/\(¬¬l8 r.Month (1:Int) (12:Int) false=true->(1:Int)<=1000)/\(¬¬l8 r.Month (1:Int) (12:Int) false=true->(0:Int)<=53)/\(¬¬l8 r.Month (1:Int) (12:Int) false=true->(53:Int)<=1000)/\(¬¬l8 r.Month (1:Int) (12:Int) false=true->r.WeekNo.length<=1000000)/\(¬(¬l8 r.Month (1:Int) (12:Int) false=true ∨ ¬l8 r.WeekNo (1:Int) (53:Int) true=true)->(0:Int)<=1)/\(¬(¬l8 r.Month (1:Int) (12:Int) false=true ∨ ¬l8 r.WeekNo (1:Int) (53:Int) true=true)->(1:Int)<=1000)/\(¬(¬l8 r.Month (1:Int) (12:Int) false=true ∨ ¬l8 r.WeekNo (1:Int) (53:Int) true=true)->(0:Int)<=366)/\(¬(¬l8 r.Month (1:Int) (12:Int) false=true ∨ ¬l8 r.WeekNo (1:Int) (53:Int) true=true)->(366:Int)<=1000)/\(¬(¬l8 r.Month (1:Int) (12:Int) false=true ∨ ¬l8 r.WeekNo (1:Int) (53:Int) true=true)->r.YearDay.length<=1000000)/\(¬((¬l8 r.Month (1:Int) (12:Int) false=true ∨ ¬l8 r.WeekNo (1:Int) (53:Int) true=true) ∨ ¬l8 r.YearDay (1:Int) (366:Int) true=true)->(0:Int)<=1)/\(¬((¬l8 r.Month (1:Int) (12:Int) false=true ∨ ¬l8 r.WeekNo (1:Int) (53:Int) true=true) ∨ ¬l8 r.YearDay (1:Int) (366:Int) true=true)->(1:Int)<=1000)/\(¬((¬l8 r.Month (1:Int) (12:Int) false=true ∨ ¬l8 r.WeekNo (1:Int) (53:Int) true=true) ∨ ¬l8 r.YearDay (1:Int) (366:Int) true=true)->(0:Int)<=31)/\(¬((¬l8 r.Month (1:Int) (12:Int) false=true ∨ ¬l8 r.WeekNo (1:Int) (53:Int) true=true) ∨ ¬l8 r.YearDay (1:Int) (366:Int) true=true)->(31:Int)<=1000)/\(¬((¬l8 r.Month (1:Int) (12:Int) false=true ∨ ¬l8 r.WeekNo (1:Int) (53:Int) true=true) ∨ ¬l8 r.YearDay (1:Int) (366:Int) true=true)->r.MonthDay.length<=1000000)/\(¬(((¬l8 r.Month (1:Int) (12:Int) false=true ∨ ¬l8 r.WeekNo (1:Int) (53:Int) true=true) ∨ ¬l8 r.YearDay (1:Int) (366:Int) true=true) ∨ ¬l8 r.MonthDay (1:Int) (31:Int) true=true)->(0:Int)<=0)/\(¬(((¬l8 r.Month (1:Int) (12:Int) false=true ∨ ¬l8 r.WeekNo (1:Int) (53:Int) true=true) ∨ ¬l8 r.YearDay (1:Int) (366:Int) true=true) ∨ ¬l8 r.MonthDay (1:Int) (31:Int) true=true)->(0:Int)<=1000)/\(¬(((¬l8 r.Month (1:Int) (12:Int) false=true ∨ ¬l8 r.WeekNo (1:Int) (53:Int) true=true) ∨ ¬l8 r.YearDay (1:Int) (366:Int) true=true) ∨ ¬l8 r.MonthDay (1:Int) (31:Int) true=true)->(0:Int)<=23)/\(¬(((¬l8 r.Month (1:Int) (12:Int) false=true ∨ ¬l8 r.WeekNo (1:Int) (53:Int) true=true) ∨ ¬l8 r.YearDay (1:Int) (366:Int) true=true) ∨ ¬l8 r.MonthDay (1:Int) (31:Int) true=true)->(23:Int)<=1000)/\(¬(((¬l8 r.Month (1:Int) (12:Int) false=true ∨ ¬l8 r.WeekNo (1:Int) (53:Int) true=true) ∨ ¬l8 r.YearDay (1:Int) (366:Int) true=true) ∨ ¬l8 r.MonthDay (1:Int) (31:Int) true=true)->r.Hour.length<=1000000)/\(¬((((¬l8 r.Month (1:Int) (12:Int) false=true ∨ ¬l8 r.WeekNo (1:Int) (53:Int) true=true) ∨ ¬l8 r.YearDay (1:Int) (366:Int) true=true) ∨ ¬l8 r.MonthDay (1:Int) (31:Int) true=true) ∨ ¬l8 r.Hour (0:Int) (23:Int) false=true)->(0:Int)<=0)/\(¬((((¬l8 r.Month (1:Int) (12:Int) false=true ∨ ¬l8 r.WeekNo (1:Int) (53:Int) true=true) ∨ ¬l8 r.YearDay (1:Int) (366:Int) true=true) ∨ ¬l8 r.MonthDay (1:Int) (31:Int) true=true) ∨ ¬l8 r.Hour (0:Int) (23:Int) false=true)->(0:Int)<=1000)/\(¬((((¬l8 r.Month (1:Int) (12:Int) false=true ∨ ¬l8 r.WeekNo (1:Int) (53:Int) true=true) ∨ ¬l8 r.YearDay (1:Int) (366:Int) true=true) ∨ ¬l8 r.MonthDay (1:Int) (31:Int) true=true) ∨ ¬l8 r.Hour (0:Int) (23:Int) false=true)->(0:Int)<=59)/\(¬((((¬l8 r.Month (1:Int) (12:Int) false=true ∨ ¬l8 r.WeekNo (1:Int) (53:Int) true=true) ∨ ¬l8 r.YearDay (1:Int) (366:Int) true=true) ∨ ¬l8 r.MonthDay (1:Int) (31:Int) true=true) ∨ ¬l8 r.Hour (0:Int) (23:Int) false=true)->(59:Int)<=1000)/\(¬((((¬l8 r.Month (1:Int) (12:Int) false=true ∨ ¬l8 r.WeekNo (1:Int) (53:Int) true=true) ∨ ¬l8 r.YearDay (1:Int) (366:Int) true=true) ∨ ¬l8 r.MonthDay (1:Int) (31:Int) true=true) ∨ ¬l8 r.Hour (0:Int) (23:Int) false=true)->r.Minute.length<=1000000)/\(¬(((((¬l8 r.Month (1:Int) (12:Int) false=true ∨ ¬l8 r.WeekNo (1:Int) (53:Int) true=true) ∨ ¬l8 r.YearDay (1:Int) (366:Int) true=true) ∨ ¬l8 r.MonthDay (1:Int) (31:Int) true=true) ∨ ¬l8 r.Hour (0:Int) (23:Int) false=true) ∨ ¬l8 r.Minute (0:Int) (59:Int) false=true)->(0:Int)<=0)/\(¬(((((¬l8 r.Month (1:Int) (12:Int) false=true ∨ ¬l8 r.WeekNo (1:Int) (53:Int) true=true) ∨ ¬l8 r.YearDay (1:Int) (366:Int) true=true) ∨ ¬l8 r.MonthDay (1:Int) (31:Int) true=true) ∨ ¬l8 r.Hour (0:Int) (23:Int) false=true) ∨ ¬l8 r.Minute (0:Int) (59:Int) false=true)->(0:Int)<=1000)/\(¬(((((¬l8 r.Month (1:Int) (12:Int) false=true ∨ ¬l8 r.WeekNo (1:Int) (53:Int) true=true) ∨ ¬l8 r.YearDay (1:Int) (366:Int) true=true) ∨ ¬l8 r.MonthDay (1:Int) (31:Int) true=true) ∨ ¬l8 r.Hour (0:Int) (23:Int) false=true) ∨ ¬l8 r.Minute (0:Int) (59:Int) false=true)->(0:Int)<=59)/\(¬(((((¬l8 r.Month (1:Int) (12:Int) false=true ∨ ¬l8 r.WeekNo (1:Int) (53:Int) true=true) ∨ ¬l8 r.YearDay (1:Int) (366:Int) true=true) ∨ ¬l8 r.MonthDay (1:Int) (31:Int) true=true) ∨ ¬l8 r.Hour (0:Int) (23:Int) false=true) ∨ ¬l8 r.Minute (0:Int) (59:Int) false=true)->(59:Int)<=1000)/\(¬(((((¬l8 r.Month (1:Int) (12:Int) false=true ∨ ¬l8 r.WeekNo (1:Int) (53:Int) true=true) ∨ ¬l8 r.YearDay (1:Int) (366:Int) true=true) ∨ ¬l8 r.MonthDay (1:Int) (31:Int) true=true) ∨ ¬l8 r.Hour (0:Int) (23:Int) false=true) ∨ ¬l8 r.Minute (0:Int) (59:Int) false=true)->r.Second.length<=1000000)/\(¬((((((¬l8 r.Month (1:Int) (12:Int) false=true ∨ ¬l8 r.WeekNo (1:Int) (53:Int) true=true) ∨ ¬l8 r.YearDay (1:Int) (366:Int) true=true) ∨ ¬l8 r.MonthDay (1:Int) (31:Int) true=true) ∨ ¬l8 r.Hour (0:Int) (23:Int) false=true) ∨ ¬l8 r.Minute (0:Int) (59:Int) false=true) ∨ ¬l8 r.Second (0:Int) (59:Int) false=true)->(0:Int)<=1)/\(¬((((((¬l8 r.Month (1:Int) (12:Int) false=true ∨ ¬l8 r.WeekNo (1:Int) (53:Int) true=true) ∨ ¬l8 r.YearDay (1:Int) (366:Int) true=true) ∨ ¬l8 r.MonthDay (1:Int) (31:Int) true=true) ∨ ¬l8 r.Hour (0:Int) (23:Int) false=true) ∨ ¬l8 r.Minute (0:Int) (59:Int) false=true) ∨ ¬l8 r.Second (0:Int) (59:Int) false=true)->(1:Int)<=1000)/\(¬((((((¬l8 r.Month (1:Int) (12:Int) false=true ∨ ¬l8 r.WeekNo (1:Int) (53:Int) true=true) ∨ ¬l8 r.YearDay (1:Int) (366:Int) true=true) ∨ ¬l8 r.MonthDay (1:Int) (31:Int) true=true) ∨ ¬l8 r.Hour (0:Int) (23:Int) false=true) ∨ ¬l8 r.Minute (0:Int) (59:Int) false=true) ∨ ¬l8 r.Second (0:Int) (59:Int) false=true)->(0:Int)<=366)/\(¬((((((¬l8 r.Month (1:Int) (12:Int) false=true ∨ ¬l8 r.WeekNo (1:Int) (53:Int) true=true) ∨ ¬l8 r.YearDay (1:Int) (366:Int) true=true) ∨ ¬l8 r.MonthDay (1:Int) (31:Int) true=true) ∨ ¬l8 r.Hour (0:Int) (23:Int) false=true) ∨ ¬l8 r.Minute (0:Int) (59:Int) false=true) ∨ ¬l8 r.Second (0:Int) (59:Int) false=true)->(366:Int)<=1000)/\(¬((((((¬l8 r.Month (1:Int) (12:Int) false=true ∨ ¬l8 r.WeekNo (1:Int) (53:Int) true=true) ∨ ¬l8 r.YearDay (1:Int) (366:Int) true=true) ∨ ¬l8 r.MonthDay (1:Int) (31:Int) true=true) ∨ ¬l8 r.Hour (0:Int) (23:Int) false=true) ∨ ¬l8 r.Minute (0:Int) (59:Int) false=true) ∨ ¬l8 r.Second (0:Int) (59:Int) false=true)->r.SetPos.length<=1000000)/\(((((((¬l8 r.Month (1:Int) (12:Int) false=true ∨ ¬l8 r.WeekNo (1:Int) (53:Int) true=true) ∨ ¬l8 r.YearDay (1:Int) (366:Int) true=true) ∨ ¬l8 r.MonthDay (1:Int) (31:Int) true=true) ∨ ¬l8 r.Hour (0:Int) (23:Int) false=true) ∨ ¬l8 r.Minute (0:Int) (59:Int) false=true) ∨ ¬l8 r.Second (0:Int) (59:Int) false=true) ∨ ¬l8 r.SetPos (1:Int) (366:Int) true=true->Q false)/\(¬(((((((¬l8 r.Month (1:Int) (12:Int) false=true ∨ ¬l8 r.WeekNo (1:Int) (53:Int) true=true) ∨ ¬l8 r.YearDay (1:Int) (366:Int) true=true) ∨ ¬l8 r.MonthDay (1:Int) (31:Int) true=true) ∨ ¬l8 r.Hour (0:Int) (23:Int) false=true) ∨ ¬l8 r.Minute (0:Int) (59:Int) false=true) ∨ ¬l8 r.Second (0:Int) (59:Int) false=true) ∨ ¬l8 r.SetPos (1:Int) (366:Int) true=true)->((24:Int)<(↑r.Days.length:Int)->Q false)/\(¬(24:Int)<(↑r.Days.length:Int)->∃ (J:Int->Prop),((r.Freq=1->J (5:Int))/\(¬r.Freq=1->J (0:Int)))/\∀ (x:Int),J x->∃ (J:Int->Prop),((r.Freq=0/\(↑r.WeekNo.length:Int)=0->J (53:Int))/\(¬(r.Freq=0/\(↑r.WeekNo.length:Int)=0)->J x))/\∀ (x:Int),J x->∃ (I:Int->Prop),∃ (m:Int->Nat),I (0:Int)/\∀ (x_1:Int),I x_1->(x_1<(↑r.Days.length:Int)->(0:Int)<=x_1/\x_1<(↑r.Days.length:Int)/\(b9 (ix r.Days x_1).N->b9 (ix r.Days x_1).Day->(¬(((ix r.Days x_1).Day<0 ∨ (6:Int)<(ix r.Days x_1).Day) ∨ x<(ix r.Days x_1).N)->b9 ((0:Int)-x))/\(¬((((ix r.Days x_1).Day<0 ∨ (6:Int)<(ix r.Days x_1).Day) ∨ x<(ix r.Days x_1).N) ∨ (ix r.Days x_1).N<(0:Int)-x)/\(0:Int)<x_1->b9 (x_1-1))/\((¬((((ix r.Days x_1).Day<0 ∨ (6:Int)<(ix r.Days x_1).Day) ∨ x<(ix r.Days x_1).N) ∨ (ix r.Days x_1).N<(0:Int)-x)/\(0:Int)<x_1->(0:Int)<=x_1-1)/\(¬((((ix r.Days x_1).Day<0 ∨ (6:Int)<(ix r.Days x_1).Day) ∨ x<(ix r.Days x_1).N) ∨ (ix r.Days x_1).N<(0:Int)-x)/\(0:Int)<x_1->x_1-1<(↑r.Days.length:Int)))/\((¬((((ix r.Days x_1).Day<0 ∨ (6:Int)<(ix r.Days x_1).Day) ∨ x<(ix r.Days x_1).N) ∨ (ix r.Days x_1).N<(0:Int)-x)/\(0:Int)<x_1->b9 (ix r.Days (x_1-1)).N)->(¬((((ix r.Days x_1).Day<0 ∨ (6:Int)<(ix r.Days x_1).Day) ∨ x<(ix r.Days x_1).N) ∨ (ix r.Days x_1).N<(0:Int)-x)/\(0:Int)<x_1->b9 (ix r.Days (x_1-1)).Day)->(((((ix r.Days x_1).Day<0 ∨ (6:Int)<(ix r.Days x_1).Day) ∨ x<(ix r.Days x_1).N) ∨ (ix r.Days x_1).N<(0:Int)-x) ∨ (0:Int)<x_1/\¬a5t (Nt.mk (ix r.Days (x_1-1)).N (ix r.Days (x_1-1)).Day) (Nt.mk (ix r.Days x_1).N (ix r.Days x_1).Day)=true->Q false)/\(¬(((((ix r.Days x_1).Day<0 ∨ (6:Int)<(ix r.Days x_1).Day) ∨ x<(ix r.Days x_1).N) ∨ (ix r.Days x_1).N<(0:Int)-x) ∨ (0:Int)<x_1/\¬a5t (Nt.mk (ix r.Days (x_1-1)).N (ix r.Days (x_1-1)).Day) (Nt.mk (ix r.Days x_1).N (ix r.Days x_1).Day)=true)->b9 (x_1+1)/\I (x_1+1)/\m (x_1+1)<m x_1))))/\(¬x_1<(↑r.Days.length:Int)->((r.Freq≠0/\(0:Int)<(↑r.WeekNo.length:Int) ∨ ((1:Int)<=r.Freq/\r.Freq<=3)/\(0:Int)<(↑r.YearDay.length:Int)) ∨ r.Freq=2/\(0:Int)<(↑r.MonthDay.length:Int)->Q false)/\(¬((r.Freq≠0/\(0:Int)<(↑r.WeekNo.length:Int) ∨ ((1:Int)<=r.Freq/\r.Freq<=3)/\(0:Int)<(↑r.YearDay.length:Int)) ∨ r.Freq=2/\(0:Int)<(↑r.MonthDay.length:Int))->b9 ((↑r.Month.length:Int)+(↑r.WeekNo.length:Int))/\b9 ((↑r.Month.length:Int)+(↑r.WeekNo.length:Int)+(↑r.YearDay.length:Int))/\b9 ((↑r.Month.length:Int)+(↑r.WeekNo.length:Int)+(↑r.YearDay.length:Int)+(↑r.MonthDay.length:Int))/\b9 ((↑r.Month.length:Int)+(↑r.WeekNo.length:Int)+(↑r.YearDay.length:Int)+(↑r.MonthDay.length:Int)+(↑r.Days.length:Int))/\b9 ((↑r.Month.length:Int)+(↑r.WeekNo.length:Int)+(↑r.YearDay.length:Int)+(↑r.MonthDay.length:Int)+(↑r.Days.length:Int)+(↑r.Hour.length:Int))/\b9 ((↑r.Month.length:Int)+(↑r.WeekNo.length:Int)+(↑r.YearDay.length:Int)+(↑r.MonthDay.length:Int)+(↑r.Days.length:Int)+(↑r.Hour.length:Int)+(↑r.Minute.length:Int))/\b9 ((↑r.Month.length:Int)+(↑r.WeekNo.length:Int)+(↑r.YearDay.length:Int)+(↑r.MonthDay.length:Int)+(↑r.Days.length:Int)+(↑r.Hour.length:Int)+(↑r.Minute.length:Int)+(↑r.Second.length:Int))/\((0:Int)<(↑r.Month.length:Int)+(↑r.WeekNo.length:Int)+(↑r.YearDay.length:Int)+(↑r.MonthDay.length:Int)+(↑r.Days.length:Int)+(↑r.Hour.length:Int)+(↑r.Minute.length:Int)+(↑r.Second.length:Int) ∨ (↑r.SetPos.length:Int)=0->b9 (B6 r.Hour * B6 r.Minute))/\((0:Int)<(↑r.Month.length:Int)+(↑r.WeekNo.length:Int)+(↑r.YearDay.length:Int)+(↑r.MonthDay.length:Int)+(↑r.Days.length:Int)+(↑r.Hour.length:Int)+(↑r.Minute.length:Int)+(↑r.Second.length:Int) ∨ (↑r.SetPos.length:Int)=0->b9 (B6 r.Hour * B6 r.Minute * B6 r.Second))/\Q (decide (((0:Int)<(↑r.Month.length:Int)+(↑r.WeekNo.length:Int)+(↑r.YearDay.length:Int)+(↑r.MonthDay.length:Int)+(↑r.Days.length:Int)+(↑r.Hour.length:Int)+(↑r.Minute.length:Int)+(↑r.Second.length:Int) ∨ (↑r.SetPos.length:Int)=0)/\B6 r.Hour * B6 r.Minute * B6 r.Second<=48)))))))))
theorem d4h {r:Rl} {Q:Bool->Prop}:@Eq Prop (VqR r Q) (i6 (E:=Nqf) (j7 Nqf H0 c4l 2) (c4l 44) Tryz.f44 [.agg [.int .i64 r.Freq,.int .i64 r.Interval,.int .i64 r.Count,.sl (N:=U) 25 r.Until,.sl (N:=U) 3 r.Month,.sl (N:=U) 3 r.WeekNo,.sl (N:=U) 3 r.YearDay,.sl (N:=U) 3 r.MonthDay,.sl (N:=U) 60 r.Days,.sl (N:=U) 3 r.Hour,.sl (N:=U) 3 r.Minute,.sl (N:=U) 3 r.Second,.sl (N:=U) 3 r.SetPos,.int .i64 r.Wkst]] [] [] 0 (m9 Nqf [.bool] Q)):=by kernel_rfl
theorem d6n {r:Rl} {Q:Bool->Prop} (h:VqR r Q):i6 (E:=Nqf) (j7 Nqf H0 c4l 2) (c4l 44) Tryz.f44 [.agg [.int .i64 r.Freq,.int .i64 r.Interval,.int .i64 r.Count,.sl (N:=U) 25 r.Until,.sl (N:=U) 3 r.Month,.sl (N:=U) 3 r.WeekNo,.sl (N:=U) 3 r.YearDay,.sl (N:=U) 3 r.MonthDay,.sl (N:=U) 60 r.Days,.sl (N:=U) 3 r.Hour,.sl (N:=U) 3 r.Minute,.sl (N:=U) 3 r.Second,.sl (N:=U) 3 r.SetPos,.int .i64 r.Wkst]] [] [] 0 (m9 Nqf [.bool] Q):=by rw [<- d4h]; exact h
set_option maxHeartbeats 2000000 in
theorem pqR (r:Rl) (hfw:B9 r=true):VqR r (fun y0=>y0=A2 r):=by
 unfold VqR
 obtain ⟨wmo,wwn,wyd,wmd,wdy,who,wmi,wse,wsp,wti⟩:=a10 hfw
 refine ⟨fun h=>(o5 fun R=>by obtain ⟨a1,a2,a3,a4,a5,a6,a7,a8⟩:=R.head; omega).symm,fun h=>?_⟩
 have hH:b21 r:=⟨by omega,by omega,by omega,by omega,by omega,by omega,by omega,by omega⟩
 refine ⟨fun _=>by decide,fun h=>by omega,fun _ _ _ _ _ _=>?_⟩
 simp only [Bool.decide_eq_true,a54]
 refine ⟨fun hu=>(o5 fun R=>?_).symm,fun hu=>?_⟩
 . obtain ⟨a,b⟩:=R.til
   rcases hu with hu | ⟨h1,hu | hu⟩
   . omega
   . have:=(b h1).1; omega
   . exact hu (b h1).2
 have hU:b4p r:=by
  have u1:¬ 1<(r.Until.length:Int):=fun h=>hu (.inl h)
  exact ⟨by omega,fun h1=>⟨by have:¬ 0<r.Count:=fun h=>hu (.inr ⟨h1,.inl h⟩); omega,Classical.not_not.1 fun hn=>hu (.inr ⟨h1,.inr hn⟩)⟩⟩
 clear h hu
 repeat' apply And.intro
 all_goals first | decide | omega | (intro _; first | decide | omega) | skip
 . intro hn
   refine (o5 fun R=>?_).symm
   have R:=R.lists
   rcases hn with ((((((h|h)|h)|h)|h)|h)|h)|h
   . exact h R.mo
   . exact h R.wn
   . exact h R.yd
   . exact h R.md
   . exact h R.ho
   . exact h R.mi
   . exact h R.se
   . exact h R.sp
 intro hn
 have hL:a7v r:=by
  simp only [not_or,Classical.not_not] at hn
  obtain ⟨⟨⟨⟨⟨⟨⟨a,b⟩,c⟩,d⟩,e⟩,f⟩,g⟩,h⟩:=hn
  exact ⟨a,b,c,d,e,f,g,h⟩
 clear hn
 refine ⟨fun h24=>(o5 fun R=>by have:=R.few; omega).symm,fun h24=>?_⟩
 refine ⟨fun x=>x=if r.Freq=1 then 5 else 0,⟨fun h=>by rw [if_pos h],fun h=>by rw [if_neg h]⟩,?_⟩
 rintro m0 hm0
 refine ⟨fun x=>x=B8 r,⟨fun h=>?_,fun h=>?_⟩,?_⟩
 . unfold B8; rw [if_neg (by omega),if_pos h]
 . rw [hm0]
   unfold B8
   by_cases h1:r.Freq=1
   . rw [if_pos h1,if_pos h1]
   . rw [if_neg h1,if_neg h1,if_neg h]
 rintro m hm
 have hm1:0<=m/\m<=53:=by
  rw [hm]; unfold B8
  split
  . omega
  . split <;> omega
 refine ⟨fun x=>0<=x/\x<=r.Days.length/\K9 r.Days m x,fun x=>((r.Days.length:Int)-x).toNat,⟨Int.le_refl _,by omega,K9.nil⟩,?_⟩
 rintro x ⟨x0,x1,hd⟩
 refine ⟨fun hx=>⟨x0,hx,fun _ _=>⟨fun _=>⟨by omega,by omega⟩,fun h=>⟨by omega,by omega⟩,⟨fun h=>by omega,fun h=>by omega⟩,fun _ _=>⟨fun hb=>?_,fun hb=>?_⟩⟩⟩,fun hx=>?_⟩
 . refine (o5 fun R=>?_).symm
   have a:=R.days.ok x x0 hx
   rw [<- hm] at a
   obtain ⟨a1,a2,a3,a4⟩:=a
   rcases hb with (((h | h) | h) | h) | ⟨h0,h⟩
   . omega
   . omega
   . omega
   . omega
   . exact h (a73.2 (R.days.up x h0 hx))
 . have hb':=fun h=>hb (.inl h)
   exact ⟨⟨by omega,by omega⟩,⟨by omega,by omega,hd.step ⟨by omega,by omega,by omega,by omega⟩ fun h0=>a73.1 (Classical.not_not.1 fun hn=>hb (.inr ⟨h0,hn⟩))⟩,by dsimp only; omega⟩
 . refine ⟨fun hf=>(o5 fun R=>R.fit hf).symm,fun hf=>?_⟩
   have l1:=@P3 r.Hour
   have l2:=@P3 r.Minute
   have l3:=@P3 r.Second
   have k:=d0b (a:=B6 r.Hour) (b:=B6 r.Minute) (c:=B6 r.Second) (by omega) (by omega) (by omega)
   refine ⟨⟨by omega,by omega⟩,⟨by omega,by omega⟩,⟨by omega,by omega⟩,⟨by omega,by omega⟩,⟨by omega,by omega⟩,⟨by omega,by omega⟩,⟨by omega,by omega⟩,fun _=>k.1,fun _=>k.2,?_⟩
   by_cases hs:b7q r
   . rw [n9.2 ⟨hH,hU,hL,by omega,hm ▸ hd.done hx,hf,hs⟩]
     exact decide_eq_true hs
   . rw [o5 fun R=>hs R.some]
     exact decide_eq_false hs
noncomputable def e4x (r:Rl):Q1 U:=⟨[B9 r=true],[],blB (A2 r)⟩
noncomputable def cqR (a:List (SV U)):Option (Q1 U):=match a with | [.agg l_r]=>(y30.bk (.agg l_r)).bind fun r=>some (e4x r) | _=>none
theorem e0c (args:List (SV U)) (q:Q1 U) (h:cqR args=some q) (ho:l7 q.ob):l4 Nqf 44 args ⟨q.ob,q.hy,q.v,[]⟩:=by
 unfold cqR at h
 split at h
 . rename_i l_r
   obtain ⟨r,hb_r,h⟩:=Option.bind_eq_some_iff.1 h
   cases h
   refine l4.conv (E:=Nqf) (args':=[.agg [.int .i64 r.Freq,.int .i64 r.Interval,.int .i64 r.Count,.sl 25 r.Until,.sl 3 r.Month,.sl 3 r.WeekNo,.sl 3 r.YearDay,.sl 3 r.MonthDay,.sl 60 r.Days,.sl 3 r.Hour,.sl 3 r.Minute,.sl 3 r.Second,.sl 3 r.SetPos,.int .i64 r.Wkst]]) (q8 b5v (j8 b5v p8 c4l 2) Tryz.func44 (k:=.bool) trivial (d6n (pqR r ho.1)) 0) fun D w vs hr=>w5 [.agg l_r] [.agg [.int .i64 r.Freq,.int .i64 r.Interval,.int .i64 r.Count,.sl (N:=U) 25 r.Until,.sl (N:=U) 3 r.Month,.sl (N:=U) 3 r.WeekNo,.sl (N:=U) 3 r.YearDay,.sl (N:=U) 3 r.MonthDay,.sl (N:=U) 60 r.Days,.sl (N:=U) 3 r.Hour,.sl (N:=U) 3 r.Minute,.sl (N:=U) 3 r.Second,.sl (N:=U) 3 r.SetPos,.int .i64 r.Wkst]] _ ⟨fun _ h=>A5 hb_r h,trivial⟩ hr
 . cases h
noncomputable def NqR:Env:=Nqf.addL 44 cqR
theorem e0m:k8 NqR:=b5v.addL Tryz.call44 e0c
end Go.Proofs.YtdjfeninmbpflaaGreat
end
section
namespace Go.Proofs
open Go.Shelf
def Tryz.lays189_ren:Go.Shelf.Ren:=⟨fun | 189=>99 | 125=>112 | 257=>111 | 128=>124 | 129=>125 | 294=>115 | 295=>116 | 296=>117 | 297=>118 | 298=>119 | 299=>120 | 216=>121 | 300=>122 | 301=>123 | 328=>126 | 329=>127 | 330=>128 | 331=>129 | 332=>130 | 215=>113 | 343=>131 | n=>n,fun | 28=>27 | 3=>3 | 46=>137 | 0=>0 | 51=>147 | 53=>149 | 4=>4 | 183=>141 | 182=>140 | 131=>144 | 5=>5 | 9=>9 | 218=>150 | 222=>154 | 228=>156 | 229=>110 | n=>n,fun | n=>n⟩
theorem Tryz.lays189:Go.Proofs.Lays.n189 Tryz.prog Tryz.lays189_ren:={
 mixed:=by kernel_rfl
 f125:=Tryz.func112.trans (congrArg some (by kernel_rfl))
 f128:=Tryz.func124.trans (congrArg some (by kernel_rfl))
 f129:=Tryz.func125.trans (congrArg some (by kernel_rfl))
 f189:=Tryz.func99.trans (congrArg some (by kernel_rfl))
 f215:=Tryz.func113.trans (congrArg some (by kernel_rfl))
 f216:=Tryz.func121.trans (congrArg some (by kernel_rfl))
 f257:=Tryz.func111.trans (congrArg some (by kernel_rfl))
 f294:=Tryz.func115.trans (congrArg some (by kernel_rfl))
 f295:=Tryz.func116.trans (congrArg some (by kernel_rfl))
 f296:=Tryz.func117.trans (congrArg some (by kernel_rfl))
 f297:=Tryz.func118.trans (congrArg some (by kernel_rfl))
 f298:=Tryz.func119.trans (congrArg some (by kernel_rfl))
 f299:=Tryz.func120.trans (congrArg some (by kernel_rfl))
 f300:=Tryz.func122.trans (congrArg some (by kernel_rfl))
 f301:=Tryz.func123.trans (congrArg some (by kernel_rfl))
 f328:=Tryz.func126.trans (congrArg some (by kernel_rfl))
 f329:=Tryz.func127.trans (congrArg some (by kernel_rfl))
 f330:=Tryz.func128.trans (congrArg some (by kernel_rfl))
 f331:=Tryz.func129.trans (congrArg some (by kernel_rfl))
 f332:=Tryz.func130.trans (congrArg some (by kernel_rfl))
 f343:=Tryz.func131.trans (congrArg some (by kernel_rfl))
 t0:=Tryz.underlying0
 a0:=Tryz.isAgg0
 z0:=Tryz.sizeOf0
 v0:=Tryz.zeroValue0
 t3:=Tryz.underlying3
 a3:=Tryz.isAgg3
 z3:=Tryz.sizeOf3
 v3:=Tryz.zeroValue3
 t4:=Tryz.underlying4
 a4:=Tryz.isAgg4
 z4:=Tryz.sizeOf4
 v4:=Tryz.zeroValue4
 t5:=Tryz.underlying5
 a5:=Tryz.isAgg5
 z5:=Tryz.sizeOf5
 v5:=Tryz.zeroValue5
 t9:=Tryz.underlying9
 a9:=Tryz.isAgg9
 z9:=Tryz.sizeOf9
 v9:=Tryz.zeroValue9
 t28:=Tryz.underlying27
 a28:=Tryz.isAgg27
 z28:=Tryz.sizeOf27
 v28:=Tryz.zeroValue27
 t46:=Tryz.underlying137
 a46:=Tryz.isAgg137
 z46:=Tryz.sizeOf137
 v46:=Tryz.zeroValue137
 t51:=Tryz.underlying147
 a51:=Tryz.isAgg147
 z51:=Tryz.sizeOf147
 v51:=Tryz.zeroValue147
 t53:=Tryz.underlying149
 a53:=Tryz.isAgg149
 z53:=Tryz.sizeOf149
 v53:=Tryz.zeroValue149
 t131:=Tryz.underlying144
 a131:=Tryz.isAgg144
 z131:=Tryz.sizeOf144
 v131:=Tryz.zeroValue144
 t182:=Tryz.underlying140
 a182:=Tryz.isAgg140
 z182:=Tryz.sizeOf140
 v182:=Tryz.zeroValue140
 t183:=Tryz.underlying141
 a183:=Tryz.isAgg141
 z183:=Tryz.sizeOf141
 v183:=Tryz.zeroValue141
 t218:=Tryz.underlying150
 a218:=Tryz.isAgg150
 z218:=Tryz.sizeOf150
 v218:=Tryz.zeroValue150
 t222:=Tryz.underlying154
 a222:=Tryz.isAgg154
 z222:=Tryz.sizeOf154
 v222:=Tryz.zeroValue154
 t228:=Tryz.underlying156
 a228:=Tryz.isAgg156
 z228:=Tryz.sizeOf156
 v228:=Tryz.zeroValue156
 t229:=Tryz.underlying110
 a229:=Tryz.isAgg110
 z229:=Tryz.sizeOf110
 v229:=Tryz.zeroValue110 }
open Go.Sort Go.RowKit in
theorem Tryz.slices_Sort_int (blk off cap:Nat) (zs:List Int) (w:World) (hH:Holds (Value.int .i64) w blk off zs.toArray) (hblk:blk<w.heap.size) (hsz:zs.length<4611686018427387904) :
  Calls Tryz.prog 99 #[.slice (some ⟨blk,off,none⟩) zs.length cap] w fun e w' =>
   e=.returned (.tuple #[])/\∃ n os,w'=grow (putRow (Value.int .i64) (Sort.ahead w n) blk off (zs.mergeSort fun x y=>decide (x<=y)).toArray) os:=Any.slices_Sort_int Tryz.lays189 blk off cap zs w hH hblk hsz
def Tryz.laysNm215_ren:Go.Shelf.Ren:=⟨fun | 15=>98 | n=>n,fun | 22=>27 | 3=>3 | 4=>4 | n=>n,fun | n=>n⟩
theorem Tryz.laysNm215:Go.Proofs.Lays2.n15 Tryz.prog Tryz.laysNm215_ren:={
 mixed:=by kernel_rfl
 f15:=Tryz.func98.trans (congrArg some (by kernel_rfl))
 t3:=Tryz.underlying3
 a3:=Tryz.isAgg3
 z3:=Tryz.sizeOf3
 v3:=Tryz.zeroValue3
 t4:=Tryz.underlying4
 a4:=Tryz.isAgg4
 z4:=Tryz.sizeOf4
 v4:=Tryz.zeroValue4
 t22:=Tryz.underlying27
 a22:=Tryz.isAgg27
 z22:=Tryz.sizeOf27
 v22:=Tryz.zeroValue27
 i3:=by kernel_rfl }
open Go.RowKit Go.Lib in
theorem Tryz.slices_Clone_int (b off n c:Nat) (zs:List Int) (w:World) (hz:n<=zs.length) (hbig:n * 8<=140737488355328) (hc:∀ j,j<zs.length->w.cell? ⟨b,off+j,none⟩=some (.int .i64 (zs.getD j 0))) :
  Calls Tryz.prog 98 #[.slice (some ⟨b,off,none⟩) n c] w fun e w'=>∃ v',e=.returned v'/\w'.ownsRow w.heap.size 3 1 v' n ((zs.take n).map (Value.int .i64))/\v'≠.slice none 0 0/\Below w.heap.size w w':=Any.slices_Clone_int Tryz.laysNm215 b off n c zs w hz hbig hc
open Go.RowKit Go.Lib in
theorem Tryz.slices_Clone_int_nil (n c:Nat) (w:World) :
  Calls Tryz.prog 98 #[.slice none n c] w fun e w'=>e=.returned (.slice none 0 0)/\w'=w:=Any.slices_Clone_int_nil Tryz.laysNm215 n c w
open Go.RowKit Go.Lib in
theorem Tryz.slices_Clone_int_zero (a:Addr) (c:Nat) (w:World) :
  Calls Tryz.prog 98 #[.slice (some a) 0 c] w fun e w'=>∃ v',e=.returned v'/\w'.ownsRow w.heap.size 3 1 v' 0 []/\v'≠.slice none 0 0/\Below w.heap.size w w':=Any.slices_Clone_int_zero Tryz.laysNm215 a c w
def Tryz.laysNm220_ren:Go.Shelf.Ren:=⟨fun | 20=>100 | n=>n,fun | 22=>27 | 3=>3 | 4=>4 | 0=>0 | n=>n,fun | n=>n⟩
theorem Tryz.laysNm220:Go.Proofs.Lays2.n20 Tryz.prog Tryz.laysNm220_ren:={
 mixed:=by kernel_rfl
 f20:=Tryz.func100.trans (congrArg some (by kernel_rfl))
 t0:=Tryz.underlying0
 a0:=Tryz.isAgg0
 z0:=Tryz.sizeOf0
 v0:=Tryz.zeroValue0
 t3:=Tryz.underlying3
 a3:=Tryz.isAgg3
 z3:=Tryz.sizeOf3
 v3:=Tryz.zeroValue3
 t4:=Tryz.underlying4
 a4:=Tryz.isAgg4
 z4:=Tryz.sizeOf4
 v4:=Tryz.zeroValue4
 t22:=Tryz.underlying27
 a22:=Tryz.isAgg27
 z22:=Tryz.sizeOf27
 v22:=Tryz.zeroValue27
 i3:=by kernel_rfl }
open Go.RowKit Go.Lib Go.Sort in
theorem Tryz.slices_Compact_int (blk off cap:Nat) (zs:List Int) (w:World) (hH:Holds (Value.int .i64) w blk off zs.toArray) (hsz:zs.length<=9223372036854775807) (hcap:zs.length<=cap) :
  Calls Tryz.prog 100 #[.slice (some ⟨blk,off,none⟩) zs.length cap] w fun e w'=>e=.returned (.slice (some ⟨blk,off,none⟩) (Lib.compact zs).length cap)/\∃ q,w'=putRow (Value.int .i64) (Sort.ahead w q) blk off (Lib.compact zs++List.replicate (zs.length-(Lib.compact zs).length) 0).toArray:=Any.slices_Compact_int Tryz.laysNm220 blk off cap zs w hH hsz hcap
open Go.RowKit Go.Lib Go.Sort in
theorem Tryz.slices_Compact_int_empty (a:Option Addr) (cap:Nat) (w:World) :
  Calls Tryz.prog 100 #[.slice a 0 cap] w fun e w'=>e=.returned (.slice a 0 cap)/\w'=w:=Any.slices_Compact_int_empty Tryz.laysNm220 a cap w
open Go.RowKit Go.Sort in
theorem Tryz.slices_Sort_int_none (p:Option Addr) (cap:Nat) (w:World) :
  Calls Tryz.prog 99 #[.slice p 0 cap] w fun e w'=>e=.returned (.tuple #[])/\w'=w:=Any.slices_Sort_int_none Tryz.lays189 p cap w
end Go.Proofs
end
section
namespace Go.Proofs.YtdjfeninmbpflaaGreat
open Go Go.Wk Go.Wl Go.Rx Go.Re Go.Proofs Go.RowKit
theorem a7l {w w1 w':World} (hs:Sim w w1) (h:RowKit.Below w1.heap.size w1 w'):Ext [] w w':=by
 obtain ⟨k,rfl⟩:=hs
 exact ⟨h.os,h.tape,h.output,h.size,fun b hb _=>h.block b hb⟩
theorem Sim.cell {w w1:World} (h:Sim w w1) (a:Addr):w1.cell? a=w.cell? a:=by obtain ⟨k,rfl⟩:=h; rfl
theorem c4a {Z:Nat->Prop} {w w2:World} {v':Value} {n:Nat} {xs:List Value} {l:List Int} (hl:l.length=n) (hl63:∀ s∈l,InI s) (hx:xs=l.map (Value.int .i64)) (ho:w2.ownsRow w.heap.size 3 1 v' n xs):∃ bs,(∀ b∈bs,w.heap.size<=b)/\Ac y6 Z w2 v' l bs:=by
 subst hx
 rcases ho.2 with ⟨hv,hn⟩ | ⟨g,cap',cur,hv,hbg,hg,hn,hcm,hcs,hct⟩
 . exact ⟨[],fun _ h=>(by cases h),.inl ⟨hv,List.eq_nil_of_length_eq_zero (by omega),rfl⟩⟩
 . refine ⟨[g],fun b hb=>by rw [List.mem_singleton.1 hb]; exact hbg,.inr ⟨g,cap',cur.toList,3,by rw [hl]; exact hv,rfl,⟨(0,0),.inl rfl,hg⟩,by rw [Array.length_toList]; exact hcs,by omega,fun i hi=>?_⟩⟩
   refine ⟨[.int .i64 l[i]],rfl,fun j hj=>?_,⟨rfl,hl63 _ (List.getElem_mem _)⟩⟩
   have hj0:j=0:=by have hj:j<1:=hj; omega
   subst hj0
   have e3:i * y6.sz+0=i:=by show i * 1+0=i; omega
   rw [e3]
   have:=congrArg (fun x=>x[i]?) hct
   rw [Nat.mul_one,List.getElem?_take_of_lt (by omega),List.getElem?_map,List.getElem?_eq_getElem hi] at this
   simpa using this
theorem b9d (l:List Int) (D Z:Nat->Prop) (w w1:World) (hs:Sim w w1) (v:Value) (hv:(s6 y6).rd D w [v] l) (h1:l.length<=1000000) :
  Calls Tryz.prog 98 #[v] w1 fun e w2=>∃ v' bs,e=.returned v'/\Ext [] w w2/\(∀ b∈bs,w.heap.size<=b)/\Ac y6 Z w2 v' l bs:=by
 have hsz:w1.heap.size=w.heap.size:=by obtain ⟨k,rfl⟩:=hs; rfl
 obtain ⟨hl63,A,cap,e,⟨_,hcap⟩,hc⟩:=hv
 simp only [List.cons.injEq,and_true] at e
 subst e
 by_cases h0:l.length=0
 . have hl:=List.eq_nil_of_length_eq_zero h0
   rw [h0]
   cases A with
   | none=>exact Calls.mono (Tryz.slices_Clone_int_nil 0 cap w1) fun e w2 ⟨he,hw⟩=>⟨_,[],he,by subst hw; exact b6r hs (Ext.refl _ _),fun _ h=>(by cases h),.inl ⟨rfl,hl,rfl⟩⟩
   | some a =>
    refine Calls.mono (Tryz.slices_Clone_int_zero a cap w1) fun e w2 ⟨v',he,ho,_,hbl⟩=>?_
    rw [hsz] at ho
    obtain ⟨bs,hb,hac⟩:=c4a (Z:=Z) (l:=l) h0 (fun s hs=>by rw [hl] at hs; cases hs) (by rw [hl]; rfl) ho
    exact ⟨v',bs,he,a7l hs hbl,hb,hac⟩
 obtain ⟨b,o,c,eA,hb,hcell,hrd⟩:=hc 0 (by omega)
 subst eA
 have hcells:∀ (j:Nat),j<l.length->w1.cell? ⟨b,o+j,none⟩=some (.int .i64 (l.getD j 0)):=fun j hj=>by
  rw [Sim.cell hs,List.getD_eq_getElem?_getD,List.getElem?_eq_getElem hj]
  obtain ⟨b',o',c',eA',_,hcell',hrd'⟩:=hc j hj
  simp only [Option.some.injEq,Addr.mk.injEq] at eA'
  obtain ⟨rfl,rfl,-⟩:=eA'
  have hc1:=hrd'.1
  subst hc1
  obtain ⟨C,T,z,hh,hC⟩:=hcell'
  have:=hC 0 (by simp)
  have e1:o+j * y6.sz+0=o+j:=by show o+j * 1+0=o+j; omega
  rw [e1] at this
  unfold World.cell?
  simp only [hh]
  simpa using this
 refine Calls.mono (Tryz.slices_Clone_int b o l.length cap l w1 (Nat.le_refl _) (by omega) hcells) fun e w2 ⟨v',he,ho,hne,hbl⟩=>?_
 rw [hsz] at ho
 obtain ⟨bs,hb',hac⟩:=c4a (Z:=Z) (l:=l) rfl (fun s hs=>by
  obtain ⟨i,hi,rfl⟩:=List.getElem_of_mem hs
  obtain ⟨_,_,_,_,_,_,h⟩:=hc i hi
  exact h.2) (by rw [List.take_of_length_le (Nat.le_refl _)]) ho
 exact ⟨v',bs,he,a7l hs hbl,hb',hac⟩
theorem d2v {K nx:Nat} {args:List (SV U)} {l:List Int} {ob:List Prop} (hl:l.length<=1000000)
  (h:∀ (ρ:n8) (Z:Nat->Prop) (w:World) (vs:List Value),Rep U eT ρ Z w (.tuple vs.toArray) (.tup args)->∀ w1,Sim w w1->Calls Tryz.prog K vs.toArray w1 fun e w2=>∃ v' bs,e=.returned v'/\Ext [] w w2/\(∀ b∈bs,w.heap.size<=b)/\Ac y6 Z w2 v' l bs) :
  D6 Tryz.prog U eT Gl K args nx ⟨ob,[],.acc nx,[.ac (N:=U) 3 l]⟩:=⟨fun ρ Z w vs hfr hz _ ha w1 hs=>by
 refine Calls.mono (h ρ Z w vs ha w1 hs) fun e w2 ⟨v',bs,he,hx,hb,hac⟩=>?_
 obtain ⟨A,cap,rfl⟩:∃ A cap,v'=.slice A l.length cap:=by
  rcases hac with ⟨e1,e2,_⟩ | ⟨b,cap,C,T,e1,_⟩
  . subst e1; subst e2; exact ⟨_,_,rfl⟩
  . exact ⟨_,_,e1⟩
 have hsub:=u7 (L:=⟨0,A,l.length,cap,bs⟩) (hfr nx (Nat.le_refl _))
 refine ⟨_,w2,he,Sim.refl _,A1 ρ nx ⟨0,A,l.length,cap,bs⟩,Z,hsub,fun i hi=>by have hi:nx+1<=i:=hi; unfold A1; rw [if_neg (by omega)]; exact hfr i (by omega),fun _ h=>h,fun _ h=>.inl h,.acc j9,?_,trivial⟩
 refine (Sep.nil hz).add hx ⟨_,j9,rfl,(show l.length<=9223372036854775807 by omega),hac⟩ p5 (fun b hb'=>?_) rfl
 have hb':b∈o8 U (A1 ρ nx ⟨0,A,l.length,cap,bs⟩) nx (.ac (N:=U) 3 l):=hb'
 have hb':b∈bs:=Eq.mp (congrArg (b∈·) (q6 (N:=U) (id:=nx) (t:=3) (l:=(l:List (U.U 3))) (j9 (ρ:=ρ) (id:=nx)))) hb'
 exact ⟨hb b hb',hac.lt b hb'⟩⟩
def cCl (a:List (SV U)) (nx:Nat):Option (CR U):=match a with | [.sl 3 l]=>some ⟨[List.length (α:=Int) l<=1000000],[],.acc nx,[.ac (N:=U) 3 l]⟩ | _=>none
theorem d9l (args:List (SV U)) (nx:Nat) (c:CR U) (h:cCl args nx=some c) (hpu:args.all w7=true) (ho:l7 c.ob):D6 Tryz.prog U eT Gl 98 args nx c:=by
 unfold cCl at h
 split at h
 . rename_i l
   cases h
   exact d2v ho.1 fun ρ Z w vs ha w1 hs=>by
    obtain ⟨v1,r1,rfl,hv1,ha⟩:=Rep.tup_cons ha
    obtain rfl:=U7 ha
    cases hv1 with | sl hv=>exact b9d l Z Z w w1 hs v1 hv ho.1
 . cases h
theorem c9a {K:Nat} {l l':List Int} (hn:l'.length=l.length) (h:∀ (Z:Nat->Prop) (w:World) (v:Value) (bs:List Nat),Ac y6 Z w v l bs->A3 Tryz.prog K [v] w fun _ w'=>Ac y6 Z w' v l' bs/\Ext bs w w') :
  N7 Tryz.prog U eT Gl K [.acc 0] [(0,.ac (N:=U) 3 l)] 2 (fun k=>True->k .un [(0,.ac (N:=U) 3 l')] 2):=by
 intro kk hk ρ Z w vs B hfr hsep hg ha
 have ok:=hsep.ok 0 (s7 U eT ρ B 0 (.ac (N:=U) 3 l)) rfl
 obtain ⟨L,hL,hLn,hlen,hac⟩:=ok.holds
 have hF:(s7 U eT ρ B 0 (.ac (N:=U) 3 l)).F=L.bs:=by show o8 U ρ 0 (.ac (N:=U) 3 l)=_; exact q6 hL
 obtain ⟨v1,vr,hvs,hv1,hvr⟩:=Rep.tup_cons ha
 obtain rfl:=U7 hvr
 have hv1':v1=.slice L.A L.n L.cap:=by
  cases hv1 with | acc hL'=>rw [hL] at hL'; cases hL'; rfl
 subst hv1'
 rw [hvs]
 refine (h Z w _ L.bs hac).mono fun v w' ⟨hac',x1⟩=>?_
 have hs1:=Wl.Sep.upd hsep 0 (t:=s7 U eT ρ B 0 (.ac (N:=U) 3 l)) (t':=s7 U eT ρ B 0 (.ac (N:=U) 3 l')) rfl (by rw [hF]; exact x1) ⟨L,hL,by rw [hLn]; exact hn.symm,(show l'.length<=_ by rw [hn]; exact hlen),hac'⟩ p5 (fun b hb=>by
  have hb:b∈o8 U ρ 0 (.ac (N:=U) 3 l'):=hb
  have hb:b∈L.bs:=Eq.mp (congrArg (b∈·) (q6 (N:=U) (id:=0) (t:=3) (l:=(l':List (U.U 3))) hL)) hb
  exact ⟨by rw [hF]; exact .inl hb,hac'.lt b hb⟩) rfl
 exact ⟨ρ,Z,.un,[(0,.ac (N:=U) 3 l')],2,hs1,hfr,fun _ _ h=>h,fun _ h=>h,fun _ h=>.inl h,.un,hk trivial⟩
theorem c8t {K:Nat} {l l':List Int} (hn:l'.length<=9223372036854775807) (h:∀ (Z:Nat->Prop) (w:World) (v:Value) (bs:List Nat),Ac y6 Z w v l bs->A3 Tryz.prog K [v] w fun v' w'=>Ac y6 Z w' v' l' bs/\Ext bs w w') :
  N7 Tryz.prog U eT Gl K [.acc 0] [(0,.ac (N:=U) 3 l)] 2 (fun k=>True->k (.acc 2) [(2,.ac (N:=U) 3 l')] 3):=by
 intro kk hk ρ Z w vs B hfr hsep hg ha
 have ok:=hsep.ok 0 (s7 U eT ρ B 0 (.ac (N:=U) 3 l)) rfl
 obtain ⟨L,hL,hLn,hlen,hac⟩:=ok.holds
 have hF:(s7 U eT ρ B 0 (.ac (N:=U) 3 l)).F=L.bs:=by show o8 U ρ 0 (.ac (N:=U) 3 l)=_; exact q6 hL
 obtain ⟨v1,vr,hvs,hv1,hvr⟩:=Rep.tup_cons ha
 obtain rfl:=U7 hvr
 have hv1':v1=.slice L.A L.n L.cap:=by
  cases hv1 with | acc hL'=>rw [hL] at hL'; cases hL'; rfl
 subst hv1'
 rw [hvs]
 refine (h Z w _ L.bs hac).mono fun v w' ⟨hac',x1⟩=>?_
 obtain ⟨A,cap,rfl⟩:∃ A cap,v=.slice A l'.length cap:=by
  rcases hac' with ⟨e1,e2,_⟩ | ⟨b,cap,C,T,e1,_⟩
  . subst e1; subst e2; exact ⟨_,_,rfl⟩
  . exact ⟨_,_,e1⟩
 have hρ:=u7 (L:=⟨0,A,l'.length,cap,L.bs⟩) (hfr 2 (Nat.le_refl _))
 have hs1:=Wl.Sep.upd hsep 0 (t:=s7 U eT ρ B 0 (.ac (N:=U) 3 l)) (t':=s7 U eT (A1 ρ 2 ⟨0,A,l'.length,cap,L.bs⟩) B 2 (.ac (N:=U) 3 l')) rfl (by rw [hF]; exact x1) ⟨_,j9,rfl,hn,hac'⟩ p5 (fun b hb=>by
  have hb:b∈o8 U (A1 ρ 2 ⟨0,A,l'.length,cap,L.bs⟩) 2 (.ac (N:=U) 3 l'):=hb
  have hb:b∈L.bs:=Eq.mp (congrArg (b∈·) (q6 (N:=U) (id:=2) (t:=3) (l:=(l':List (U.U 3))) (j9 (ρ:=ρ) (id:=2)))) hb
  exact ⟨by rw [hF]; exact .inl hb,hac'.lt b hb⟩) rfl
 exact ⟨A1 ρ 2 ⟨0,A,l'.length,cap,L.bs⟩,Z,.acc 2,[(2,.ac (N:=U) 3 l')],3,hs1,fun i hi=>by unfold A1; rw [if_neg (by omega)]; exact hfr i (by omega),hρ,fun _ h=>h,fun _ h=>.inl h,.acc j9,hk trivial⟩
def fSo:FC U:=⟨[],[],fun a its=>match a,its with
 | [.acc 0],[(0,.ac 3 l)]=>some ⟨[List.length (α:=Int) l<=1000000],[],.un,[(0,.ac (N:=U) 3 (srt l))],2⟩
 | _,_=>none⟩
theorem d1q (args:List (SV U)) (its:i4 U) (r:FR U) (h:fSo.C args its=some r) (ho:l7 r.ob):N7 Tryz.prog U eT Gl 99 args its (2 * its.length) (fun k=>l7 r.hy->k r.v r.its r.n):=by
 unfold fSo at h
 simp only at h
 split at h
 . rename_i l
   cases h
   have ho1:List.length (α:=Int) l<=1000000:=ho.1
   exact c9a (X8 l) fun Z w v bs hac=>c9f Tryz.slices_Sort_int_none Tryz.slices_Sort_int hac (by omega)
 . cases h
theorem a2e (l:List Int):(Lib.compact l).length<=l.length:=by
 unfold Lib.compact Lib.compactUpTo
 rw [List.length_map]
 have:=List.length_filter_le (Lib.keeps l.toArray) (List.range l.length)
 rwa [List.length_range] at this
theorem b1g {l:List Int} {x:Int} (h:x∈Lib.compact l):x∈l:=by
 unfold Lib.compact Lib.compactUpTo at h
 obtain ⟨j,hj,rfl⟩:=List.mem_map.1 h
 have hj:=List.mem_range.1 (List.mem_filter.1 hj).1
 have e:l.toArray[j]! = l[j]:=by simp [hj]
 rw [e]
 exact List.getElem_mem hj
theorem b4u {Z:Nat->Prop} {bs:List Nat} {w:World} {v:Value} {l:List Int} (h:Ac y6 Z w v l bs) (hl:l.length<=1000000) :
  A3 Tryz.prog 100 [v] w fun v' w'=>Ac y6 Z w' v' (Lib.compact l) bs/\Ext bs w w':=by
 intro w1 hs
 obtain ⟨k,rfl⟩:=hs
 rcases h with ⟨rfl,rfl,rfl⟩ | ⟨b,cap,C,T,rfl,rfl,ho,hC,hle,hc⟩
 . refine Calls.mono (Tryz.slices_Compact_int_empty none 0 _) ?_
   rintro e w2 ⟨rfl,rfl⟩
   exact ⟨_,w,rfl,⟨k,rfl⟩,.inl ⟨rfl,rfl,rfl⟩,Ext.refl _ _⟩
 . obtain ⟨z,hz,ho⟩:=ho
   have hsz:C.length=cap:=by simpa [y6] using hC
   have hget:∀ i (h:i<l.length),C[i]?=some (.int .i64 l[i])/\InI l[i]:=by
    intro i hi
    obtain ⟨c,h1,h2,h3⟩:=hc i hi
    have:=h2 0 (by simp [y6])
    simp only [y6,Nat.mul_one,Nat.add_zero] at this h3
    rw [this,h3.1]; exact ⟨rfl,h3.2⟩
   refine Calls.mono (Tryz.slices_Compact_int b 0 cap l { w with drawn:=k } (fun j hj=>?_) (by omega) hle) ?_
   . have hj':j<l.length:=by simpa using hj
     constructor
     . simp only [World.cell?,show ({ w with drawn:=k }:World).heap[b]?=_ from ho]
       simp [(hget j hj').1,hj']
     . rcases hz with rfl | hz
       . simp [World.frozen?,show ({ w with drawn:=k }:World).heap[b]?=_ from ho]
       . simp [World.frozen?,show ({ w with drawn:=k }:World).heap[b]?=_ from ho]; omega
   . rintro e w2 ⟨rfl,n,rfl⟩
     have hcl:=a2e l
     have hmem:∀ x∈Lib.compact l,x∈l:=fun x=>b1g
     generalize Lib.compact l=cl at hcl hmem
     obtain ⟨fl,hfl⟩:∃ fl,fl=(cl++List.replicate (l.length-cl.length) 0).toArray:=⟨_,rfl⟩
     rw [<- hfl]
     have hfs:fl.size=l.length:=by rw [hfl]; simp; omega
     have hfi:∀ i (h:i<cl.length) (h':i<fl.size),fl[i]=cl[i]:=by
      intro i h h'
      subst hfl
      simp [h]
     clear hfl
     have hh:(Sort.putRow (Value.int .i64) (Sort.ahead w n) b 0 fl).heap[b]?=some (.cells (Sort.putCells (Value.int .i64) 0 fl C.toArray) T z):=by
      simp only [Sort.putRow,Sort.mapBlock,Sort.ahead,Array.getElem?_modify,if_true]
      rw [show w.heap[b]?=_ from ho]; rfl
     have ho':J2 (Sort.putRow (Value.int .i64) (Sort.ahead w n) b 0 fl) b T (Sort.putCells (Value.int .i64) 0 fl C.toArray).toList:=by
      refine ⟨z,?_,by rw [hh]⟩
      simpa [Sort.putCells] using hz
     refine ⟨_,Sort.putRow (Value.int .i64) (Sort.ahead w n) b 0 fl,rfl,⟨k+n,rfl⟩,.inr ⟨b,cap,_,T,rfl,rfl,ho',?_,by omega,?_⟩,⟨rfl,rfl,rfl,?_,?_⟩⟩
     . simp [Sort.putCells,y6,hsz]
     . intro i hi
       refine ⟨[.int .i64 cl[i]],rfl,fun j hj=>?_,rfl,?_⟩
       . have:j=0:=by simp [y6] at hj; omega
         subst this
         have hci:i<C.length:=by omega
         have hil:i<fl.size:=by omega
         simp [Sort.putCells,y6,Array.getElem?_mapIdx,hci,hil,hfi i hi hil]
       . obtain ⟨j,hj,e⟩:=List.getElem_of_mem (hmem _ (List.getElem_mem hi))
         rw [<- e]; exact (hget j hj).2
     . simp [Sort.ahead,Sort.putRow,Sort.mapBlock]
     . intro x hx hn
       have hne:x≠b:=by simpa using hn
       simp only [Sort.putRow,Sort.mapBlock,Sort.ahead,Array.getElem?_modify]
       rw [if_neg (Ne.symm hne)]
def fCo:FC U:=⟨[],[],fun a its=>match a,its with
 | [.acc 0],[(0,.ac 3 l)]=>some ⟨[List.length (α:=Int) l<=1000000],[],.acc 2,[(2,.ac (N:=U) 3 (Lib.compact (α:=Int) l))],3⟩
 | _,_=>none⟩
theorem e0n (args:List (SV U)) (its:i4 U) (r:FR U) (h:fCo.C args its=some r) (ho:l7 r.ob):N7 Tryz.prog U eT Gl 100 args its (2 * its.length) (fun k=>l7 r.hy->k r.v r.its r.n):=by
 unfold fCo at h
 simp only at h
 split at h
 . rename_i l
   cases h
   have ho1:List.length (α:=Int) l<=1000000:=ho.1
   exact c8t (by have:=a2e l; omega) fun Z w v bs hac=>b4u hac ho1
 . cases h
end Go.Proofs.YtdjfeninmbpflaaGreat
end
section
namespace Go.Proofs.YtdjfeninmbpflaaGreat
open Go Go.Wk Go.Wl Go.Rx Go.Re 
noncomputable def N2:Env:=(((NqR.addC 98 cCl).addX 99 fSo).addX 100 fCo)
theorem c1h:k8 N2:=((e0m.addC Tryz.call98 d9l).addX Tryz.call99 d1q).addX Tryz.call100 e0n
end Go.Proofs.YtdjfeninmbpflaaGreat
end
section
namespace Go.Re
open Go.Wl
open Go.Rx (b9)
def B3 (l:List Int) (n:Int):Bool:=decide (n∈l)
theorem J1 {l:List Int} {n:Int}:B3 l n=true↔n∈l:=by unfold B3; exact decide_eq_true_iff
theorem E5 {α:Type} [Inhabited α] {l:List α} {x:α} (h:x∈l):∃ i:Int,0<=i/\i<l.length/\ix l i=x:=by
 obtain ⟨k,hk,e⟩:=List.getElem_of_mem h
 refine ⟨k,by omega,by omega,?_⟩
 rw [A8 (by omega)]
 exact e
theorem b1a {l:List Int} {n i:Int} (h0:0<=i) (h1:i<l.length) (h:ix l i=n):B3 l n=true:=J1.2 (h ▸ a36 h0 h1)
theorem b7b {l:List Int} {n:Int} (h:∀ i:Int,0<=i->i<l.length->ix l i≠n):B3 l n=false:=decide_eq_false fun hm=>by
 obtain ⟨i,h0,h1,e⟩:=E5 hm
 exact h i h0 h1 e
def C8 (a b:List Int):Bool:=decide (a=b)
theorem c77 {a b:List Int} (hl:a.length=b.length) (h:∀ i:Int,0<=i->i<a.length->ix a i=ix b i):a=b:=List.ext_getElem hl fun i h1 h2=>by
 have:=h i (by omega) (by omega)
 rw [A8 (by omega),A8 (by omega)] at this
 exact this
def hasE (l:List Int) (n all:Int):Bool:=B3 l n || B3 l (n-all-1)
def Z5 (l:List Int) (n all:Int):Bool:=decide ((l.length:Int)=0) || hasE l n all
def a2z (x y:Int):Int:=if x<y then -1 else if y<x then 1 else 0
def V3 (a b:Nt):Int:=if a2z a.Day b.Day≠0 then a2z a.Day b.Day else a2z a.N b.N
theorem a5z {a b:Nt}:0<=V3 a b↔¬ Z4 a b:=by
 unfold V3 a2z Z4
 by_cases h1:a.Day<b.Day
 . simp [h1]
 . by_cases h2:b.Day<a.Day
   . simp [h1,h2]; omega
   . have e:a.Day=b.Day:=by omega
     by_cases h3:a.N<b.N
     . simp [e,h3]
     . by_cases h4:b.N<a.N
       . simp [e,h3,h4]
       . simp [e,h3,h4]
open Classical in
noncomputable def c5h (r:Rl):Bool:=decide (b1i r)
open Classical in
theorem d0i {r:Rl} (h:b1i r):true=c5h r:=(decide_eq_true h).symm
open Classical in
theorem c9x {r:Rl} (h:¬ b1i r):false=c5h r:=(decide_eq_false h).symm
def C2 (l:List Int):List Int:=Lib.compact (srt l)
def UpL (l:List Int):Prop:=∀ i:Int,0<i->i<l.length->ix l (i-1)<ix l i
theorem a9z {l:List Int} (h:UpL l):∀ (j i:Nat) (hi:i<j) (hj:j<l.length),l[i]'(by omega)<l[j]:=by
 intro j
 induction j with
 | zero=>intro i hi; omega
 | succ j ih =>
  intro i hi hj
  have h1:=h (j+1:Nat) (by omega) (by omega)
  have e:((j+1:Nat):Int)-1=(j:Int):=by omega
  rw [e,A8 (by omega),A8 (by omega)] at h1
  have h1:l[j]<l[j+1]:=h1
  by_cases e:i=j
  . subst e; exact h1
  . have:=ih i (by omega) (by omega)
    omega
theorem compact_all {l:List Int} (h:∀ j,j<l.length->Lib.keeps l.toArray j=true):Lib.compact l=l:=by
 unfold Lib.compact Lib.compactUpTo
 rw [List.filter_eq_self.2 fun j hj=>h j (List.mem_range.1 hj)]
 apply List.ext_getElem
 . simp
 . intro i h1 h2
   simp [h2]
theorem a9m {l:List Int} (h:(Lib.compact l).length=l.length):∀ j,j<l.length->Lib.keeps l.toArray j=true:=by
 unfold Lib.compact Lib.compactUpTo at h
 rw [List.length_map] at h
 have h2:((List.range l.length).filter (Lib.keeps l.toArray)).length=(List.range l.length).length:=by rw [h,List.length_range]
 have:=List.length_filter_eq_length_iff.1 h2
 exact fun j hj=>this j (List.mem_range.2 hj)
theorem a7t {l:List Int} {j:Nat} (hj:j<l.length):Lib.keeps l.toArray j=true↔(j=0 ∨ ix l ((j:Int)-1)≠ix l j):=by
 unfold Lib.keeps
 by_cases h0:j=0
 . subst h0; simp
 . have e1:l.toArray[j]! = ix l j:=by
     rw [A8 (by omega)]; simp [hj]
   have e2:l.toArray[j-1]! = ix l ((j:Int)-1):=by
    rw [A8 (by omega)]
    have:((j:Int)-1).toNat=j-1:=by omega
    simp only [this]
    have hj1:j-1<l.length:=by omega
    simp [hj1]
   rw [e1,e2,decide_eq_true_iff]
   exact ⟨fun h=>h.imp id fun h e=>h e.symm,fun h=>h.imp id fun h e=>h e.symm⟩
theorem c3l {l:List Int} (h:UpL l):srt l=l:=by
 unfold srt
 apply List.mergeSort_of_pairwise
 rw [List.pairwise_iff_getElem]
 intro i j hi hj hij
 have:=a9z h j i hij hj
 exact decide_eq_true (by omega)
theorem a3v {l:List Int}:l=C2 l↔UpL l:=by
 constructor
 . intro h
   have hlen:(Lib.compact (srt l)).length=(srt l).length:=by
    rw [X8]
    exact congrArg List.length h.symm
   have hk:=a9m hlen
   have hs:srt l=l:=by
    have:=compact_all hk
    unfold C2 at h
    rw [this] at h
    exact h.symm
   rw [hs] at hk
   have hp:=d3x l
   rw [hs] at hp
   intro i h0 h1
   have k1:=(a7t (l:=l) (j:=i.toNat) (by omega)).1 (hk i.toNat (by omega))
   have e:((i.toNat:Nat):Int)=i:=by omega
   rw [e] at k1
   have k2:ix l (i-1)<=ix l i:=by
    rw [A8 (by omega),A8 (by omega)]
    exact List.pairwise_iff_getElem.1 hp _ _ (by omega) (by omega) (by omega)
   rcases k1 with k1 | k1
   . omega
   . omega
 . intro h
   unfold C2
   rw [c3l h,compact_all]
   intro j hj
   refine (a7t hj).2 ?_
   by_cases h0:j=0
   . exact .inl h0
   . right
     have:=h j (by omega) (by omega)
     omega
end Go.Re
end
section
namespace Go.Proofs.YtdjfeninmbpflaaGreat
open Go Go.Wk Go.Wl Go.Rx Go.Re 
attribute [local irreducible] i6
def c2v:Nat->Ann:=fun | 68=>⟨9,fun _=>none,fun _=>none⟩ | _=>⟨0,fun _=>none,fun _=>none⟩
def VgS (l:List Int) (Q:List Int->Prop):Prop :=
l.length<=1000000/\l.length<=1000000/\(srt l).length<=1000000/\Q (Lib.compact (srt l))
theorem d5z {l:List Int} {Q:List Int->Prop}:@Eq Prop (VgS l Q) (i6 (E:=N2) (j7 N2 H0 c2v 2) (c2v 68) Tryz.f68 [.sl (N:=U) 3 l] [] [] 0 (m9 N2 [.acc 3] Q)):=by kernel_rfl
theorem e1t {l:List Int} {Q:List Int->Prop} (h:VgS l Q):i6 (E:=N2) (j7 N2 H0 c2v 2) (c2v 68) Tryz.f68 [.sl (N:=U) 3 l] [] [] 0 (m9 N2 [.acc 3] Q):=by rw [<- d5z]; exact h
theorem pgS (l:List Int) (h0:l.length<=1000000):VgS l (fun y0=>y0=C2 l):=by
 unfold VgS
 exact ⟨h0,h0,by rw [X8]; exact h0,rfl⟩
def cgS (a:List (SV U)) (nx:Nat):Option (CR U):=match a with | [.sl 3 l]=>some ⟨[List.length (α:=Int) l<=1000000],[],.acc nx,[.ac 3 (C2 l)]⟩ | _=>none
theorem d6l (args:List (SV U)) (nx:Nat) (c:CR U) (h:cgS args nx=some c) (hp:args.all w7=true) (ho:l7 c.ob):D6 N2.P N2.N N2.T N2.G 68 args nx c:=by
 unfold cgS at h
 split at h
 . rename_i l
   cases h
   exact e2x c1h (j8 c1h p8 c2v 2) Tryz.func68 (k:=.acc 3) (x:=C2 l) hp (e1t (pgS l ho.1))
 . cases h
noncomputable def NgS:Env:=N2.addC 68 cgS
theorem b5b:k8 NgS:=c1h.addC Tryz.call68 d6l
end Go.Proofs.YtdjfeninmbpflaaGreat
end
section
namespace Go.Proofs.YtdjfeninmbpflaaGreat
open Go Go.Wk Go.Wl Go.Rx Go.Re 
attribute [local irreducible] i6
def c6q:Nat->Ann:=fun | 67=>⟨26,fun | 4=>some ⟨[0,1,12],[.slot 13 (.int .i64)]⟩ | _=>none,fun _=>none⟩ | _=>⟨0,fun _=>none,fun _=>none⟩
def Veq (a:List Int) (b:List Int) (Q:Bool->Prop):Prop :=
((↑a.length:Int)≠(↑b.length:Int)->Q false)/\(¬(↑a.length:Int)≠(↑b.length:Int)->∃ (I:Int->Prop),∃ (m:Int->Nat),I (0:Int)/\∀ (x:Int),I x->(x<(↑a.length:Int)->(0:Int)<=x/\x<(↑a.length:Int)/\(b9 (ix a x)->(0:Int)<=x/\x<(↑b.length:Int)/\(b9 (ix b x)->(ix a x≠ix b x->Q false)/\(¬ix a x≠ix b x->b9 (x+1)/\I (x+1)/\m (x+1)<m x))))/\(¬x<(↑a.length:Int)->Q true))
theorem e0u {a:List Int} {b:List Int} {Q:Bool->Prop}:@Eq Prop (Veq a b Q) (i6 (E:=NgS) (j7 NgS H0 c6q 2) (c6q 67) Tryz.f67 [.sl (N:=U) 3 a,.sl (N:=U) 3 b] [] [] 0 (m9 NgS [.bool] Q)):=by kernel_rfl
theorem d2x {a:List Int} {b:List Int} {Q:Bool->Prop} (h:Veq a b Q):i6 (E:=NgS) (j7 NgS H0 c6q 2) (c6q 67) Tryz.f67 [.sl (N:=U) 3 a,.sl (N:=U) 3 b] [] [] 0 (m9 NgS [.bool] Q):=by rw [<- e0u]; exact h
theorem peq (a:List Int) (b:List Int) (ha:a.length<=1000000):Veq a b (fun y0=>y0=C8 a b):=by
 unfold Veq C8
 refine ⟨fun h=>(decide_eq_false (p:=(a:List Int)=b) fun e=>h (by rw [e])).symm,fun h=>?_⟩
 have hl:a.length=b.length:=by omega
 refine ⟨fun i=>0<=i/\∀ j:Int,0<=j->j<i->ix a j=ix b j,fun i=>((a.length:Int)-i).toNat,⟨by omega,fun j h0 h1=>absurd h1 (by omega)⟩,?_⟩
 rintro i ⟨i0,hi⟩
 refine ⟨fun h1=>⟨i0,h1,fun _=>⟨i0,by omega,fun _=>⟨fun hn=>(decide_eq_false (p:=(a:List Int)=b) fun e=>hn (by rw [e])).symm,fun he=>⟨⟨by omega,by omega⟩,⟨by omega,fun j j0 j1=>?_⟩,by dsimp only; omega⟩⟩⟩⟩,fun h1=>(decide_eq_true (p:=(a:List Int)=b) (c77 hl fun j j0 j1=>hi j j0 (by omega))).symm⟩
 by_cases e:j=i
 . subst e; exact Classical.not_not.1 he
 . exact hi j j0 (by omega)
def ceq (a:List (SV U)):Option (Q1 U):=match a with | [.sl 3 a,.sl 3 b]=>some ⟨[List.length (α:=Int) a<=1000000],[],blB (C8 a b)⟩ | _=>none
theorem d6h (args:List (SV U)) (q:Q1 U) (h:ceq args=some q) (ho:l7 q.ob):l4 NgS 67 args ⟨q.ob,q.hy,q.v,[]⟩:=by
 unfold ceq at h
 split at h
 . rename_i a b
   cases h
   exact q8 b5b (j8 b5b p8 c6q 2) Tryz.func67 (k:=.bool) (x:=C8 a b) trivial (d2x (peq a b ho.1)) 0
 . cases h
noncomputable def Neq:Env:=NgS.addL 67 ceq
theorem d2y:k8 Neq:=b5b.addL Tryz.call67 d6h
end Go.Proofs.YtdjfeninmbpflaaGreat
end
section
namespace Go.Proofs.YtdjfeninmbpflaaGreat
open Go Go.Wk Go.Wl Go.Rx Go.Re 
noncomputable def a0q:Env:=Neq.addI 103 Tryz.f103
theorem a4u:k8 a0q:=d2y.addI Tryz.call103 Tryz.func103
end Go.Proofs.YtdjfeninmbpflaaGreat
end
section
namespace Go.Proofs.YtdjfeninmbpflaaGreat
open Go Go.Wk Go.Wl Go.Rx Go.Re 
attribute [local irreducible] i6
def c2r:Nat->Ann:=fun | 78=>⟨9,fun _=>none,fun _=>none⟩ | 103=>⟨19,fun | 2=>some ⟨[0,1,7],[.slot 8 (.int .i64)]⟩ | _=>none,fun _=>none⟩ | _=>⟨0,fun _=>none,fun _=>none⟩
def VgC (l:List Int) (n:Int) (Q:Bool->Prop):Prop :=
∃ (I:Int->Prop),∃ (m:Int->Nat),I (0:Int)/\∀ (x:Int),I x->(x<(↑l.length:Int)->(0:Int)<=x/\x<(↑l.length:Int)/\(b9 (ix l x)->(n=ix l x->Q (decide ((0:Int)<=x)))/\(¬n=ix l x->b9 (x+1)/\I (x+1)/\m (x+1)<m x)))/\(¬x<(↑l.length:Int)->Q (decide ((0:Int)<=(-1:Int))))
theorem d8s {l:List Int} {n:Int} {Q:Bool->Prop}:@Eq Prop (VgC l n Q) (i6 (E:=a0q) (j7 a0q H0 c2r 2) (c2r 78) Tryz.f78 [.sl (N:=U) 3 l,.int .i64 n] [] [] 0 (m9 a0q [.bool] Q)):=by kernel_rfl
theorem e0e {l:List Int} {n:Int} {Q:Bool->Prop} (h:VgC l n Q):i6 (E:=a0q) (j7 a0q H0 c2r 2) (c2r 78) Tryz.f78 [.sl (N:=U) 3 l,.int .i64 n] [] [] 0 (m9 a0q [.bool] Q):=by rw [<- d8s]; exact h
theorem pgC (l:List Int) (n:Int) (hl:l.length<=1000000):VgC l n (fun y0=>y0=B3 l n):=by
 unfold VgC
 refine ⟨fun x=>0<=x/\∀ j:Int,0<=j->j<x->ix l j≠n,fun x=>((l.length:Int)-x).toNat,⟨by omega,fun j h0 h1=>absurd h1 (by omega)⟩,?_⟩
 rintro x ⟨x0,hx⟩
 refine ⟨fun h=>⟨x0,h,fun _=>⟨fun e=>?_,fun e=>⟨⟨by omega,by omega⟩,⟨by omega,fun j j0 j1=>?_⟩,by dsimp only; omega⟩⟩⟩,fun h=>?_⟩
 . rw [decide_eq_true x0]; exact (b1a x0 h e.symm).symm
 . by_cases ej:j=x
   . subst ej; exact fun h=>e h.symm
   . exact hx j j0 (by omega)
 . exact (b7b fun j j0 j1=>hx j j0 (by omega)).symm
def cgC (a:List (SV U)):Option (Q1 U):=match a with | [.sl 3 l,.int .i64 n]=>some ⟨[List.length (α:=Int) l<=1000000],[],blB (B3 l n)⟩ | _=>none
theorem e1x (args:List (SV U)) (q:Q1 U) (h:cgC args=some q) (ho:l7 q.ob):l4 a0q 78 args ⟨q.ob,q.hy,q.v,[]⟩:=by
 unfold cgC at h
 split at h
 . rename_i l n
   cases h
   exact q8 a4u (j8 a4u p8 c2r 2) Tryz.func78 (k:=.bool) (x:=B3 l n) trivial (e0e (pgC l n ho.1)) 0
 . cases h
noncomputable def NgC:Env:=a0q.addL 78 cgC
theorem b5c:k8 NgC:=a4u.addL Tryz.call78 e1x
end Go.Proofs.YtdjfeninmbpflaaGreat
end
section
namespace Go.Proofs.YtdjfeninmbpflaaGreat
open Go Go.Wk Go.Wl Go.Rx Go.Re 
attribute [local irreducible] i6
def c39:Nat->Ann:=fun | 50=>⟨18,fun | 2=>some ⟨[0,1],[.slot 5 (.int .i64)]⟩ | _=>none,fun _=>none⟩ | _=>⟨0,fun _=>none,fun _=>none⟩
def Vxi (l:List Int) (n:Int) (Q:Bool->Prop):Prop :=
∃ (I:Int->Prop),∃ (m:Int->Nat),I (0:Int)/\∀ (x:Int),I x->(x<(↑l.length:Int)->(0:Int)<=x/\x<(↑l.length:Int)/\(b9 (ix l x)->(ix l x=n->Q true)/\(¬ix l x=n->b9 (x+1)/\I (x+1)/\m (x+1)<m x)))/\(¬x<(↑l.length:Int)->Q false)
theorem d2q {l:List Int} {n:Int} {Q:Bool->Prop}:@Eq Prop (Vxi l n Q) (i6 (E:=NgC) (j7 NgC H0 c39 2) (c39 50) Tryz.f50 [.sl (N:=U) 3 l,.int .i64 n] [] [] 0 (m9 NgC [.bool] Q)):=by kernel_rfl
theorem d5u {l:List Int} {n:Int} {Q:Bool->Prop} (h:Vxi l n Q):i6 (E:=NgC) (j7 NgC H0 c39 2) (c39 50) Tryz.f50 [.sl (N:=U) 3 l,.int .i64 n] [] [] 0 (m9 NgC [.bool] Q):=by rw [<- d2q]; exact h
theorem pxi (l:List Int) (n:Int) (hl:l.length<=1000000):Vxi l n (fun y0=>y0=B3 l n):=by
 unfold Vxi
 refine ⟨fun x=>0<=x/\∀ j:Int,0<=j->j<x->ix l j≠n,fun x=>((l.length:Int)-x).toNat,⟨by omega,fun j h0 h1=>absurd h1 (by omega)⟩,?_⟩
 rintro x ⟨x0,hx⟩
 refine ⟨fun h=>⟨x0,h,fun _=>⟨fun e=>?_,fun e=>⟨⟨by omega,by omega⟩,⟨by omega,fun j j0 j1=>?_⟩,by dsimp only; omega⟩⟩⟩,fun h=>?_⟩
 . exact (b1a x0 h e).symm
 . by_cases ej:j=x
   . subst ej; exact e
   . exact hx j j0 (by omega)
 . exact (b7b fun j j0 j1=>hx j j0 (by omega)).symm
def cxi (a:List (SV U)):Option (Q1 U):=match a with | [.sl 3 l,.int .i64 n]=>some ⟨[List.length (α:=Int) l<=1000000],[],blB (B3 l n)⟩ | _=>none
theorem d3u (args:List (SV U)) (q:Q1 U) (h:cxi args=some q) (ho:l7 q.ob):l4 NgC 50 args ⟨q.ob,q.hy,q.v,[]⟩:=by
 unfold cxi at h
 split at h
 . rename_i l n
   cases h
   exact q8 b5c (j8 b5c p8 c39 2) Tryz.func50 (k:=.bool) (x:=B3 l n) trivial (d5u (pxi l n ho.1)) 0
 . cases h
noncomputable def Nxi:Env:=NgC.addL 50 cxi
theorem d2m:k8 Nxi:=b5c.addL Tryz.call50 d3u
end Go.Proofs.YtdjfeninmbpflaaGreat
end
section
namespace Go.Proofs.YtdjfeninmbpflaaGreat
open Go Go.Wk Go.Wl Go.Rx Go.Re 
noncomputable def a0m:Env:=Nxi.addI 113 Tryz.f113
theorem a41:k8 a0m:=d2m.addI Tryz.call113 Tryz.func113
end Go.Proofs.YtdjfeninmbpflaaGreat
end
section
namespace Go.Proofs.YtdjfeninmbpflaaGreat
open Go Go.Wk Go.Wl Go.Rx Go.Re 
attribute [local irreducible] i6
def c3m:Nat->Ann:=fun | 102=>⟨20,fun _=>none,fun _=>none⟩ | 113=>⟨6,fun _=>none,fun _=>none⟩ | _=>⟨0,fun _=>none,fun _=>none⟩
def Vgp (x:Int) (y:Int) (Q:Int->Prop):Prop :=
(x≠x->(y≠y->Q (0:Int))/\(¬y≠y->Q (-1:Int)))/\(¬x≠x->(y≠y->Q (1:Int))/\(¬y≠y->(x<y->Q (-1:Int))/\(¬x<y->(y<x->Q (1:Int))/\(¬y<x->Q (0:Int)))))
theorem d8k {x:Int} {y:Int} {Q:Int->Prop}:@Eq Prop (Vgp x y Q) (i6 (E:=a0m) (j7 a0m H0 c3m 2) (c3m 102) Tryz.f102 [.int .i64 x,.int .i64 y] [] [] 0 (m9 a0m [.int .i64] Q)):=by kernel_rfl
theorem e0l {x:Int} {y:Int} {Q:Int->Prop} (h:Vgp x y Q):i6 (E:=a0m) (j7 a0m H0 c3m 2) (c3m 102) Tryz.f102 [.int .i64 x,.int .i64 y] [] [] 0 (m9 a0m [.int .i64] Q):=by rw [<- d8k]; exact h
theorem pgp (x:Int) (y:Int)  : Vgp x y (fun y0=>y0=a2z x y):=by
 unfold Vgp a2z
 refine ⟨fun h=>absurd rfl h,fun _=>⟨fun h=>absurd rfl h,fun _=>⟨fun h=>by rw [if_pos h],fun h=>⟨fun h2=>by rw [if_neg h,if_pos h2],fun h2=>by rw [if_neg h,if_neg h2]⟩⟩⟩⟩
def cgp (a:List (SV U)):Option (Q1 U):=match a with | [.int .i64 x,.int .i64 y]=>some ⟨[],[],.int .i64 (a2z x y)⟩ | _=>none
theorem d2h (args:List (SV U)) (q:Q1 U) (h:cgp args=some q) (ho:l7 q.ob):l4 a0m 102 args ⟨q.ob,q.hy,q.v,[]⟩:=by
 unfold cgp at h
 split at h
 . rename_i x y
   cases h
   exact q8 a41 (j8 a41 p8 c3m 2) Tryz.func102 (k:=.int .i64) (x:=a2z x y) trivial (e0l (pgp x y )) 0
 . cases h
noncomputable def Ngp:Env:=a0m.addL 102 cgp
theorem b5x:k8 Ngp:=a41.addL Tryz.call102 d2h
end Go.Proofs.YtdjfeninmbpflaaGreat
end
section
namespace Go.Proofs.YtdjfeninmbpflaaGreat
open Go Go.Wk Go.Wl Go.Rx Go.Re 
attribute [local irreducible] i6
def c4u:Nat->Ann:=fun | 72=>⟨17,fun _=>none,fun _=>none⟩ | _=>⟨0,fun _=>none,fun _=>none⟩
def VgO (r:Rl) (Q:Int->Prop):Prop :=
(r.Freq=0/\(↑r.WeekNo.length:Int)=0->Q (53:Int))/\(¬(r.Freq=0/\(↑r.WeekNo.length:Int)=0)->(r.Freq=1->Q (5:Int))/\(¬r.Freq=1->Q (0:Int)))
theorem d5o {r:Rl} {Q:Int->Prop}:@Eq Prop (VgO r Q) (i6 (E:=Ngp) (j7 Ngp H0 c4u 2) (c4u 72) Tryz.f72 [.agg [.int .i64 r.Freq,.int .i64 r.Interval,.int .i64 r.Count,.sl (N:=U) 25 r.Until,.sl (N:=U) 3 r.Month,.sl (N:=U) 3 r.WeekNo,.sl (N:=U) 3 r.YearDay,.sl (N:=U) 3 r.MonthDay,.sl (N:=U) 60 r.Days,.sl (N:=U) 3 r.Hour,.sl (N:=U) 3 r.Minute,.sl (N:=U) 3 r.Second,.sl (N:=U) 3 r.SetPos,.int .i64 r.Wkst]] [] [] 0 (m9 Ngp [.int .i64] Q)):=by kernel_rfl
theorem d1a {r:Rl} {Q:Int->Prop} (h:VgO r Q):i6 (E:=Ngp) (j7 Ngp H0 c4u 2) (c4u 72) Tryz.f72 [.agg [.int .i64 r.Freq,.int .i64 r.Interval,.int .i64 r.Count,.sl (N:=U) 25 r.Until,.sl (N:=U) 3 r.Month,.sl (N:=U) 3 r.WeekNo,.sl (N:=U) 3 r.YearDay,.sl (N:=U) 3 r.MonthDay,.sl (N:=U) 60 r.Days,.sl (N:=U) 3 r.Hour,.sl (N:=U) 3 r.Minute,.sl (N:=U) 3 r.Second,.sl (N:=U) 3 r.SetPos,.int .i64 r.Wkst]] [] [] 0 (m9 Ngp [.int .i64] Q):=by rw [<- d5o]; exact h
theorem pgO (r:Rl)  : VgO r (fun y0=>y0=B8 r):=by
 unfold VgO B8
 refine ⟨fun h=>by rw [if_neg (by omega),if_pos h],fun h=>⟨fun h1=>by rw [if_pos h1],fun h1=>by rw [if_neg h1,if_neg h]⟩⟩
noncomputable def e43 (r:Rl):Q1 U:=⟨[],[],.int .i64 (B8 r)⟩
noncomputable def cgO (a:List (SV U)):Option (Q1 U):=match a with | [.agg l_r]=>(y30.bk (.agg l_r)).bind fun r=>some (e43 r) | _=>none
theorem d8z (args:List (SV U)) (q:Q1 U) (h:cgO args=some q) (ho:l7 q.ob):l4 Ngp 72 args ⟨q.ob,q.hy,q.v,[]⟩:=by
 unfold cgO at h
 split at h
 . rename_i l_r
   obtain ⟨r,hb_r,h⟩:=Option.bind_eq_some_iff.1 h
   cases h
   refine l4.conv (E:=Ngp) (args':=[.agg [.int .i64 r.Freq,.int .i64 r.Interval,.int .i64 r.Count,.sl 25 r.Until,.sl 3 r.Month,.sl 3 r.WeekNo,.sl 3 r.YearDay,.sl 3 r.MonthDay,.sl 60 r.Days,.sl 3 r.Hour,.sl 3 r.Minute,.sl 3 r.Second,.sl 3 r.SetPos,.int .i64 r.Wkst]]) (q8 b5x (j8 b5x p8 c4u 2) Tryz.func72 (k:=.int .i64) trivial (d1a (pgO r )) 0) fun D w vs hr=>w5 [.agg l_r] [.agg [.int .i64 r.Freq,.int .i64 r.Interval,.int .i64 r.Count,.sl (N:=U) 25 r.Until,.sl (N:=U) 3 r.Month,.sl (N:=U) 3 r.WeekNo,.sl (N:=U) 3 r.YearDay,.sl (N:=U) 3 r.MonthDay,.sl (N:=U) 60 r.Days,.sl (N:=U) 3 r.Hour,.sl (N:=U) 3 r.Minute,.sl (N:=U) 3 r.Second,.sl (N:=U) 3 r.SetPos,.int .i64 r.Wkst]] _ ⟨fun _ h=>A5 hb_r h,trivial⟩ hr
 . cases h
noncomputable def NgO:Env:=Ngp.addL 72 cgO
theorem b3x:k8 NgO:=b5x.addL Tryz.call72 d8z
end Go.Proofs.YtdjfeninmbpflaaGreat
end
section
namespace Go.Proofs.YtdjfeninmbpflaaGreat
open Go Go.Wk Go.Wl Go.Rx Go.Re 
attribute [local irreducible] i6
def c5y:Nat->Ann:=fun | 74=>⟨24,fun _=>none,fun _=>none⟩ | _=>⟨0,fun _=>none,fun _=>none⟩
def VgF (r:Rl) (Q:Bool->Prop):Prop :=
(r.Freq=2->((0:Int)<(↑r.MonthDay.length:Int)->Q false)/\(¬(0:Int)<(↑r.MonthDay.length:Int)->((0:Int)<(↑r.YearDay.length:Int)->Q false)/\(¬(0:Int)<(↑r.YearDay.length:Int)->((0:Int)<(↑r.WeekNo.length:Int)->Q false)/\(¬(0:Int)<(↑r.WeekNo.length:Int)->Q true))))/\(¬r.Freq=2->(r.Freq=1->(r.Freq=1->((0:Int)<(↑r.YearDay.length:Int)->Q false)/\(¬(0:Int)<(↑r.YearDay.length:Int)->((0:Int)<(↑r.WeekNo.length:Int)->Q false)/\(¬(0:Int)<(↑r.WeekNo.length:Int)->Q true)))/\(¬r.Freq=1->(r.Freq=0->Q true)/\(¬r.Freq=0->((0:Int)<(↑r.WeekNo.length:Int)->Q false)/\(¬(0:Int)<(↑r.WeekNo.length:Int)->Q true))))/\(¬r.Freq=1->(r.Freq=3->((0:Int)<(↑r.YearDay.length:Int)->Q false)/\(¬(0:Int)<(↑r.YearDay.length:Int)->((0:Int)<(↑r.WeekNo.length:Int)->Q false)/\(¬(0:Int)<(↑r.WeekNo.length:Int)->Q true)))/\(¬r.Freq=3->(r.Freq=0->Q true)/\(¬r.Freq=0->((0:Int)<(↑r.WeekNo.length:Int)->Q false)/\(¬(0:Int)<(↑r.WeekNo.length:Int)->Q true)))))
theorem d6b {r:Rl} {Q:Bool->Prop}:@Eq Prop (VgF r Q) (i6 (E:=NgO) (j7 NgO H0 c5y 2) (c5y 74) Tryz.f74 [.agg [.int .i64 r.Freq,.int .i64 r.Interval,.int .i64 r.Count,.sl (N:=U) 25 r.Until,.sl (N:=U) 3 r.Month,.sl (N:=U) 3 r.WeekNo,.sl (N:=U) 3 r.YearDay,.sl (N:=U) 3 r.MonthDay,.sl (N:=U) 60 r.Days,.sl (N:=U) 3 r.Hour,.sl (N:=U) 3 r.Minute,.sl (N:=U) 3 r.Second,.sl (N:=U) 3 r.SetPos,.int .i64 r.Wkst]] [] [] 0 (m9 NgO [.bool] Q)):=by kernel_rfl
theorem d7y {r:Rl} {Q:Bool->Prop} (h:VgF r Q):i6 (E:=NgO) (j7 NgO H0 c5y 2) (c5y 74) Tryz.f74 [.agg [.int .i64 r.Freq,.int .i64 r.Interval,.int .i64 r.Count,.sl (N:=U) 25 r.Until,.sl (N:=U) 3 r.Month,.sl (N:=U) 3 r.WeekNo,.sl (N:=U) 3 r.YearDay,.sl (N:=U) 3 r.MonthDay,.sl (N:=U) 60 r.Days,.sl (N:=U) 3 r.Hour,.sl (N:=U) 3 r.Minute,.sl (N:=U) 3 r.Second,.sl (N:=U) 3 r.SetPos,.int .i64 r.Wkst]] [] [] 0 (m9 NgO [.bool] Q):=by rw [<- d6b]; exact h
theorem pgF (r:Rl)  : VgF r (fun y0=>y0=c5h r):=by
 unfold VgF
 repeat' (first | intro _ | apply And.intro)
 all_goals first | exact d0i (by unfold b1i; omega) | exact c9x (by unfold b1i; omega)
noncomputable def e4d (r:Rl):Q1 U:=⟨[],[],blB (c5h r)⟩
noncomputable def cgF (a:List (SV U)):Option (Q1 U):=match a with | [.agg l_r]=>(y30.bk (.agg l_r)).bind fun r=>some (e4d r) | _=>none
theorem e05 (args:List (SV U)) (q:Q1 U) (h:cgF args=some q) (ho:l7 q.ob):l4 NgO 74 args ⟨q.ob,q.hy,q.v,[]⟩:=by
 unfold cgF at h
 split at h
 . rename_i l_r
   obtain ⟨r,hb_r,h⟩:=Option.bind_eq_some_iff.1 h
   cases h
   refine l4.conv (E:=NgO) (args':=[.agg [.int .i64 r.Freq,.int .i64 r.Interval,.int .i64 r.Count,.sl 25 r.Until,.sl 3 r.Month,.sl 3 r.WeekNo,.sl 3 r.YearDay,.sl 3 r.MonthDay,.sl 60 r.Days,.sl 3 r.Hour,.sl 3 r.Minute,.sl 3 r.Second,.sl 3 r.SetPos,.int .i64 r.Wkst]]) (q8 b3x (j8 b3x p8 c5y 2) Tryz.func74 (k:=.bool) trivial (d7y (pgF r )) 0) fun D w vs hr=>w5 [.agg l_r] [.agg [.int .i64 r.Freq,.int .i64 r.Interval,.int .i64 r.Count,.sl (N:=U) 25 r.Until,.sl (N:=U) 3 r.Month,.sl (N:=U) 3 r.WeekNo,.sl (N:=U) 3 r.YearDay,.sl (N:=U) 3 r.MonthDay,.sl (N:=U) 60 r.Days,.sl (N:=U) 3 r.Hour,.sl (N:=U) 3 r.Minute,.sl (N:=U) 3 r.Second,.sl (N:=U) 3 r.SetPos,.int .i64 r.Wkst]] _ ⟨fun _ h=>A5 hb_r h,trivial⟩ hr
 . cases h
noncomputable def NgF:Env:=NgO.addL 74 cgF
theorem b5p:k8 NgF:=b3x.addL Tryz.call74 e05
end Go.Proofs.YtdjfeninmbpflaaGreat
end
section
namespace Go.Proofs.YtdjfeninmbpflaaGreat
open Go Go.Wk Go.Wl Go.Rx Go.Re 
attribute [local irreducible] i6
def c56:Nat->Ann:=fun | 73=>⟨19,fun _=>none,fun _=>none⟩ | _=>⟨0,fun _=>none,fun _=>none⟩
def VgB (a:Nt) (b:Nt) (Q:Int->Prop):Prop :=
(a2z a.Day b.Day≠0->Q (a2z a.Day b.Day))/\(¬a2z a.Day b.Day≠0->Q (a2z a.N b.N))
theorem d3v {a:Nt} {b:Nt} {Q:Int->Prop}:@Eq Prop (VgB a b Q) (i6 (E:=NgF) (j7 NgF H0 c56 2) (c56 73) Tryz.f73 [.agg [.int .i64 a.N,.int .i64 a.Day],.agg [.int .i64 b.N,.int .i64 b.Day]] [] [] 0 (m9 NgF [.int .i64] Q)):=by kernel_rfl
theorem d1h {a:Nt} {b:Nt} {Q:Int->Prop} (h:VgB a b Q):i6 (E:=NgF) (j7 NgF H0 c56 2) (c56 73) Tryz.f73 [.agg [.int .i64 a.N,.int .i64 a.Day],.agg [.int .i64 b.N,.int .i64 b.Day]] [] [] 0 (m9 NgF [.int .i64] Q):=by rw [<- d3v]; exact h
theorem pgB (a:Nt) (b:Nt)  : VgB a b (fun y0=>y0=V3 a b):=by
 unfold VgB V3
 exact ⟨fun h=>by rw [if_pos h],fun h=>by rw [if_neg h]⟩
def e3q (a:Nt) (b:Nt):Q1 U:=⟨[],[],.int .i64 (V3 a b)⟩
def cgB (a:List (SV U)):Option (Q1 U):=match a with | [.agg [.int .i64 a0,.int .i64 a1],.agg [.int .i64 b0,.int .i64 b1]]=>some (e3q (⟨a0,a1⟩) (⟨b0,b1⟩)) | _=>none
theorem d1z (args:List (SV U)) (q:Q1 U) (h:cgB args=some q) (ho:l7 q.ob):l4 NgF 73 args ⟨q.ob,q.hy,q.v,[]⟩:=by
 unfold cgB at h
 split at h
 . rename_i a0 a1 b0 b1
   cases h
   exact q8 b5p (j8 b5p p8 c56 2) Tryz.func73 (k:=.int .i64) (x:=V3 (⟨a0,a1⟩:Nt) (⟨b0,b1⟩:Nt)) trivial (d1h (pgB (⟨a0,a1⟩) (⟨b0,b1⟩) )) 0
 . cases h
noncomputable def NgB:Env:=NgF.addL 73 cgB
theorem e1w:k8 NgB:=b5p.addL Tryz.call73 d1z
end Go.Proofs.YtdjfeninmbpflaaGreat
end
section
namespace Go.Proofs.YtdjfeninmbpflaaGreat
open Go Go.Wk Go.Wl Go.Rx Go.Re 
noncomputable def e34:Env:=NgB.addI 66 Tryz.f66
theorem c8p:k8 e34:=e1w.addI Tryz.call66 Tryz.func66
noncomputable def e2h:Env:=e34.addI 71 Tryz.f71
theorem c6z:k8 e2h:=c8p.addI Tryz.call71 Tryz.func71
noncomputable def c9w:Env:=e2h.addI 101 Tryz.f101
theorem c47:k8 c9w:=c6z.addI Tryz.call101 Tryz.func101
noncomputable def a6i:Env:=c9w.addI 70 Tryz.f70
theorem a92:k8 a6i:=c47.addI Tryz.call70 Tryz.func70
end Go.Proofs.YtdjfeninmbpflaaGreat
end
section
namespace Go.Re
open Go Go.Wk Go.Wl Go.Rx
def b11 (lo hi:Int) (b:Bool) (n:Int):Prop:=(lo<=n/\n<=hi) ∨ (b=true/\n<=-lo)/\-hi<=n
instance (lo hi:Int) (b:Bool) (n:Int):Decidable (b11 lo hi b n):=by unfold b11; infer_instance
def H5 (l:List Int) (lo hi:Int) (b:Bool):Bool:=l.any fun n=>decide (¬ b11 lo hi b n)
theorem a9y {l:List Int} {lo hi:Int} {b:Bool} {i:Int} (h0:0<=i) (h1:i<l.length) (h:¬ b11 lo hi b (ix l i)):H5 l lo hi b=true:=List.any_eq_true.2 ⟨_,a36 h0 h1,decide_eq_true h⟩
theorem b86 {l:List Int} {lo hi:Int} {b:Bool} (h:∀ i:Int,0<=i->i<l.length->b11 lo hi b (ix l i)):H5 l lo hi b=false:=by
 cases hb:H5 l lo hi b with
 | false=>rfl
 | true =>
  obtain ⟨n,hn,hd⟩:=List.any_eq_true.1 hb
  obtain ⟨i,h0,h1,rfl⟩:=E5 hn
  exact absurd (h i h0 h1) (of_decide_eq_true hd)
theorem c58 {lo hi:Int} {b:Bool} {n:Int} (h0:0<=lo):b11 lo hi b n↔OkN lo hi b n:=by
 unfold b11 OkN
 cases b with
 | false=>simp
 | true =>
  simp only [true_and]
  split <;> constructor <;> intro h <;> omega
theorem b1q {l:List Int} {lo hi:Int} {b:Bool} (h0:0<=lo):I8 l lo hi b↔((l.length:Int)<=24/\l=C2 l)/\H5 l lo hi b=false:=by
 constructor
 . intro h
   exact ⟨⟨h.few,a3v.2 h.up⟩,b86 fun i a c=>(c58 h0).2 (h.ok i a c)⟩
 . rintro ⟨⟨h1,h2⟩,h3⟩
   refine ⟨fun i a c=>(c58 h0).1 (Classical.not_not.1 fun hn=>?_),a3v.1 h2,h1⟩
   rw [a9y a c hn] at h3; cases h3
section
variable {l:List Int} {lo hi:Int} {b:Bool}
theorem a2r (h:24<(l.length:Int)):¬ I8 l lo hi b:=fun r=>by have:=r.few; omega
theorem a2p (h:False ∨ ¬ C8 l (C2 l)=true):¬ I8 l lo hi b:=fun r=>h.elim id fun h=>h (decide_eq_true (a3v.2 r.up))
theorem a2h (h0:0<=lo) (h:False ∨ H5 l lo hi b=true):¬ I8 l lo hi b:=fun r=>h.elim id fun h=>by rw [((b1q h0).1 r).2] at h; cases h
theorem a2i (h0:0<=lo) (h1:¬ 24<(l.length:Int)) (h2:¬ (False ∨ ¬ C8 l (C2 l)=true)) (h3:¬ (False ∨ H5 l lo hi b=true)):I8 l lo hi b :=
 (b1q h0).2 ⟨⟨by omega,of_decide_eq_true (Classical.not_not.1 fun hn=>h2 (.inr hn))⟩,by
  cases hb:H5 l lo hi b with
  | false=>rfl
  | true=>exact absurd (.inr hb) h3⟩
theorem a5o (l:List Int):max 1 (l.length:Int)=B6 l:=by unfold B6; split <;> omega
end
end Go.Re
end
section
namespace Go.Proofs.YtdjfeninmbpflaaGreat
open Go Go.Wk Go.Wl Go.Rx Go.Re 
attribute [local irreducible] i6
def c68:Nat->Ann:=fun | 69=>⟨9,fun _=>none,fun _=>none⟩ | 101=>⟨19,fun | 2=>some ⟨[0,1,7],[.slot 8 (.int .i64)]⟩ | _=>none,fun _=>none⟩ | 70=>⟨8,fun _=>none,fun _=>none⟩ | 71=>⟨33,fun _=>none,fun _=>none⟩ | _=>⟨0,fun _=>none,fun _=>none⟩
def VgX (l:List Int) (x:Ls) (Q:Bool->Prop):Prop :=
∃ (I:Int->Prop),∃ (m:Int->Nat),I (0:Int)/\∀ (x_1:Int),I x_1->(x_1<(↑l.length:Int)->(0:Int)<=x_1/\x_1<(↑l.length:Int)/\(b9 (ix l x_1)->(¬((ix [x] (0:Int)).lo<=ix l x_1/\ix l x_1<=(ix [x] (0:Int)).hi)/\(ix [x] (0:Int)).both=true->b9 ((0:Int)-(ix [x] (0:Int)).lo))/\(¬((ix [x] (0:Int)).lo<=ix l x_1/\ix l x_1<=(ix [x] (0:Int)).hi)/\(ix [x] (0:Int)).both=true/\ix l x_1<=(0:Int)-(ix [x] (0:Int)).lo->b9 ((0:Int)-(ix [x] (0:Int)).hi))/\(¬((ix [x] (0:Int)).lo<=ix l x_1/\ix l x_1<=(ix [x] (0:Int)).hi ∨ ((ix [x] (0:Int)).both=true/\ix l x_1<=(0:Int)-(ix [x] (0:Int)).lo)/\(0:Int)-(ix [x] (0:Int)).hi<=ix l x_1)->Q (decide ((0:Int)<=x_1)))/\(¬¬((ix [x] (0:Int)).lo<=ix l x_1/\ix l x_1<=(ix [x] (0:Int)).hi ∨ ((ix [x] (0:Int)).both=true/\ix l x_1<=(0:Int)-(ix [x] (0:Int)).lo)/\(0:Int)-(ix [x] (0:Int)).hi<=ix l x_1)->b9 (x_1+1)/\I (x_1+1)/\m (x_1+1)<m x_1)))/\(¬x_1<(↑l.length:Int)->Q (decide ((0:Int)<=(-1:Int))))
theorem e0g {l:List Int} {x:Ls} {Q:Bool->Prop}:@Eq Prop (VgX l x Q) (i6 (E:=a6i) (j7 a6i H0 c68 4) (c68 69) Tryz.f69 [.sl (N:=U) 3 l,.clo 70 [.fel (N:=U) 101 [x] 0 0]] [] [] 0 (m9 a6i [.bool] Q)):=by kernel_rfl
theorem d8x {l:List Int} {x:Ls} {Q:Bool->Prop} (h:VgX l x Q):i6 (E:=a6i) (j7 a6i H0 c68 4) (c68 69) Tryz.f69 [.sl (N:=U) 3 l,.clo 70 [.fel (N:=U) 101 [x] 0 0]] [] [] 0 (m9 a6i [.bool] Q):=by rw [<- e0g]; exact h
theorem pgX (l:List Int) (x:Ls) (hl:l.length<=1000000) (l0:-1000<=x.lo) (l1:x.lo<=1000) (u0:-1000<=x.hi) (u1:x.hi<=1000):VgX l x (fun y0=>y0=H5 l x.lo x.hi x.both):=by
 unfold VgX
 have ex:ix [x] 0=x:=rfl
 rw [ex]
 have z:∀ n:Int,0-n=-n:=fun n=>by omega
 simp only [z]
 refine ⟨fun i=>0<=i/\∀ j:Int,0<=j->j<i->b11 x.lo x.hi x.both (ix l j),fun i=>((l.length:Int)-i).toNat,⟨by omega,fun j a b=>absurd b (by omega)⟩,?_⟩
 rintro i ⟨i0,hi⟩
 refine ⟨fun h=>⟨i0,h,fun _=>⟨fun _=>⟨by omega,by omega⟩,fun _=>⟨by omega,by omega⟩,fun hn=>?_,fun hn=>⟨⟨by omega,by omega⟩,⟨by omega,fun j j0 j1=>?_⟩,by dsimp only; omega⟩⟩⟩,fun h=>?_⟩
 . rw [decide_eq_true i0]; exact (a9y i0 h hn).symm
 . by_cases e:j=i
   . subst e; exact Classical.not_not.1 hn
   . exact hi j j0 (by omega)
 . exact (b86 fun j a b=>hi j a (by omega)).symm
def cgX (a:List (SV U)):Option (Q1 U):=match a with | [.sl 3 l,.clo 70 [.fel 101 [x] 0 0]]=>some ⟨[List.length (α:=Int) l<=1000000,-1000<=x.lo,x.lo<=1000,-1000<=x.hi,x.hi<=1000],[],blB (H5 l x.lo x.hi x.both)⟩ | _=>none
theorem d7r (args:List (SV U)) (q:Q1 U) (h:cgX args=some q) (ho:l7 q.ob):l4 a6i 69 args ⟨q.ob,q.hy,q.v,[]⟩:=by
 unfold cgX at h
 split at h
 . rename_i l x
   cases h
   exact q8 a92 (j8 a92 p8 c68 4) Tryz.func69 (k:=.bool) (x:=H5 l x.lo x.hi x.both) trivial (d8x (pgX l x ho.1 ho.2.1 ho.2.2.1 ho.2.2.2.1 ho.2.2.2.2.1)) 0
 . cases h
theorem d7p {w:World} {L:Rx.Loc} {D:Nat->Prop} {x:Ls} {c:Value} (ho:Own w L.b 101 [sv x.wd,c,.int .i64 x.lo,.int .i64 x.hi,.bool x.both]) (hD:D L.b) (hp:u4 c=true) (h1:x.wd.length<=9223372036854775807) (h2:InI x.lo) (h3:InI x.hi):(s6 (U.tb 101).r).rd D w [.slice (some ⟨L.b,0,none⟩) [x].length 1] [x] :=
 ⟨by show (1:Nat)<=9223372036854775807; omega,_,_,rfl,⟨fun h=>(by cases h),Nat.le_refl _⟩,fun i hi=>by
  have hi:i<1:=hi
  have e:i=0:=by omega
  subst e
  exact ⟨_,_,_,rfl,hD,Own.cells ho 0 _ [] rfl,c,rfl,hp,h1,h2,h3⟩⟩
def cXr (args:List (SV U)) (its:i4 U):Option (Q1 U):=match args with
 | [.sl 3 l,.clo 70 [.ref i 0]]=>(match lk its i with
  | some (.own 101 [.str wd,_,.int .i64 lo,.int .i64 hi,vb])=>(a98 vb).bind fun b=>some ⟨[List.length (α:=Int) l<=1000000,-1000<=lo,lo<=1000,-1000<=hi,hi<=1000],[],blB (H5 l lo hi b)⟩
  | _=>none)
 | _=>none
theorem e1p (args:List (SV U)) (its:i4 U) (q:Q1 U) (h:cXr args its=some q) (ho:l7 q.ob):c5c Tryz.prog U eT Gl 69 args its q:=by
 unfold cXr at h
 split at h
 . rename_i l i
   split at h
   . rename_i wd vc lo hi vb hi'
     obtain ⟨b,hb,h⟩:=Option.bind_eq_some_iff.1 h
     cases h
     intro ρ Z w vs _ hh ha
     obtain ⟨L,cs,hL,hbs,how,hr⟩:=hh _ _ hi'
     obtain ⟨v1,r1,rfl,h1,_,hr⟩:=i7.cons_inv hr
     obtain ⟨v2,r2,rfl,_,p2,hr⟩:=i7.cons_inv hr
     obtain ⟨v3,r3,rfl,h3,_,hr⟩:=i7.cons_inv hr
     obtain ⟨v4,r4,rfl,h4,_,hr⟩:=i7.cons_inv hr
     obtain ⟨v5,r5,rfl,h5,_,hr⟩:=i7.cons_inv hr
     obtain rfl:=i7.nil_inv hr
     have h5:=Z8 (E:=a6i) hb h5
     cases h1 with | str q1 =>
     cases h3 with | int q3 =>
     cases h4 with | int q4 =>
     cases h5 with | bl =>
     rw [Bool.decide_eq_true] at how
     obtain ⟨u1,rr,rfl,g1,ha⟩:=Rep.tup_cons ha
     obtain ⟨u2,rr2,rfl,g2,ha⟩:=Rep.tup_cons ha
     obtain rfl:=U7 ha
     obtain ⟨b1,b2,b3,b4,b5,_⟩:=ho
     have hrow:=d7p (L:=L) (D:=fun k=>(Z k/\k<w.heap.size) ∨ k=L.b) (x:=⟨wd,lo,hi,b⟩) how (.inr rfl) p2 q1 (q3 rfl) (q4 rfl)
     refine d7r [.sl 3 l,.clo 70 [.fel (N:=U) 101 [Ls.mk wd lo hi b] 0 0]] _ rfl ⟨b1,b2,b3,b4,b5,trivial⟩ (fun k=>(Z k/\k<w.heap.size) ∨ k=L.b) w _ (fun k hk=>hk.elim (fun h=>h.2) fun h=>by rw [h]; exact how.lt) trivial ?_
     refine .tup1 (cs:=[_]) ?_ (.tup1 (cs:=[]) ?_ .tup0)
     . cases g1 with
       | sl g=>exact .sl (Rd.mono _ g (Ext.refl [] w) (fun _ h=>by cases h) fun k hz hk=>.inl ⟨hz,hk⟩)
     . cases g2 with
       | clo g =>
        obtain ⟨c1,cr,e1,hc1,hp1,hcr⟩:=i7.cons_inv (cs:=_) g
        obtain rfl:=i7.nil_inv hcr
        cases hc1 with
        | ref hL' =>
         rw [hL] at hL'; cases hL'
         have:=Rep.fel (N:=U) (T:=eT) (ρ:=fun _=>none) (t:=101) (off:=0) hrow (i:=0) (by omega) (by show (0:Int)<1; omega)
         rw [show _=_ from e1]
         exact .clo (i7.cons this rfl i7.nil)
   . cases h
 . cases h
end Go.Proofs.YtdjfeninmbpflaaGreat
end
section
namespace Go.Proofs.YtdjfeninmbpflaaGreat
open Go Go.Wk Go.Wl Go.Rx Go.Re 
noncomputable def NXr:Env:=a6i.addR 69 cXr
theorem b5l:k8 NXr:=a92.addR Tryz.call69 e1p
end Go.Proofs.YtdjfeninmbpflaaGreat
end
section
namespace Go.Proofs.YtdjfeninmbpflaaGreat
open Go Go.Wk Go.Wl Go.Rx Go.Re 
attribute [local irreducible] i6
def c2c:Nat->Ann:=fun | 40=>⟨201,fun | 16=>some ⟨[1,3,6,127,128],[.slot 129 (.int .i64)]⟩ | 7=>some ⟨[1,3,80,81,82],[.unr 9]⟩ | _=>none,fun | 1000009=>some ⟨[6,19],[]⟩ | 2000007=>some ⟨[83],[]⟩ | 2000011=>some ⟨[115],[]⟩ | _=>none⟩ | 66=>⟨36,fun _=>none,fun _=>none⟩ | _=>⟨0,fun _=>none,fun _=>none⟩
def U0 (r:Rl):=Rl.mk r.Freq r.Interval r.Count r.Until r.Month r.WeekNo r.YearDay r.MonthDay r.Days r.Hour r.Minute r.Second r.SetPos r.Wkst
def c9e (r:Rl):=(bif true then max (1:Int) (↑r.Hour.length:Int) else min (1:Int) (↑r.Hour.length:Int)) * bif true then max (1:Int) (↑r.Minute.length:Int) else min (1:Int) (↑r.Minute.length:Int)
def VgR (r:Rl) (Q:Bool->Prop):Prop :=
(((((((r.Freq<0 ∨ (6:Int)<r.Freq) ∨ r.Interval<1) ∨ (9999:Int)<r.Interval) ∨ r.Count<0) ∨ (9999:Int)<r.Count) ∨ r.Wkst<0) ∨ (6:Int)<r.Wkst->Q false)/\(¬(((((((r.Freq<0 ∨ (6:Int)<r.Freq) ∨ r.Interval<1) ∨ (9999:Int)<r.Interval) ∨ r.Count<0) ∨ (9999:Int)<r.Count) ∨ r.Wkst<0) ∨ (6:Int)<r.Wkst)->((¬(1:Int)<(↑r.Until.length:Int)/\(↑r.Until.length:Int)=1)/\¬(0:Int)<r.Count->(0:Int)<=0)/\((¬(1:Int)<(↑r.Until.length:Int)/\(↑r.Until.length:Int)=1)/\¬(0:Int)<r.Count->(0:Int)<(↑r.Until.length:Int))/\(((¬(1:Int)<(↑r.Until.length:Int)/\(↑r.Until.length:Int)=1)/\¬(0:Int)<r.Count->b9 (ix r.Until (0:Int)).Day.Year)->((¬(1:Int)<(↑r.Until.length:Int)/\(↑r.Until.length:Int)=1)/\¬(0:Int)<r.Count->b9 (ix r.Until (0:Int)).Day.Month)->((¬(1:Int)<(↑r.Until.length:Int)/\(↑r.Until.length:Int)=1)/\¬(0:Int)<r.Count->b9 (ix r.Until (0:Int)).Day.Date)->((¬(1:Int)<(↑r.Until.length:Int)/\(↑r.Until.length:Int)=1)/\¬(0:Int)<r.Count->b9 (ix r.Until (0:Int)).Hour)->((¬(1:Int)<(↑r.Until.length:Int)/\(↑r.Until.length:Int)=1)/\¬(0:Int)<r.Count->b9 (ix r.Until (0:Int)).Min)->((¬(1:Int)<(↑r.Until.length:Int)/\(↑r.Until.length:Int)=1)/\¬(0:Int)<r.Count->b9 (ix r.Until (0:Int)).Sec)->(((1:Int)<(↑r.Until.length:Int) ∨ (↑r.Until.length:Int)=1/\((0:Int)<r.Count ∨ ¬l9 (Tm.mk (Dy.mk (ix r.Until (0:Int)).Day.Year (ix r.Until (0:Int)).Day.Month (ix r.Until (0:Int)).Day.Date) (ix r.Until (0:Int)).Hour (ix r.Until (0:Int)).Min (ix r.Until (0:Int)).Sec (decide ((ix r.Until (0:Int)).Bare=true)) (decide ((ix r.Until (0:Int)).UTC=true)))=true)) ∨ (24:Int)<(↑r.Days.length:Int)->Q false)/\(¬(((1:Int)<(↑r.Until.length:Int) ∨ (↑r.Until.length:Int)=1/\((0:Int)<r.Count ∨ ¬l9 (Tm.mk (Dy.mk (ix r.Until (0:Int)).Day.Year (ix r.Until (0:Int)).Day.Month (ix r.Until (0:Int)).Day.Date) (ix r.Until (0:Int)).Hour (ix r.Until (0:Int)).Min (ix r.Until (0:Int)).Sec (decide ((ix r.Until (0:Int)).Bare=true)) (decide ((ix r.Until (0:Int)).UTC=true)))=true)) ∨ (24:Int)<(↑r.Days.length:Int))->(0:Int)<=0/\(0:Int)<(↑(8:Nat):Int)/\((24:Int)<(↑r.Month.length:Int)->((↑r.Month.length:Int)-((24:Int)+1)).NonNeg/\Q false)/\(¬(24:Int)<(↑r.Month.length:Int)->(False ∨ ¬C8 r.Month (C2 r.Month)=true->((24:Int)<(↑r.Month.length:Int)->False)/\(¬False/\r.Month.length<=1000000)/\(¬False->r.Month.length<=1000000)/\(False ∨ ¬C8 r.Month (C2 r.Month)=true)/\Q false)/\(¬(False ∨ ¬C8 r.Month (C2 r.Month)=true)->((24:Int)<(↑r.Month.length:Int)->False)/\(¬False/\r.Month.length<=1000000)/\(¬False->r.Month.length<=1000000)/\(False ∨ ¬C8 r.Month (C2 r.Month)=true->False)/\((¬False->r.Month.length<=1000000)/\(¬False->(-1000:Int)<=1)/\(¬False->(1:Int)<=1000)/\(¬False->(-1000:Int)<=12)/\(¬False->(12:Int)<=1000))/\(False ∨ H5 r.Month (1:Int) (12:Int) false=true->Q false)/\(¬(False ∨ H5 r.Month (1:Int) (12:Int) false=true)->b9 ((↑r.Days.length:Int)+(↑r.Month.length:Int))/\b9 ((0:Int)+1)/\(0:Int)<=(0:Int)+1/\(0:Int)+1<(↑(8:Nat):Int)/\((24:Int)<(↑r.WeekNo.length:Int)->((↑r.WeekNo.length:Int)-((24:Int)+1)).NonNeg/\Q false)/\(¬(24:Int)<(↑r.WeekNo.length:Int)->(False ∨ ¬C8 r.WeekNo (C2 r.WeekNo)=true->((24:Int)<(↑r.WeekNo.length:Int)->False)/\(¬False/\r.WeekNo.length<=1000000)/\(¬False->r.WeekNo.length<=1000000)/\(False ∨ ¬C8 r.WeekNo (C2 r.WeekNo)=true)/\Q false)/\(¬(False ∨ ¬C8 r.WeekNo (C2 r.WeekNo)=true)->((24:Int)<(↑r.WeekNo.length:Int)->False)/\(¬False/\r.WeekNo.length<=1000000)/\(¬False->r.WeekNo.length<=1000000)/\(False ∨ ¬C8 r.WeekNo (C2 r.WeekNo)=true->False)/\((¬False->r.WeekNo.length<=1000000)/\(¬False->(-1000:Int)<=1)/\(¬False->(1:Int)<=1000)/\(¬False->(-1000:Int)<=53)/\(¬False->(53:Int)<=1000))/\(False ∨ H5 r.WeekNo (1:Int) (53:Int) true=true->Q false)/\(¬(False ∨ H5 r.WeekNo (1:Int) (53:Int) true=true)->b9 ((↑r.Days.length:Int)+(↑r.Month.length:Int)+(↑r.WeekNo.length:Int))/\b9 ((0:Int)+1+1)/\(0:Int)<=(0:Int)+1+1/\(0:Int)+1+1<(↑(8:Nat):Int)/\((24:Int)<(↑r.YearDay.length:Int)->((↑r.YearDay.length:Int)-((24:Int)+1)).NonNeg/\Q false)/\(¬(24:Int)<(↑r.YearDay.length:Int)->(False ∨ ¬C8 r.YearDay (C2 r.YearDay)=true->((24:Int)<(↑r.YearDay.length:Int)->False)/\(¬False/\r.YearDay.length<=1000000)/\(¬False->r.YearDay.length<=1000000)/\(False ∨ ¬C8 r.YearDay (C2 r.YearDay)=true)/\Q false)/\(¬(False ∨ ¬C8 r.YearDay (C2 r.YearDay)=true)->((24:Int)<(↑r.YearDay.length:Int)->False)/\(¬False/\r.YearDay.length<=1000000)/\(¬False->r.YearDay.length<=1000000)/\(False ∨ ¬C8 r.YearDay (C2 r.YearDay)=true->False)/\((¬False->r.YearDay.length<=1000000)/\(¬False->(-1000:Int)<=1)/\(¬False->(1:Int)<=1000)/\(¬False->(-1000:Int)<=366)/\(¬False->(366:Int)<=1000))/\(False ∨ H5 r.YearDay (1:Int) (366:Int) true=true->Q false)/\(¬(False ∨ H5 r.YearDay (1:Int) (366:Int) true=true)->b9 ((↑r.Days.length:Int)+(↑r.Month.length:Int)+(↑r.WeekNo.length:Int)+(↑r.YearDay.length:Int))/\b9 ((0:Int)+1+1+1)/\(0:Int)<=(0:Int)+1+1+1/\(0:Int)+1+1+1<(↑(8:Nat):Int)/\((24:Int)<(↑r.MonthDay.length:Int)->((↑r.MonthDay.length:Int)-((24:Int)+1)).NonNeg/\Q false)/\(¬(24:Int)<(↑r.MonthDay.length:Int)->(False ∨ ¬C8 r.MonthDay (C2 r.MonthDay)=true->((24:Int)<(↑r.MonthDay.length:Int)->False)/\(¬False/\r.MonthDay.length<=1000000)/\(¬False->r.MonthDay.length<=1000000)/\(False ∨ ¬C8 r.MonthDay (C2 r.MonthDay)=true)/\Q false)/\(¬(False ∨ ¬C8 r.MonthDay (C2 r.MonthDay)=true)->((24:Int)<(↑r.MonthDay.length:Int)->False)/\(¬False/\r.MonthDay.length<=1000000)/\(¬False->r.MonthDay.length<=1000000)/\(False ∨ ¬C8 r.MonthDay (C2 r.MonthDay)=true->False)/\((¬False->r.MonthDay.length<=1000000)/\(¬False->(-1000:Int)<=1)/\(¬False->(1:Int)<=1000)/\(¬False->(-1000:Int)<=31)/\(¬False->(31:Int)<=1000))/\(False ∨ H5 r.MonthDay (1:Int) (31:Int) true=true->Q false)/\(¬(False ∨ H5 r.MonthDay (1:Int) (31:Int) true=true)->b9 ((↑r.Days.length:Int)+(↑r.Month.length:Int)+(↑r.WeekNo.length:Int)+(↑r.YearDay.length:Int)+(↑r.MonthDay.length:Int))/\b9 ((0:Int)+1+1+1+1)/\(0:Int)<=(0:Int)+1+1+1+1/\(0:Int)+1+1+1+1<(↑(8:Nat):Int)/\((24:Int)<(↑r.Hour.length:Int)->((↑r.Hour.length:Int)-((24:Int)+1)).NonNeg/\Q false)/\(¬(24:Int)<(↑r.Hour.length:Int)->(False ∨ ¬C8 r.Hour (C2 r.Hour)=true->((24:Int)<(↑r.Hour.length:Int)->False)/\(¬False/\r.Hour.length<=1000000)/\(¬False->r.Hour.length<=1000000)/\(False ∨ ¬C8 r.Hour (C2 r.Hour)=true)/\Q false)/\(¬(False ∨ ¬C8 r.Hour (C2 r.Hour)=true)->((24:Int)<(↑r.Hour.length:Int)->False)/\(¬False/\r.Hour.length<=1000000)/\(¬False->r.Hour.length<=1000000)/\(False ∨ ¬C8 r.Hour (C2 r.Hour)=true->False)/\((¬False->r.Hour.length<=1000000)/\(¬False->(-1000:Int)<=0)/\(¬False->(0:Int)<=1000)/\(¬False->(-1000:Int)<=23)/\(¬False->(23:Int)<=1000))/\(False ∨ H5 r.Hour (0:Int) (23:Int) false=true->Q false)/\(¬(False ∨ H5 r.Hour (0:Int) (23:Int) false=true)->b9 ((↑r.Days.length:Int)+(↑r.Month.length:Int)+(↑r.WeekNo.length:Int)+(↑r.YearDay.length:Int)+(↑r.MonthDay.length:Int)+(↑r.Hour.length:Int))/\b9 ((0:Int)+1+1+1+1+1)/\(0:Int)<=(0:Int)+1+1+1+1+1/\(0:Int)+1+1+1+1+1<(↑(8:Nat):Int)/\((24:Int)<(↑r.Minute.length:Int)->((↑r.Minute.length:Int)-((24:Int)+1)).NonNeg/\Q false)/\(¬(24:Int)<(↑r.Minute.length:Int)->(False ∨ ¬C8 r.Minute (C2 r.Minute)=true->((24:Int)<(↑r.Minute.length:Int)->False)/\(¬False/\r.Minute.length<=1000000)/\(¬False->r.Minute.length<=1000000)/\(False ∨ ¬C8 r.Minute (C2 r.Minute)=true)/\Q false)/\(¬(False ∨ ¬C8 r.Minute (C2 r.Minute)=true)->((24:Int)<(↑r.Minute.length:Int)->False)/\(¬False/\r.Minute.length<=1000000)/\(¬False->r.Minute.length<=1000000)/\(False ∨ ¬C8 r.Minute (C2 r.Minute)=true->False)/\((¬False->r.Minute.length<=1000000)/\(¬False->(-1000:Int)<=0)/\(¬False->(0:Int)<=1000)/\(¬False->(-1000:Int)<=59)/\(¬False->(59:Int)<=1000))/\(False ∨ H5 r.Minute (0:Int) (59:Int) false=true->Q false)/\(¬(False ∨ H5 r.Minute (0:Int) (59:Int) false=true)->b9 ((↑r.Days.length:Int)+(↑r.Month.length:Int)+(↑r.WeekNo.length:Int)+(↑r.YearDay.length:Int)+(↑r.MonthDay.length:Int)+(↑r.Hour.length:Int)+(↑r.Minute.length:Int))/\b9 ((0:Int)+1+1+1+1+1+1)/\(0:Int)<=(0:Int)+1+1+1+1+1+1/\(0:Int)+1+1+1+1+1+1<(↑(8:Nat):Int)/\((24:Int)<(↑r.Second.length:Int)->((↑r.Second.length:Int)-((24:Int)+1)).NonNeg/\Q false)/\(¬(24:Int)<(↑r.Second.length:Int)->(False ∨ ¬C8 r.Second (C2 r.Second)=true->((24:Int)<(↑r.Second.length:Int)->False)/\(¬False/\r.Second.length<=1000000)/\(¬False->r.Second.length<=1000000)/\(False ∨ ¬C8 r.Second (C2 r.Second)=true)/\Q false)/\(¬(False ∨ ¬C8 r.Second (C2 r.Second)=true)->((24:Int)<(↑r.Second.length:Int)->False)/\(¬False/\r.Second.length<=1000000)/\(¬False->r.Second.length<=1000000)/\(False ∨ ¬C8 r.Second (C2 r.Second)=true->False)/\((¬False->r.Second.length<=1000000)/\(¬False->(-1000:Int)<=0)/\(¬False->(0:Int)<=1000)/\(¬False->(-1000:Int)<=59)/\(¬False->(59:Int)<=1000))/\(False ∨ H5 r.Second (0:Int) (59:Int) false=true->Q false)/\(¬(False ∨ H5 r.Second (0:Int) (59:Int) false=true)->b9 ((↑r.Days.length:Int)+(↑r.Month.length:Int)+(↑r.WeekNo.length:Int)+(↑r.YearDay.length:Int)+(↑r.MonthDay.length:Int)+(↑r.Hour.length:Int)+(↑r.Minute.length:Int)+(↑r.Second.length:Int))/\b9 ((0:Int)+1+1+1+1+1+1+1)/\(0:Int)<=(0:Int)+1+1+1+1+1+1+1/\(0:Int)+1+1+1+1+1+1+1<(↑(8:Nat):Int)/\((24:Int)<(↑r.SetPos.length:Int)->((↑r.SetPos.length:Int)-((24:Int)+1)).NonNeg/\Q false)/\(¬(24:Int)<(↑r.SetPos.length:Int)->(False ∨ ¬C8 r.SetPos (C2 r.SetPos)=true->((24:Int)<(↑r.SetPos.length:Int)->False)/\(¬False/\r.SetPos.length<=1000000)/\(¬False->r.SetPos.length<=1000000)/\(False ∨ ¬C8 r.SetPos (C2 r.SetPos)=true)/\Q false)/\(¬(False ∨ ¬C8 r.SetPos (C2 r.SetPos)=true)->((24:Int)<(↑r.SetPos.length:Int)->False)/\(¬False/\r.SetPos.length<=1000000)/\(¬False->r.SetPos.length<=1000000)/\(False ∨ ¬C8 r.SetPos (C2 r.SetPos)=true->False)/\((¬False->r.SetPos.length<=1000000)/\(¬False->(-1000:Int)<=1)/\(¬False->(1:Int)<=1000)/\(¬False->(-1000:Int)<=366)/\(¬False->(366:Int)<=1000))/\(False ∨ H5 r.SetPos (1:Int) (366:Int) true=true->Q false)/\(¬(False ∨ H5 r.SetPos (1:Int) (366:Int) true=true)->b9 ((0:Int)+1+1+1+1+1+1+1+1)/\∃ (I:Int->Prop),∃ (m:Int->Nat),I (0:Int)/\∀ (x:Int),I x->(x<(↑r.Days.length:Int)->(0:Int)<=x/\x<(↑r.Days.length:Int)/\(b9 (ix r.Days x).N->b9 (ix r.Days x).Day->(¬(((ix r.Days x).Day<0 ∨ (6:Int)<(ix r.Days x).Day) ∨ B8 (U0 r)<(ix r.Days x).N)->b9 ((0:Int)-B8 (U0 r)))/\(¬((((ix r.Days x).Day<0 ∨ (6:Int)<(ix r.Days x).Day) ∨ B8 (U0 r)<(ix r.Days x).N) ∨ (ix r.Days x).N<(0:Int)-B8 (U0 r))/\(0:Int)<x->b9 (x-1))/\((¬((((ix r.Days x).Day<0 ∨ (6:Int)<(ix r.Days x).Day) ∨ B8 (U0 r)<(ix r.Days x).N) ∨ (ix r.Days x).N<(0:Int)-B8 (U0 r))/\(0:Int)<x->(0:Int)<=x-1)/\(¬((((ix r.Days x).Day<0 ∨ (6:Int)<(ix r.Days x).Day) ∨ B8 (U0 r)<(ix r.Days x).N) ∨ (ix r.Days x).N<(0:Int)-B8 (U0 r))/\(0:Int)<x->x-1<(↑r.Days.length:Int)))/\((¬((((ix r.Days x).Day<0 ∨ (6:Int)<(ix r.Days x).Day) ∨ B8 (U0 r)<(ix r.Days x).N) ∨ (ix r.Days x).N<(0:Int)-B8 (U0 r))/\(0:Int)<x->b9 (ix r.Days (x-1)).N)->(¬((((ix r.Days x).Day<0 ∨ (6:Int)<(ix r.Days x).Day) ∨ B8 (U0 r)<(ix r.Days x).N) ∨ (ix r.Days x).N<(0:Int)-B8 (U0 r))/\(0:Int)<x->b9 (ix r.Days (x-1)).Day)->(((((ix r.Days x).Day<0 ∨ (6:Int)<(ix r.Days x).Day) ∨ B8 (U0 r)<(ix r.Days x).N) ∨ (ix r.Days x).N<(0:Int)-B8 (U0 r)) ∨ (0:Int)<x/\(0:Int)<=V3 (Nt.mk (ix r.Days (x-1)).N (ix r.Days (x-1)).Day) (Nt.mk (ix r.Days x).N (ix r.Days x).Day)->Q false)/\(¬(((((ix r.Days x).Day<0 ∨ (6:Int)<(ix r.Days x).Day) ∨ B8 (U0 r)<(ix r.Days x).N) ∨ (ix r.Days x).N<(0:Int)-B8 (U0 r)) ∨ (0:Int)<x/\(0:Int)<=V3 (Nt.mk (ix r.Days (x-1)).N (ix r.Days (x-1)).Day) (Nt.mk (ix r.Days x).N (ix r.Days x).Day))->b9 (x+1)/\I (x+1)/\m (x+1)<m x))))/\(¬x<(↑r.Days.length:Int)->b9 (c9e r)/\b9 ((c9e r) * bif true then max (1:Int) (↑r.Second.length:Int) else min (1:Int) (↑r.Second.length:Int))/\Q (decide ((c5h (U0 r)=true/\((0:Int)<(↑r.Days.length:Int)+(↑r.Month.length:Int)+(↑r.WeekNo.length:Int)+(↑r.YearDay.length:Int)+(↑r.MonthDay.length:Int)+(↑r.Hour.length:Int)+(↑r.Minute.length:Int)+(↑r.Second.length:Int) ∨ (↑r.SetPos.length:Int)=0))/\((c9e r) * bif true then max (1:Int) (↑r.Second.length:Int) else min (1:Int) (↑r.Second.length:Int))<=48))))))))))))))))))))))))))))))
theorem d7i {r:Rl} {Q:Bool->Prop}:@Eq Prop (VgR r Q) (i6 (E:=NXr) (j7 NXr H0 c2c 4) (c2c 40) Tryz.f40 [.agg [.int .i64 r.Freq,.int .i64 r.Interval,.int .i64 r.Count,.sl (N:=U) 25 r.Until,.sl (N:=U) 3 r.Month,.sl (N:=U) 3 r.WeekNo,.sl (N:=U) 3 r.YearDay,.sl (N:=U) 3 r.MonthDay,.sl (N:=U) 60 r.Days,.sl (N:=U) 3 r.Hour,.sl (N:=U) 3 r.Minute,.sl (N:=U) 3 r.Second,.sl (N:=U) 3 r.SetPos,.int .i64 r.Wkst]] [] [] 0 (m9 NXr [.bool] Q)):=by kernel_rfl
theorem d4l {r:Rl} {Q:Bool->Prop} (h:VgR r Q):i6 (E:=NXr) (j7 NXr H0 c2c 4) (c2c 40) Tryz.f40 [.agg [.int .i64 r.Freq,.int .i64 r.Interval,.int .i64 r.Count,.sl (N:=U) 25 r.Until,.sl (N:=U) 3 r.Month,.sl (N:=U) 3 r.WeekNo,.sl (N:=U) 3 r.YearDay,.sl (N:=U) 3 r.MonthDay,.sl (N:=U) 60 r.Days,.sl (N:=U) 3 r.Hour,.sl (N:=U) 3 r.Minute,.sl (N:=U) 3 r.Second,.sl (N:=U) 3 r.SetPos,.int .i64 r.Wkst]] [] [] 0 (m9 NXr [.bool] Q):=by rw [<- d7i]; exact h
set_option maxHeartbeats 2000000 in
theorem pgR (r:Rl) (hfw:B9 r=true):VgR r (fun y0=>y0=A2 r):=by
 unfold VgR c9e U0
 obtain ⟨wmo,wwn,wyd,wmd,wdy,who,wmi,wse,wsp,wti⟩:=a10 hfw
 rw [show (Rl.mk r.Freq r.Interval r.Count r.Until r.Month r.WeekNo r.YearDay r.MonthDay r.Days r.Hour r.Minute r.Second r.SetPos r.Wkst)=r from rfl]
 refine ⟨fun h=>(o5 fun R=>by obtain ⟨a1,a2,a3,a4,a5,a6,a7,a8⟩:=R.head; omega).symm,fun h=>?_⟩
 have hH:b21 r:=⟨by omega,by omega,by omega,by omega,by omega,by omega,by omega,by omega⟩
 clear h
 refine ⟨fun _=>by decide,fun h=>by omega,fun _ _ _ _ _ _=>?_⟩
 refine ⟨fun hu=>(o5 fun R=>?_).symm,fun hu=>?_⟩
 . simp only [Bool.decide_eq_true] at hu
   obtain ⟨a,b⟩:=R.til
   have c:=R.few
   rcases hu with (hu | ⟨h1,hu | hu⟩) | hu
   . omega
   . have:=(b h1).1; omega
   . exact hu (b h1).2
   . omega
 simp only [Bool.decide_eq_true] at hu
 have hU:b4p r:=by
  have u1:¬ 1<(r.Until.length:Int):=fun h=>hu (.inl (.inl h))
  exact ⟨by omega,fun h1=>⟨by have:¬ 0<r.Count:=fun h=>hu (.inl (.inr ⟨h1,.inl h⟩)); omega,Classical.not_not.1 fun hn=>hu (.inl (.inr ⟨h1,.inr hn⟩))⟩⟩
 have h24:(r.Days.length:Int)<=24:=by have:¬ 24<(r.Days.length:Int):=fun h=>hu (.inr h); omega
 clear hu
 refine ⟨by decide,by decide,fun a=>⟨a,(o5 fun R=>a2r a R.lists.mo).symm⟩,fun a=>⟨fun e=>⟨fun x=>a x,⟨not_false,by omega⟩,fun _=>by omega,e,(o5 fun R=>a2p e R.lists.mo).symm⟩,fun e=>⟨fun x=>a x,⟨not_false,by omega⟩,fun _=>by omega,fun x=>e x,⟨fun _=>by omega,fun _=>by decide,fun _=>by decide,fun _=>by decide,fun _=>by decide⟩,fun c=>(o5 fun R=>a2h (by decide) c R.lists.mo).symm,fun c=>?_⟩⟩⟩
 have r_mo:I8 r.Month 1 12 false:=a2i (by decide) a e c
 clear a e c
 refine ⟨⟨by omega,by omega⟩,⟨by omega,by omega⟩,?_⟩
 refine ⟨by decide,by decide,fun a=>⟨a,(o5 fun R=>a2r a R.lists.wn).symm⟩,fun a=>⟨fun e=>⟨fun x=>a x,⟨not_false,by omega⟩,fun _=>by omega,e,(o5 fun R=>a2p e R.lists.wn).symm⟩,fun e=>⟨fun x=>a x,⟨not_false,by omega⟩,fun _=>by omega,fun x=>e x,⟨fun _=>by omega,fun _=>by decide,fun _=>by decide,fun _=>by decide,fun _=>by decide⟩,fun c=>(o5 fun R=>a2h (by decide) c R.lists.wn).symm,fun c=>?_⟩⟩⟩
 have r_wn:I8 r.WeekNo 1 53 true:=a2i (by decide) a e c
 clear a e c
 refine ⟨⟨by omega,by omega⟩,⟨by omega,by omega⟩,?_⟩
 refine ⟨by decide,by decide,fun a=>⟨a,(o5 fun R=>a2r a R.lists.yd).symm⟩,fun a=>⟨fun e=>⟨fun x=>a x,⟨not_false,by omega⟩,fun _=>by omega,e,(o5 fun R=>a2p e R.lists.yd).symm⟩,fun e=>⟨fun x=>a x,⟨not_false,by omega⟩,fun _=>by omega,fun x=>e x,⟨fun _=>by omega,fun _=>by decide,fun _=>by decide,fun _=>by decide,fun _=>by decide⟩,fun c=>(o5 fun R=>a2h (by decide) c R.lists.yd).symm,fun c=>?_⟩⟩⟩
 have r_yd:I8 r.YearDay 1 366 true:=a2i (by decide) a e c
 clear a e c
 refine ⟨⟨by omega,by omega⟩,⟨by omega,by omega⟩,?_⟩
 refine ⟨by decide,by decide,fun a=>⟨a,(o5 fun R=>a2r a R.lists.md).symm⟩,fun a=>⟨fun e=>⟨fun x=>a x,⟨not_false,by omega⟩,fun _=>by omega,e,(o5 fun R=>a2p e R.lists.md).symm⟩,fun e=>⟨fun x=>a x,⟨not_false,by omega⟩,fun _=>by omega,fun x=>e x,⟨fun _=>by omega,fun _=>by decide,fun _=>by decide,fun _=>by decide,fun _=>by decide⟩,fun c=>(o5 fun R=>a2h (by decide) c R.lists.md).symm,fun c=>?_⟩⟩⟩
 have r_md:I8 r.MonthDay 1 31 true:=a2i (by decide) a e c
 clear a e c
 refine ⟨⟨by omega,by omega⟩,⟨by omega,by omega⟩,?_⟩
 refine ⟨by decide,by decide,fun a=>⟨a,(o5 fun R=>a2r a R.lists.ho).symm⟩,fun a=>⟨fun e=>⟨fun x=>a x,⟨not_false,by omega⟩,fun _=>by omega,e,(o5 fun R=>a2p e R.lists.ho).symm⟩,fun e=>⟨fun x=>a x,⟨not_false,by omega⟩,fun _=>by omega,fun x=>e x,⟨fun _=>by omega,fun _=>by decide,fun _=>by decide,fun _=>by decide,fun _=>by decide⟩,fun c=>(o5 fun R=>a2h (by decide) c R.lists.ho).symm,fun c=>?_⟩⟩⟩
 have r_ho:I8 r.Hour 0 23 false:=a2i (by decide) a e c
 clear a e c
 refine ⟨⟨by omega,by omega⟩,⟨by omega,by omega⟩,?_⟩
 refine ⟨by decide,by decide,fun a=>⟨a,(o5 fun R=>a2r a R.lists.mi).symm⟩,fun a=>⟨fun e=>⟨fun x=>a x,⟨not_false,by omega⟩,fun _=>by omega,e,(o5 fun R=>a2p e R.lists.mi).symm⟩,fun e=>⟨fun x=>a x,⟨not_false,by omega⟩,fun _=>by omega,fun x=>e x,⟨fun _=>by omega,fun _=>by decide,fun _=>by decide,fun _=>by decide,fun _=>by decide⟩,fun c=>(o5 fun R=>a2h (by decide) c R.lists.mi).symm,fun c=>?_⟩⟩⟩
 have r_mi:I8 r.Minute 0 59 false:=a2i (by decide) a e c
 clear a e c
 refine ⟨⟨by omega,by omega⟩,⟨by omega,by omega⟩,?_⟩
 refine ⟨by decide,by decide,fun a=>⟨a,(o5 fun R=>a2r a R.lists.se).symm⟩,fun a=>⟨fun e=>⟨fun x=>a x,⟨not_false,by omega⟩,fun _=>by omega,e,(o5 fun R=>a2p e R.lists.se).symm⟩,fun e=>⟨fun x=>a x,⟨not_false,by omega⟩,fun _=>by omega,fun x=>e x,⟨fun _=>by omega,fun _=>by decide,fun _=>by decide,fun _=>by decide,fun _=>by decide⟩,fun c=>(o5 fun R=>a2h (by decide) c R.lists.se).symm,fun c=>?_⟩⟩⟩
 have r_se:I8 r.Second 0 59 false:=a2i (by decide) a e c
 clear a e c
 refine ⟨⟨by omega,by omega⟩,⟨by omega,by omega⟩,?_⟩
 refine ⟨by decide,by decide,fun a=>⟨a,(o5 fun R=>a2r a R.lists.sp).symm⟩,fun a=>⟨fun e=>⟨fun x=>a x,⟨not_false,by omega⟩,fun _=>by omega,e,(o5 fun R=>a2p e R.lists.sp).symm⟩,fun e=>⟨fun x=>a x,⟨not_false,by omega⟩,fun _=>by omega,fun x=>e x,⟨fun _=>by omega,fun _=>by decide,fun _=>by decide,fun _=>by decide,fun _=>by decide⟩,fun c=>(o5 fun R=>a2h (by decide) c R.lists.sp).symm,fun c=>?_⟩⟩⟩
 have r_sp:I8 r.SetPos 1 366 true:=a2i (by decide) a e c
 clear a e c
 refine ⟨⟨by omega,by omega⟩,?_⟩
 have hL:a7v r:=⟨r_mo,r_wn,r_yd,r_md,r_ho,r_mi,r_se,r_sp⟩
 have m0:0<=B8 r/\B8 r<=53:=by
  unfold B8
  split
  . omega
  . split <;> omega
 refine ⟨fun x=>0<=x/\x<=r.Days.length/\K9 r.Days (B8 r) x,fun x=>((r.Days.length:Int)-x).toNat,⟨Int.le_refl _,by omega,K9.nil⟩,?_⟩
 rintro x ⟨x0,x1,hd⟩
 rw [show Nt.mk (ix r.Days (x-1)).N (ix r.Days (x-1)).Day=ix r.Days (x-1) from rfl,show Nt.mk (ix r.Days x).N (ix r.Days x).Day=ix r.Days x from rfl]
 refine ⟨fun hx=>⟨x0,hx,fun _ _=>⟨fun _=>⟨by omega,by omega⟩,fun h=>⟨by omega,by omega⟩,⟨fun h=>by omega,fun h=>by omega⟩,fun _ _=>⟨fun hb=>?_,fun hb=>?_⟩⟩⟩,fun hx=>?_⟩
 . refine (o5 fun R=>?_).symm
   obtain ⟨a1,a2,a3,a4⟩:=R.days.ok x x0 hx
   rcases hb with (((h | h) | h) | h) | ⟨h0,h⟩
   . omega
   . omega
   . omega
   . omega
   . exact a5z.1 h (R.days.up x h0 hx)
 . have hb':=fun h=>hb (.inl h)
   exact ⟨⟨by omega,by omega⟩,⟨by omega,by omega,hd.step ⟨by omega,by omega,by omega,by omega⟩ fun h0=>Classical.not_not.1 fun hn=>hb (.inr ⟨h0,a5z.2 hn⟩)⟩,by dsimp only; omega⟩
 . have b1:∀ a b:Int,(bif true then a else b)=a:=fun _ _=>rfl
   rw [b1,b1,b1,a5o,a5o,a5o]
   have l1:=@P3 r.Hour
   have l2:=@P3 r.Minute
   have l3:=@P3 r.Second
   have k:=d0b (a:=B6 r.Hour) (b:=B6 r.Minute) (c:=B6 r.Second) (by omega) (by omega) (by omega)
   refine ⟨k.1,k.2,?_⟩
   refine Bool.eq_iff_iff.2 (Iff.trans decide_eq_true_iff (Iff.trans ?_ n9.symm))
   constructor
   . rintro ⟨⟨hf,hs⟩,hc⟩
     exact ⟨hH,hU,hL,h24,hd.done hx,Classical.not_not.1 fun hn=>(by rw [<- c9x hn] at hf; cases hf),⟨by omega,hc⟩⟩
   . intro R
     obtain ⟨s1,s2⟩:=R.some
     exact ⟨⟨(d0i R.fit).symm,by omega⟩,s2⟩
noncomputable def e3w (r:Rl):Q1 U:=⟨[B9 r=true],[],blB (A2 r)⟩
noncomputable def cgR (a:List (SV U)):Option (Q1 U):=match a with | [.agg l_r]=>(y30.bk (.agg l_r)).bind fun r=>some (e3w r) | _=>none
theorem d1s (args:List (SV U)) (q:Q1 U) (h:cgR args=some q) (ho:l7 q.ob):l4 NXr 40 args ⟨q.ob,q.hy,q.v,[]⟩:=by
 unfold cgR at h
 split at h
 . rename_i l_r
   obtain ⟨r,hb_r,h⟩:=Option.bind_eq_some_iff.1 h
   cases h
   refine l4.conv (E:=NXr) (args':=[.agg [.int .i64 r.Freq,.int .i64 r.Interval,.int .i64 r.Count,.sl 25 r.Until,.sl 3 r.Month,.sl 3 r.WeekNo,.sl 3 r.YearDay,.sl 3 r.MonthDay,.sl 60 r.Days,.sl 3 r.Hour,.sl 3 r.Minute,.sl 3 r.Second,.sl 3 r.SetPos,.int .i64 r.Wkst]]) (q8 b5l (j8 b5l p8 c2c 4) Tryz.func40 (k:=.bool) trivial (d4l (pgR r ho.1)) 0) fun D w vs hr=>w5 [.agg l_r] [.agg [.int .i64 r.Freq,.int .i64 r.Interval,.int .i64 r.Count,.sl (N:=U) 25 r.Until,.sl (N:=U) 3 r.Month,.sl (N:=U) 3 r.WeekNo,.sl (N:=U) 3 r.YearDay,.sl (N:=U) 3 r.MonthDay,.sl (N:=U) 60 r.Days,.sl (N:=U) 3 r.Hour,.sl (N:=U) 3 r.Minute,.sl (N:=U) 3 r.Second,.sl (N:=U) 3 r.SetPos,.int .i64 r.Wkst]] _ ⟨fun _ h=>A5 hb_r h,trivial⟩ hr
 . cases h
noncomputable def NgR:Env:=NXr.addL 40 cgR
theorem b5u:k8 NgR:=b5l.addL Tryz.call40 d1s
end Go.Proofs.YtdjfeninmbpflaaGreat
end
section
namespace Go.Re
open Go Go.Wk Go.Wl Go.Rx
theorem c6j {p:Prop} [Decidable p] {b:Bool} (h:p↔b=true):decide p=b:=Bool.eq_iff_iff.2 (decide_eq_true_iff.trans h)
structure s4 (s:Tm) (r:Rl):Prop where
 rt:l9 s=true
 rr:A2 r=true
 un:0<(r.Until.length:Int)->(((ix r.Until 0).Bare=true↔s.Bare=true)/\((ix r.Until 0).UTC=true↔s.UTC=true))
 ba:s.Bare=true->r.Freq<=3/\(r.Hour.length:Int)=0/\(r.Minute.length:Int)=0/\(r.Second.length:Int)=0
open Classical in
noncomputable def C4 (s:Tm) (r:Rl):Bool:=decide (s4 s r)
open Classical in
theorem F1 {s:Tm} {r:Rl}:C4 s r=true↔s4 s r:=by unfold C4; exact decide_eq_true_iff
theorem a3e {s:Tm} {r:Rl} (h:¬ s4 s r):false=C4 s r:=by
 cases e:C4 s r with
 | true=>exact absurd (F1.1 e) h
 | false=>rfl
def H8 (r:Rl) (t:Int):Int :=
 if r.Freq=0 then (ofS (t / 86400+1)).Year else if r.Freq=1 then 12 * (ofS (t / 86400+1)).Year+(ofS (t / 86400+1)).Month
 else if r.Freq=2 then (t / 86400+1+6-r.Wkst) / 7 else if r.Freq=3 then t / 86400+1 else if r.Freq=4 then t / 3600 else if r.Freq=5 then t / 60 else t
def l6 (r:Rl) (t:Int):Int:=H8 r t-(if r.Freq=1 then 1 else 0)
def nbP (n:Int):Int:=if n=0 ∨ 3652059<n then 315537897600 else (n-1) * 86400
def q7 (r:Rl) (i:Int):Int :=
 if r.Freq=0 then nbP (p6 ⟨i,1,1⟩) else if r.Freq=1 then nbP (p6 ⟨i / 12,i % 12+1,1⟩) else if r.Freq=2 then nbP (max 1 (7 * i-6+r.Wkst))
 else if r.Freq=3 then nbP i else if r.Freq=4 then min i 87649416 * 3600 else if r.Freq=5 then min i 5258964960 * 60 else min i 315537897600
theorem a3l (d:Dy):0<=p6 d/\p6 d<=3652059:=by
 unfold p6
 split
 . rename_i h; have:=J6 h; omega
 . omega
theorem b7p (n:Int):(0<=(ofS n).Year/\(ofS n).Year<=9999)/\(0<=(ofS n).Month/\(ofS n).Month<=12)/\0<=(ofS n).Date/\(ofS n).Date<=31:=by
 by_cases h:n<1 ∨ 3652059<n
 . have e:ofS n=⟨0,0,0⟩:=by unfold ofS; rw [if_pos h]
   rw [e]
   exact ⟨by decide,by decide,by decide⟩
 . obtain ⟨h1,_⟩:=N1 (n:=n) (by omega) (by omega)
   obtain ⟨a,b,c,d,e,f⟩:=h1.ym
   exact ⟨⟨by omega,b⟩,⟨by omega,d⟩,by omega,f⟩
def V8 (y f:Int):Int:=if E8 y f=0 then 1 else E8 y f
def atW (r:Rl) (n:Int):Int:=if r.Freq=1 ∨ 0<(r.Month.length:Int) then (ofS n).Date else ydS (ofS n)
def a2t (r:Rl) (n:Int):Int:=if r.Freq=1 ∨ 0<(r.Month.length:Int) then s9 (ofS n).Year (ofS n).Month else ydS ⟨(ofS n).Year,12,31⟩
def WdP (r:Rl) (n:Int) (x:Nt):Prop:=x.Day=wdS n/\((x.N=0 ∨ x.N=1+(atW r n-1) / 7) ∨ -x.N=1+(a2t r n-atW r n) / 7)
instance (r:Rl) (n:Int) (x:Nt):Decidable (WdP r n x):=by unfold WdP; infer_instance
def wdB (r:Rl) (n:Int):Bool:=r.Days.any fun x=>decide (WdP r n x)
def L0 (s:Tm) (r:Rl) (dy n:Int):Prop :=
 if 0<(r.WeekNo.length:Int) then wdS n=wdS dy
 else ¬ (((r.Freq<=1/\(ofS n).Date≠s.Day.Date) ∨ ((r.Freq=0/\(r.Month.length:Int)=0)/\(ofS n).Month≠s.Day.Month)))/\(r.Freq≠2 ∨ wdS n=wdS dy)
instance (s:Tm) (r:Rl) (dy n:Int):Decidable (L0 s r dy n):=by unfold L0; infer_instance
def M4 (s:Tm) (r:Rl) (dy n:Int):Bool :=
 (((decide ((r.Month.length:Int)=0) || B3 r.Month (ofS n).Month) && Z5 r.WeekNo (A7 n r.Wkst).2 (V8 (A7 n r.Wkst).1 r.Wkst)) && (Z5 r.YearDay (ydS (ofS n)) (ydS ⟨(ofS n).Year,12,31⟩) && Z5 r.MonthDay (ofS n).Date (s9 (ofS n).Year (ofS n).Month))) &&
 (if 0<(r.Days.length:Int) then wdB r n else if 0<(r.YearDay.length:Int) ∨ 0<(r.MonthDay.length:Int) then true else decide (L0 s r dy n))
theorem e2n (n f:Int):-1000000<=(A7 n f).2/\(A7 n f).2<=1000000:=by
 unfold A7
 split
 . exact ⟨by decide,by decide⟩
 . show -1000000<=(n-v8 (wkY n f) f) / 7+1/\_
   obtain ⟨⟨y0,y1⟩,_⟩:=b7p n
   have hy:0-1<=wkY n f/\wkY n f<=10000:=by unfold wkY; split; omega; split <;> omega
   have b:=J4 (wkY n f) f
   have a0:=v7 (show -1<=wkY n f by omega)
   have a1:=v7 (show wkY n f<=10000 by omega)
   have a2:j4 (-1)=-731:=by decide
   have a3:j4 10000=3652059:=by decide
   show -1000000<=(n-v8 (wkY n f) f) / 7+1/\(n-v8 (wkY n f) f) / 7+1<=1000000
   omega
theorem e1d (y f:Int):-1000000<=V8 y f/\V8 y f<=1000000:=by
 unfold V8
 have h:-1000000<=E8 y f/\E8 y f<=1000000:=by
  unfold E8
  split
  . omega
  . have b:=J4 y f
    have c:=J4 (y+1) f
    have a0:=z6 (y:=y) (by omega) (by omega)
    have a1:=z6 (y:=y+1) (by omega) (by omega)
    omega
 split <;> omega
theorem b80 (d:Dy):-5000000<=ydS d/\ydS d<=5000000:=by
 unfold ydS
 split
 . rename_i h
   obtain ⟨y0,y1,_⟩:=h.ym
   have a:=J6 h
   have b:=z6 (y:=d.Year) (by omega) (by omega)
   omega
 . omega
theorem b6o (y m:Int):0<=s9 y m/\s9 y m<=31:=by unfold s9; (repeat' split) <;> omega
theorem c6y {r:Rl} {n i:Int} (h0:0<=i) (h1:i<r.Days.length) (h:WdP r n (ix r.Days i)):true=wdB r n:=(List.any_eq_true.2 ⟨_,a36 h0 h1,decide_eq_true h⟩).symm
theorem d2w {r:Rl} {n:Int} (h:∀ i:Int,0<=i->i<r.Days.length->¬ WdP r n (ix r.Days i)):false=wdB r n:=by
 cases hb:wdB r n with
 | false=>rfl
 | true =>
  obtain ⟨x,hx,hd⟩:=List.any_eq_true.1 hb
  obtain ⟨i,h0,h1,rfl⟩:=E5 hx
  exact absurd (of_decide_eq_true hd) (h i h0 h1)
theorem d6r (r:Rl) (n:Int):0<=atW r n+5000000/\atW r n<=5000000/\0<=a2t r n+5000000/\a2t r n<=5000000:=by
 have a:=b80 (ofS n)
 have b:=b80 ⟨(ofS n).Year,12,31⟩
 have c:=b6o (ofS n).Year (ofS n).Month
 obtain ⟨_,_,d⟩:=b7p n
 unfold atW a2t
 split <;> omega
theorem e2w {n:Int} (h0:1<=n) (h1:n<=3652059):1<=ydS (ofS n)/\ydS (ofS n)<=ydS ⟨(ofS n).Year,12,31⟩:=by
 obtain ⟨hr,hn⟩:=N1 h0 h1
 obtain ⟨y0,y1,m0,m1,_⟩:=hr.ym
 have i1:=R5 hr
 have hr2:w8 ⟨(ofS n).Year,12,31⟩:=by
  refine ⟨show (1:Int)<=31 by decide,?_⟩
  show (31:Int)<=s9 (ofS n).Year 12
  unfold s9
  rw [if_neg (by omega),if_neg (by decide)]
  decide
 have e1:ydS (ofS n)=z7 (ofS n)-j4 (ofS n).Year:=by unfold ydS; rw [if_pos hr]
 have e2:ydS ⟨(ofS n).Year,12,31⟩=D2 (ofS n).Year 12+31:=by
  unfold ydS; rw [if_pos hr2]
  show j4 (ofS n).Year+D2 (ofS n).Year 12+31-j4 (ofS n).Year=_
  omega
 have:=b10 (ofS n).Year
 omega
theorem e2j {r:Rl} {n:Int} (h0:1<=n) (h1:n<=3652059):1<=atW r n/\atW r n<=a2t r n:=by
 obtain ⟨hr,hn⟩:=N1 h0 h1
 have a:=e2w h0 h1
 unfold atW a2t
 split
 . exact hr
 . exact a
end Go.Re
end
section
namespace Go.Proofs.YtdjfeninmbpflaaGreat
open Go Go.Wk Go.Wl Go.Rx Go.Re 
attribute [local irreducible] i6
def c63:Nat->Ann:=fun | 18=>⟨57,fun | 4=>some ⟨[2,3,16,17],[.slot 18 (.int .i64)]⟩ | _=>none,fun _=>none⟩ | _=>⟨0,fun _=>none,fun _=>none⟩
def VcF (s:Tm) (r:Rl) (Q:Bool->Prop):Prop :=
(¬¬l9 (Tm.mk (Dy.mk s.Day.Year s.Day.Month s.Day.Date) s.Hour s.Min s.Sec (decide (s.Bare=true)) (decide (s.UTC=true)))=true->B9 (Rl.mk r.Freq r.Interval r.Count r.Until r.Month r.WeekNo r.YearDay r.MonthDay r.Days r.Hour r.Minute r.Second r.SetPos r.Wkst)=true)/\(¬l9 (Tm.mk (Dy.mk s.Day.Year s.Day.Month s.Day.Date) s.Hour s.Min s.Sec (decide (s.Bare=true)) (decide (s.UTC=true)))=true ∨ ¬A2 (Rl.mk r.Freq r.Interval r.Count r.Until r.Month r.WeekNo r.YearDay r.MonthDay r.Days r.Hour r.Minute r.Second r.SetPos r.Wkst)=true->Q false)/\(¬(¬l9 (Tm.mk (Dy.mk s.Day.Year s.Day.Month s.Day.Date) s.Hour s.Min s.Sec (decide (s.Bare=true)) (decide (s.UTC=true)))=true ∨ ¬A2 (Rl.mk r.Freq r.Interval r.Count r.Until r.Month r.WeekNo r.YearDay r.MonthDay r.Days r.Hour r.Minute r.Second r.SetPos r.Wkst)=true)->∃ (I:Int->Prop),∃ (m:Int->Nat),I (0:Int)/\∀ (x:Int),I x->(x<(↑r.Until.length:Int)->(0:Int)<=x/\x<(↑r.Until.length:Int)/\(b9 (ix r.Until x).Day.Year->b9 (ix r.Until x).Day.Month->b9 (ix r.Until x).Day.Date->b9 (ix r.Until x).Hour->b9 (ix r.Until x).Min->b9 (ix r.Until x).Sec->(¬((ix r.Until x).Bare=true↔s.Bare=true) ∨ ¬((ix r.Until x).UTC=true↔s.UTC=true)->Q false)/\(¬(¬((ix r.Until x).Bare=true↔s.Bare=true) ∨ ¬((ix r.Until x).UTC=true↔s.UTC=true))->b9 (x+1)/\I (x+1)/\m (x+1)<m x)))/\(¬x<(↑r.Until.length:Int)->(¬¬s.Bare=true/\r.Freq<=3->b9 ((↑r.Hour.length:Int)+(↑r.Minute.length:Int)))/\(¬¬s.Bare=true/\r.Freq<=3->b9 ((↑r.Hour.length:Int)+(↑r.Minute.length:Int)+(↑r.Second.length:Int)))/\Q (decide (¬s.Bare=true ∨ r.Freq<=3/\(↑r.Hour.length:Int)+(↑r.Minute.length:Int)+(↑r.Second.length:Int)=0))))
theorem d8w {s:Tm} {r:Rl} {Q:Bool->Prop}:@Eq Prop (VcF s r Q) (i6 (E:=NgR) (j7 NgR H0 c63 2) (c63 18) Tryz.f18 [.agg [.int .i64 s.Day.Year,.int .i64 s.Day.Month,.int .i64 s.Day.Date,.int .i64 s.Hour,.int .i64 s.Min,.int .i64 s.Sec,blB s.Bare,blB s.UTC],.agg [.int .i64 r.Freq,.int .i64 r.Interval,.int .i64 r.Count,.sl (N:=U) 25 r.Until,.sl (N:=U) 3 r.Month,.sl (N:=U) 3 r.WeekNo,.sl (N:=U) 3 r.YearDay,.sl (N:=U) 3 r.MonthDay,.sl (N:=U) 60 r.Days,.sl (N:=U) 3 r.Hour,.sl (N:=U) 3 r.Minute,.sl (N:=U) 3 r.Second,.sl (N:=U) 3 r.SetPos,.int .i64 r.Wkst]] [] [] 0 (m9 NgR [.bool] Q)):=by kernel_rfl
theorem d3a {s:Tm} {r:Rl} {Q:Bool->Prop} (h:VcF s r Q):i6 (E:=NgR) (j7 NgR H0 c63 2) (c63 18) Tryz.f18 [.agg [.int .i64 s.Day.Year,.int .i64 s.Day.Month,.int .i64 s.Day.Date,.int .i64 s.Hour,.int .i64 s.Min,.int .i64 s.Sec,blB s.Bare,blB s.UTC],.agg [.int .i64 r.Freq,.int .i64 r.Interval,.int .i64 r.Count,.sl (N:=U) 25 r.Until,.sl (N:=U) 3 r.Month,.sl (N:=U) 3 r.WeekNo,.sl (N:=U) 3 r.YearDay,.sl (N:=U) 3 r.MonthDay,.sl (N:=U) 60 r.Days,.sl (N:=U) 3 r.Hour,.sl (N:=U) 3 r.Minute,.sl (N:=U) 3 r.Second,.sl (N:=U) 3 r.SetPos,.int .i64 r.Wkst]] [] [] 0 (m9 NgR [.bool] Q):=by rw [<- d8w]; exact h
theorem pcF (s:Tm) (r:Rl) (hfw:B9 r=true):VcF s r (fun y0=>y0=C4 s r):=by
 unfold VcF
 rw [show (Rl.mk r.Freq r.Interval r.Count r.Until r.Month r.WeekNo r.YearDay r.MonthDay r.Days r.Hour r.Minute r.Second r.SetPos r.Wkst)=r from rfl]
 simp only [Bool.decide_eq_true]
 refine ⟨fun _=>hfw,fun h=>a3e fun F=>h.elim (fun h=>h F.rt) fun h=>h F.rr,fun h=>?_⟩
 have rt:l9 s=true:=Classical.not_not.1 fun hn=>h (.inl hn)
 have rr:A2 r=true:=Classical.not_not.1 fun hn=>h (.inr hn)
 obtain ⟨wmo,wwn,wyd,wmd,wdy,who,wmi,wse,wsp,wti⟩:=a10 hfw
 have hl:(r.Until.length:Int)<=1:=(n9.1 rr).til.1
 refine ⟨fun x=>0<=x/\(0<x->(((ix r.Until 0).Bare=true↔s.Bare=true)/\((ix r.Until 0).UTC=true↔s.UTC=true))),fun x=>((r.Until.length:Int)-x).toNat,⟨Int.le_refl _,fun h=>by omega⟩,?_⟩
 rintro x ⟨x0,hx⟩
 refine ⟨fun h1=>?_,fun h1=>?_⟩
 . obtain rfl:x=0:=by omega
   refine ⟨x0,h1,fun _ _ _ _ _ _=>⟨fun hn=>a3e fun F=>?_,fun hn=>⟨by decide,⟨by decide,fun _=>⟨Classical.not_not.1 fun h=>hn (.inl h),Classical.not_not.1 fun h=>hn (.inr h)⟩⟩,by dsimp only; omega⟩⟩⟩
   obtain ⟨a,b⟩:=F.un h1
   exact hn.elim (fun h=>h a) fun h=>h b
 . refine ⟨fun _=>⟨by omega,by omega⟩,fun _=>⟨by omega,by omega⟩,?_⟩
   refine Bool.eq_iff_iff.2 (Iff.trans decide_eq_true_iff (Iff.trans ?_ F1.symm))
   constructor
   . intro hb
     exact ⟨rt,rr,fun h0=>hx (by omega),fun hs=>by rcases hb with hb | ⟨hb,hc⟩; exact absurd hs hb; exact ⟨hb,by omega,by omega,by omega⟩⟩
   . intro F
     by_cases hs:s.Bare=true
     . obtain ⟨a,b,c,d⟩:=F.ba hs
       exact .inr ⟨a,by omega⟩
     . exact .inl hs
noncomputable def e3x (s:Tm) (r:Rl):Q1 U:=⟨[B9 r=true],[],blB (C4 s r)⟩
noncomputable def ccF (a:List (SV U)):Option (Q1 U):=match a with | [.agg l_s,.agg l_r]=>(y25.bk (.agg l_s)).bind fun s=>(y30.bk (.agg l_r)).bind fun r=>some (e3x s r) | _=>none
theorem d1u (args:List (SV U)) (q:Q1 U) (h:ccF args=some q) (ho:l7 q.ob):l4 NgR 18 args ⟨q.ob,q.hy,q.v,[]⟩:=by
 unfold ccF at h
 split at h
 . rename_i l_s l_r
   obtain ⟨s,hb_s,h⟩:=Option.bind_eq_some_iff.1 h
   obtain ⟨r,hb_r,h⟩:=Option.bind_eq_some_iff.1 h
   cases h
   refine l4.conv (E:=NgR) (args':=[.agg [.int .i64 s.Day.Year,.int .i64 s.Day.Month,.int .i64 s.Day.Date,.int .i64 s.Hour,.int .i64 s.Min,.int .i64 s.Sec,blB s.Bare,blB s.UTC],.agg [.int .i64 r.Freq,.int .i64 r.Interval,.int .i64 r.Count,.sl 25 r.Until,.sl 3 r.Month,.sl 3 r.WeekNo,.sl 3 r.YearDay,.sl 3 r.MonthDay,.sl 60 r.Days,.sl 3 r.Hour,.sl 3 r.Minute,.sl 3 r.Second,.sl 3 r.SetPos,.int .i64 r.Wkst]]) (q8 b5u (j8 b5u p8 c63 2) Tryz.func18 (k:=.bool) trivial (d3a (pcF s r ho.1)) 0) fun D w vs hr=>w5 [.agg l_s,.agg l_r] [.agg [.int .i64 s.Day.Year,.int .i64 s.Day.Month,.int .i64 s.Day.Date,.int .i64 s.Hour,.int .i64 s.Min,.int .i64 s.Sec,blB s.Bare,blB s.UTC],.agg [.int .i64 r.Freq,.int .i64 r.Interval,.int .i64 r.Count,.sl (N:=U) 25 r.Until,.sl (N:=U) 3 r.Month,.sl (N:=U) 3 r.WeekNo,.sl (N:=U) 3 r.YearDay,.sl (N:=U) 3 r.MonthDay,.sl (N:=U) 60 r.Days,.sl (N:=U) 3 r.Hour,.sl (N:=U) 3 r.Minute,.sl (N:=U) 3 r.Second,.sl (N:=U) 3 r.SetPos,.int .i64 r.Wkst]] _ ⟨fun _ h=>v6 hb_s h,fun _ h=>A5 hb_r h,trivial⟩ hr
 . cases h
noncomputable def NcF:Env:=NgR.addL 18 ccF
theorem b2y:k8 NcF:=b5u.addL Tryz.call18 d1u
end Go.Proofs.YtdjfeninmbpflaaGreat
end
section
namespace Go.Proofs.YtdjfeninmbpflaaGreat
open Go Go.Wk Go.Wl Go.Rx Go.Re 
attribute [local irreducible] i6
def c5f:Nat->Ann:=fun | 21=>⟨63,fun _=>none,fun _=>none⟩ | _=>⟨0,fun _=>none,fun _=>none⟩
def VxF (s:Tm) (r:Rl) (Q:Bool->Prop):Prop :=
(¬¬l9 (Tm.mk (Dy.mk s.Day.Year s.Day.Month s.Day.Date) s.Hour s.Min s.Sec (decide (s.Bare=true)) (decide (s.UTC=true)))=true->B9 (Rl.mk r.Freq r.Interval r.Count r.Until r.Month r.WeekNo r.YearDay r.MonthDay r.Days r.Hour r.Minute r.Second r.SetPos r.Wkst)=true)/\(¬l9 (Tm.mk (Dy.mk s.Day.Year s.Day.Month s.Day.Date) s.Hour s.Min s.Sec (decide (s.Bare=true)) (decide (s.UTC=true)))=true ∨ ¬A2 (Rl.mk r.Freq r.Interval r.Count r.Until r.Month r.WeekNo r.YearDay r.MonthDay r.Days r.Hour r.Minute r.Second r.SetPos r.Wkst)=true->Q false)/\(¬(¬l9 (Tm.mk (Dy.mk s.Day.Year s.Day.Month s.Day.Date) s.Hour s.Min s.Sec (decide (s.Bare=true)) (decide (s.UTC=true)))=true ∨ ¬A2 (Rl.mk r.Freq r.Interval r.Count r.Until r.Month r.WeekNo r.YearDay r.MonthDay r.Days r.Hour r.Minute r.Second r.SetPos r.Wkst)=true)->((0:Int)<(↑r.Until.length:Int)->(0:Int)<=0)/\((0:Int)<(↑r.Until.length:Int)->(0:Int)<(↑r.Until.length:Int))/\(((0:Int)<(↑r.Until.length:Int)->b9 (ix r.Until (0:Int)).Day.Year)->((0:Int)<(↑r.Until.length:Int)->b9 (ix r.Until (0:Int)).Day.Month)->((0:Int)<(↑r.Until.length:Int)->b9 (ix r.Until (0:Int)).Day.Date)->((0:Int)<(↑r.Until.length:Int)->b9 (ix r.Until (0:Int)).Hour)->((0:Int)<(↑r.Until.length:Int)->b9 (ix r.Until (0:Int)).Min)->((0:Int)<(↑r.Until.length:Int)->b9 (ix r.Until (0:Int)).Sec)->((0:Int)<(↑r.Until.length:Int)/\¬¬((ix r.Until (0:Int)).Bare=true↔s.Bare=true)->(0:Int)<=0)/\((0:Int)<(↑r.Until.length:Int)/\¬¬((ix r.Until (0:Int)).Bare=true↔s.Bare=true)->(0:Int)<(↑r.Until.length:Int))/\(((0:Int)<(↑r.Until.length:Int)/\¬¬((ix r.Until (0:Int)).Bare=true↔s.Bare=true)->b9 (ix r.Until (0:Int)).Day.Year)->((0:Int)<(↑r.Until.length:Int)/\¬¬((ix r.Until (0:Int)).Bare=true↔s.Bare=true)->b9 (ix r.Until (0:Int)).Day.Month)->((0:Int)<(↑r.Until.length:Int)/\¬¬((ix r.Until (0:Int)).Bare=true↔s.Bare=true)->b9 (ix r.Until (0:Int)).Day.Date)->((0:Int)<(↑r.Until.length:Int)/\¬¬((ix r.Until (0:Int)).Bare=true↔s.Bare=true)->b9 (ix r.Until (0:Int)).Hour)->((0:Int)<(↑r.Until.length:Int)/\¬¬((ix r.Until (0:Int)).Bare=true↔s.Bare=true)->b9 (ix r.Until (0:Int)).Min)->((0:Int)<(↑r.Until.length:Int)/\¬¬((ix r.Until (0:Int)).Bare=true↔s.Bare=true)->b9 (ix r.Until (0:Int)).Sec)->((0:Int)<(↑r.Until.length:Int)/\(¬((ix r.Until (0:Int)).Bare=true↔s.Bare=true) ∨ ¬((ix r.Until (0:Int)).UTC=true↔s.UTC=true))->Q false)/\(¬((0:Int)<(↑r.Until.length:Int)/\(¬((ix r.Until (0:Int)).Bare=true↔s.Bare=true) ∨ ¬((ix r.Until (0:Int)).UTC=true↔s.UTC=true)))->Q (decide (¬s.Bare=true ∨ ((r.Freq<=3/\(↑r.Hour.length:Int)=0)/\(↑r.Minute.length:Int)=0)/\(↑r.Second.length:Int)=0))))))
theorem d4r {s:Tm} {r:Rl} {Q:Bool->Prop}:@Eq Prop (VxF s r Q) (i6 (E:=NcF) (j7 NcF H0 c5f 2) (c5f 21) Tryz.f21 [.agg [.int .i64 s.Day.Year,.int .i64 s.Day.Month,.int .i64 s.Day.Date,.int .i64 s.Hour,.int .i64 s.Min,.int .i64 s.Sec,blB s.Bare,blB s.UTC],.agg [.int .i64 r.Freq,.int .i64 r.Interval,.int .i64 r.Count,.sl (N:=U) 25 r.Until,.sl (N:=U) 3 r.Month,.sl (N:=U) 3 r.WeekNo,.sl (N:=U) 3 r.YearDay,.sl (N:=U) 3 r.MonthDay,.sl (N:=U) 60 r.Days,.sl (N:=U) 3 r.Hour,.sl (N:=U) 3 r.Minute,.sl (N:=U) 3 r.Second,.sl (N:=U) 3 r.SetPos,.int .i64 r.Wkst]] [] [] 0 (m9 NcF [.bool] Q)):=by kernel_rfl
theorem e0q {s:Tm} {r:Rl} {Q:Bool->Prop} (h:VxF s r Q):i6 (E:=NcF) (j7 NcF H0 c5f 2) (c5f 21) Tryz.f21 [.agg [.int .i64 s.Day.Year,.int .i64 s.Day.Month,.int .i64 s.Day.Date,.int .i64 s.Hour,.int .i64 s.Min,.int .i64 s.Sec,blB s.Bare,blB s.UTC],.agg [.int .i64 r.Freq,.int .i64 r.Interval,.int .i64 r.Count,.sl (N:=U) 25 r.Until,.sl (N:=U) 3 r.Month,.sl (N:=U) 3 r.WeekNo,.sl (N:=U) 3 r.YearDay,.sl (N:=U) 3 r.MonthDay,.sl (N:=U) 60 r.Days,.sl (N:=U) 3 r.Hour,.sl (N:=U) 3 r.Minute,.sl (N:=U) 3 r.Second,.sl (N:=U) 3 r.SetPos,.int .i64 r.Wkst]] [] [] 0 (m9 NcF [.bool] Q):=by rw [<- d4r]; exact h
theorem pxF (s:Tm) (r:Rl) (hfw:B9 r=true):VxF s r (fun y0=>y0=C4 s r):=by
 unfold VxF
 rw [show (Rl.mk r.Freq r.Interval r.Count r.Until r.Month r.WeekNo r.YearDay r.MonthDay r.Days r.Hour r.Minute r.Second r.SetPos r.Wkst)=r from rfl]
 simp only [Bool.decide_eq_true]
 refine ⟨fun _=>hfw,fun h=>a3e fun F=>h.elim (fun h=>h F.rt) fun h=>h F.rr,fun h=>?_⟩
 have rt:l9 s=true:=Classical.not_not.1 fun hn=>h (.inl hn)
 have rr:A2 r=true:=Classical.not_not.1 fun hn=>h (.inr hn)
 refine ⟨fun _=>by decide,fun h=>h,fun _ _ _ _ _ _=>⟨fun _=>by decide,fun h=>h.1,fun _ _ _ _ _ _=>⟨fun hn=>a3e fun F=>?_,fun hn=>?_⟩⟩⟩
 . obtain ⟨a,b⟩:=F.un hn.1
   exact hn.2.elim (fun h=>h a) fun h=>h b
 . refine Bool.eq_iff_iff.2 (Iff.trans decide_eq_true_iff (Iff.trans ?_ F1.symm))
   constructor
   . intro hb
     exact ⟨rt,rr,fun h0=>⟨Classical.not_not.1 fun h=>hn ⟨h0,.inl h⟩,Classical.not_not.1 fun h=>hn ⟨h0,.inr h⟩⟩,fun hs=>by rcases hb with hb | ⟨⟨⟨h1,h2⟩,h3⟩,h4⟩; exact absurd hs hb; exact ⟨h1,h2,h3,h4⟩⟩
   . intro F
     by_cases hs:s.Bare=true
     . obtain ⟨a,b,c,d⟩:=F.ba hs
       exact .inr ⟨⟨⟨a,b⟩,c⟩,d⟩
     . exact .inl hs
noncomputable def e4e (s:Tm) (r:Rl):Q1 U:=⟨[B9 r=true],[],blB (C4 s r)⟩
noncomputable def cxF (a:List (SV U)):Option (Q1 U):=match a with | [.agg l_s,.agg l_r]=>(y25.bk (.agg l_s)).bind fun s=>(y30.bk (.agg l_r)).bind fun r=>some (e4e s r) | _=>none
theorem d2u (args:List (SV U)) (q:Q1 U) (h:cxF args=some q) (ho:l7 q.ob):l4 NcF 21 args ⟨q.ob,q.hy,q.v,[]⟩:=by
 unfold cxF at h
 split at h
 . rename_i l_s l_r
   obtain ⟨s,hb_s,h⟩:=Option.bind_eq_some_iff.1 h
   obtain ⟨r,hb_r,h⟩:=Option.bind_eq_some_iff.1 h
   cases h
   refine l4.conv (E:=NcF) (args':=[.agg [.int .i64 s.Day.Year,.int .i64 s.Day.Month,.int .i64 s.Day.Date,.int .i64 s.Hour,.int .i64 s.Min,.int .i64 s.Sec,blB s.Bare,blB s.UTC],.agg [.int .i64 r.Freq,.int .i64 r.Interval,.int .i64 r.Count,.sl 25 r.Until,.sl 3 r.Month,.sl 3 r.WeekNo,.sl 3 r.YearDay,.sl 3 r.MonthDay,.sl 60 r.Days,.sl 3 r.Hour,.sl 3 r.Minute,.sl 3 r.Second,.sl 3 r.SetPos,.int .i64 r.Wkst]]) (q8 b2y (j8 b2y p8 c5f 2) Tryz.func21 (k:=.bool) trivial (e0q (pxF s r ho.1)) 0) fun D w vs hr=>w5 [.agg l_s,.agg l_r] [.agg [.int .i64 s.Day.Year,.int .i64 s.Day.Month,.int .i64 s.Day.Date,.int .i64 s.Hour,.int .i64 s.Min,.int .i64 s.Sec,blB s.Bare,blB s.UTC],.agg [.int .i64 r.Freq,.int .i64 r.Interval,.int .i64 r.Count,.sl (N:=U) 25 r.Until,.sl (N:=U) 3 r.Month,.sl (N:=U) 3 r.WeekNo,.sl (N:=U) 3 r.YearDay,.sl (N:=U) 3 r.MonthDay,.sl (N:=U) 60 r.Days,.sl (N:=U) 3 r.Hour,.sl (N:=U) 3 r.Minute,.sl (N:=U) 3 r.Second,.sl (N:=U) 3 r.SetPos,.int .i64 r.Wkst]] _ ⟨fun _ h=>v6 hb_s h,fun _ h=>A5 hb_r h,trivial⟩ hr
 . cases h
noncomputable def NxF:Env:=NcF.addL 21 cxF
theorem b48:k8 NxF:=b2y.addL Tryz.call21 d2u
end Go.Proofs.YtdjfeninmbpflaaGreat
end
section
namespace Go.Proofs.YtdjfeninmbpflaaGreat
open Go Go.Wk Go.Wl Go.Rx Go.Re 
attribute [local irreducible] i6
def c20:Nat->Ann:=fun | 81=>⟨18,fun _=>none,fun _=>none⟩ | _=>⟨0,fun _=>none,fun _=>none⟩
def Vch (l:List Int) (n:Int) (a:Int) (Q:Bool->Prop):Prop :=
l.length<=1000000/\(¬B3 l n=true->b9 (n-a))/\(¬B3 l n=true->b9 (n-a-1))/\(¬B3 l n=true->l.length<=1000000)/\Q (decide (B3 l n=true ∨ B3 l (n-a-1)=true))
theorem d2s {l:List Int} {n:Int} {a:Int} {Q:Bool->Prop}:@Eq Prop (Vch l n a Q) (i6 (E:=NxF) (j7 NxF H0 c20 2) (c20 81) Tryz.f81 [.sl (N:=U) 3 l,.int .i64 n,.int .i64 a] [] [] 0 (m9 NxF [.bool] Q)):=by kernel_rfl
theorem d6m {l:List Int} {n:Int} {a:Int} {Q:Bool->Prop} (h:Vch l n a Q):i6 (E:=NxF) (j7 NxF H0 c20 2) (c20 81) Tryz.f81 [.sl (N:=U) 3 l,.int .i64 n,.int .i64 a] [] [] 0 (m9 NxF [.bool] Q):=by rw [<- d2s]; exact h
theorem pch (l:List Int) (n:Int) (a:Int) (hl:l.length<=1000000) (n0:-10000000<=n) (n1:n<=10000000) (a0:-10000000<=a) (a1:a<=10000000):Vch l n a (fun y0=>y0=Re.hasE l n a):=by
 unfold Vch Re.hasE
 refine ⟨hl,fun _=>⟨by omega,by omega⟩,fun _=>⟨by omega,by omega⟩,fun _=>hl,c6j ?_⟩
 rw [Bool.or_eq_true]
def cch (a:List (SV U)):Option (Q1 U):=match a with | [.sl 3 l,.int .i64 n,.int .i64 a]=>some ⟨[List.length (α:=Int) l<=1000000,-10000000<=n,n<=10000000,-10000000<=a,a<=10000000],[],blB (Re.hasE l n a)⟩ | _=>none
theorem d2k (args:List (SV U)) (q:Q1 U) (h:cch args=some q) (ho:l7 q.ob):l4 NxF 81 args ⟨q.ob,q.hy,q.v,[]⟩:=by
 unfold cch at h
 split at h
 . rename_i l n a
   cases h
   exact q8 b48 (j8 b48 p8 c20 2) Tryz.func81 (k:=.bool) (x:=Re.hasE l n a) trivial (d6m (pch l n a ho.1 ho.2.1 ho.2.2.1 ho.2.2.2.1 ho.2.2.2.2.1)) 0
 . cases h
noncomputable def Nch:Env:=NxF.addL 81 cch
theorem b3g:k8 Nch:=b48.addL Tryz.call81 d2k
end Go.Proofs.YtdjfeninmbpflaaGreat
end
