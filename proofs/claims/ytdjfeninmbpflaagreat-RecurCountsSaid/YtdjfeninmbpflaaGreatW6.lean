/- 66 texts, one behind the other. -/
import Derived.Test.YtdjfeninmbpflaaGreatW4
import Derived.Test.YtdjfeninmbpflaaGreatWEr
import Derived.Test.YtdjfeninmbpflaaGreatW1
import Derived.Shelf.Sort.Plain
import Derived.Ground.Names2Prog
import Derived.Shelf.Slices.Clone
import Derived.Shelf.Slices.CompactI
import Derived.Shelf.Slices.Cells
import Derived.Shelf.Slices.In.SortNone
import Derived.Test.YtdjfeninmbpflaaGreatProg
import Derived.Lib.SlicesCompact
set_option linter.unusedVariables false
set_option linter.unusedSimpArgs false
set_option maxRecDepth 100000
section
namespace Go.Proofs.YtdjfeninmbpflaaGreat
open Go Go.Wk Go.Wl Go.Rx Go.Re 
def Gl:U5:=⟨fun _ _=>True,fun _ _ _ _=>trivial⟩
noncomputable def yoF (x:ClX Tryz.prog) (a:List (SV U)):Option (OR U 0):=match a with | [.int .i64 t]=>some ⟨[ClX.pre x t],[],blB (ClX.res x t),ClX.put x t⟩ | _=>none
noncomputable def yoC:OC U:=⟨0,yoF⟩
theorem d2w (x:ClX Tryz.prog) (args:List (SV U)) (r:OR U 0) (hr:yoF x args=some r) (ho:m6 r.ob) (D:Nat->Prop) (Z:Nat->Prop) (w:World) (vs:List Value) (b:Nat) (F:List Nat) (hz:∀ b,Z b->b<w.heap.size) (hF:∀ b∈F,¬ Z b) (hob:(obY Tryz.prog b).is Z w x F) (ha:Rep U eT (fun _=>none) D w (.tuple vs.toArray) (.tup args)) :
  O4 Tryz.prog b vs w (fun v w'=>∃ F',(obY Tryz.prog b).is Z w' r.x F'/\b95 w w' F F'/\Rep U eT (fun _=>none) (fun _=>False) w' v r.r/\m6 r.hy):=by
 unfold yoF at hr
 split at hr
 . rename_i t
   cases hr
   obtain ⟨v1,vr,rfl,h1,ha⟩:=Rep.tup_cons ha
   obtain rfl:=d3m ha
   cases h1 with | int hi =>
   exact (x.1.step Z w b F x.2 t hz hF hob ho.1 (hi rfl)).mono fun v w' ⟨e,F',h1,h2⟩=>⟨F',h1,h2,by subst e; exact ClX.bl,trivial⟩
 . cases hr
noncomputable def E0:Env:=⟨Tryz.prog,U,eT,tyU,fun _=>none,fun _=>none,fun _=>false,fun _=>none,fun _=>none,Gl,fun _=>none,fun t=>Nat.beq t 101,fun _=>none,fun _=>none,some yoC⟩
theorem e2c:l5 E0:=by
 refine ⟨by kernel_rfl,fun t k x h=>?_,fun K h=>?_,fun K fn h=>?_,fun K f args nx c h=>?_,fun K f args nx c h=>?_,fun K o x args r h=>?_,fun K o a x r h=>?_,fun K h=>?_,fun K o args its r h=>?_,fun K h=>?_,fun K C args its q h=>?_,fun o x args r h hr ho=>?_⟩ <;> first | (cases h; done) | skip
 cases h
 exact fun Z D w vs b F hz _ hF hob _ ha=>d2w x args r hr ho D Z w vs b F hz (fun b hb=>(hF b hb).1) hob ha
theorem U8 {ρ:n9} {Z:Nat->Prop} {w:World} {cs:List Value} (h:Rep U eT ρ Z w (.tuple cs.toArray) (.tup [])):cs=[]:=by
 generalize e:Value.tuple cs.toArray=u at h
 cases h with | tup0=>simpa using e
theorem b75 {w w1 w2:World} {B:List Nat} (hs:Sim w w1) (h:Ext B w1 w2):Ext B w w2:=by
 obtain ⟨k,rfl⟩:=hs
 exact ⟨h.os,h.tape,h.output,h.size,h.block⟩
theorem c1b {K:Nat} {args:List (SV U)} {q:Q1 U} (h:∀ (D:Nat->Prop) (w:World) (vs:List Value),Rep U eT (fun _=>none) D w (.tuple vs.toArray) (.tup args)->∃ v,(∀ w',Rep U eT (fun _=>none) (fun _=>False) w' v q.v)/\m6 q.hy/\∀ w1,Sim w w1->Calls Tryz.prog K vs.toArray w1 fun e w'=>e=.returned v/\Ext [] w1 w'):l8 E0 K args ⟨q.ob,q.hy,q.v,[]⟩ :=
 fun D w vs _ _ ha w1 hs=>by
  obtain ⟨v,hr,hy,hc⟩:=h D w vs ha
  exact (hc w1 hs).mono fun e w2 ⟨h1,h2⟩=>⟨v,w2,h1,Sim.refl _,b75 hs h2,hr w2,hy⟩
theorem b3y (w:World) (o:Obj) (k:Nat) (hk:k<w.heap.size):(w.alloc o).heap[k]?=w.heap[k]? := by
 show (w.heap.push o)[k]?=_
 rw [Array.getElem?_push,if_neg (by omega)]
theorem b9p {w:World} {B:List Nat} (o:Obj):Ext B w (w.alloc o):=⟨rfl,rfl,rfl,(by show w.heap.size<=(w.heap.push o).size; rw [Array.size_push]; omega),fun k hk _=>b3y w o k hk⟩
def CvL (ρ:n9) (Z:Nat->Prop) (w:World):List (SV U)->List (SV U)->Prop
 | [],[]=>True
 | s::r,s'::r'=>(∀ v,Rep U eT ρ Z w v s->Rep U eT ρ Z w v s')/\CvL ρ Z w r r'
 | _,_=>False
theorem z8 {ρ:n9} {Z:Nat->Prop} {w:World}:∀ (a b:List (SV U)) (v:Value),CvL ρ Z w a b->Rep U eT ρ Z w v (.tup a)->Rep U eT ρ Z w v (.tup b)
 | [],[],_,_,h=>h
 | [],_::_,_,hc,_=>hc.elim
 | _::_,[],_,hc,_=>hc.elim
 | s::r,s'::r',v,hc,h=>by
  generalize e:SV.tup (s::r)=q at h
  cases h with
  | tup1 ha hr=>cases e; exact .tup1 (hc.1 _ ha) (z8 r r' _ hc.2 hr)
  | _=>cases e
theorem A0 {ρ:n9} {Z:Nat->Prop} {w:World} {v:Value} {ls:List (SV U)} {x:Tm} (e:y25.bk (.agg ls)=some x) (h:Rep U eT ρ Z w v (.agg ls)):Rep U eT ρ Z w v (.agg [.int .i64 x.Day.Year,.int .i64 x.Day.Month,.int .i64 x.Day.Date,.int .i64 x.Hour,.int .i64 x.Min,.int .i64 x.Sec,blB x.Bare,blB x.UTC]):=by
 obtain ⟨cs,rfl,hl⟩:=h.agg_inv
 exact y25.sv_ok (y25.bk_ok (s:=.agg ls) hl e)
theorem C6 {ρ:n9} {Z:Nat->Prop} {w:World} {v:Value} {ls:List (SV U)} {x:Rl} (e:y30.bk (.agg ls)=some x) (h:Rep U eT ρ Z w v (.agg ls)):Rep U eT ρ Z w v (.agg [.int .i64 x.Freq,.int .i64 x.Interval,.int .i64 x.Count,.sl (N:=U) 25 x.Until,.sl (N:=U) 3 x.Month,.sl (N:=U) 3 x.WeekNo,.sl (N:=U) 3 x.YearDay,.sl (N:=U) 3 x.MonthDay,.sl (N:=U) 60 x.Days,.sl (N:=U) 3 x.Hour,.sl (N:=U) 3 x.Minute,.sl (N:=U) 3 x.Second,.sl (N:=U) 3 x.SetPos,.int .i64 x.Wkst]):=by
 obtain ⟨cs,rfl,hl⟩:=h.agg_inv
 exact y30.sv_ok (y30.bk_ok (s:=.agg ls) hl e)
def cIs (a:List (SV U)):Option (Q1 U):=match a with | [.err e,.err (.no n)]=>some ⟨[],[],.bl (e.is n) inferInstance⟩ | _=>none
theorem d6r (args:List (SV U)) (q:Q1 U) (h:cIs args=some q) (_:m6 q.ob):l8 E0 38 args ⟨q.ob,q.hy,q.v,[]⟩:=by
 unfold cIs at h
 split at h
 . rename_i e n
   cases h
   refine c1b fun D w vs ha=>⟨.bool (decide (e.is n)),fun _=>.bl,trivial,fun w1 hs=>?_⟩
   have same:∀ {b:Bool},(Calls Tryz.prog 38 vs.toArray w1 fun e w'=>e=.returned (.bool b)/\w'=w1)->Calls Tryz.prog 38 vs.toArray w1 fun e w'=>e=.returned (.bool b)/\Ext [] w1 w':=fun h=>h.mono fun _ _ ⟨a,b⟩=>⟨a,by subst b; exact Ext.refl _ _⟩
   obtain ⟨v1,r1,rfl,h1,ha⟩:=Rep.tup_cons ha
   obtain ⟨v2,r2,rfl,h2,ha⟩:=Rep.tup_cons ha
   obtain rfl:=U8 ha
   cases h1 with | err h1 =>
   cases h2 with | err h2 =>
   cases h2 with | no hn =>
   cases h1 with
   | nil =>
    have e:decide (Err.is .nil n)=false:=decide_eq_false (by simp [Err.is,Err.num])
    rw [e]; exact same (d8m n w1)
   | @no a ha' =>
    have e:decide (Err.is (.no a) n)=decide (a=n):=decide_eq_decide.2 (by simp [Err.is,Err.num])
    rw [e]; exact same (c5p a n w1)
   | @fault b a m hz ho ha' hm h0=>exact absurd rfl h0
   | @w t k s m ht hm hk =>
    obtain ⟨rfl,rfl⟩:=d8k ht
    have e:decide (Err.is (.w 87 s (.no m)) n)=decide (m=n):=decide_eq_decide.2 (by simp [Err.is,Err.num])
    rw [e]; exact (d3p (sv s) m n w1).mono fun _ _ ⟨a,o,b⟩=>⟨a,by subst b; exact b9p _⟩
   | @p t S b s m ht hz ho hm=>exact absurd ht (by unfold eT; simp)
 . cases h
noncomputable def N0:Env:=E0.addL 38 cIs
theorem c67:l5 N0:=e2c.addL Tryz.call38 d6r
def H0:Nat->Option (GD U):=noH
theorem q8:∀ K o args its S,H0 K=some o->o.C args its=some S->O0 Tryz.prog U eT Gl K args its (2 * its.length) S:=d6t
end Go.Proofs.YtdjfeninmbpflaaGreat
end
section
namespace Go.Proofs.YtdjfeninmbpflaaGreat
open Go Go.Wk Go.Wl Go.Rx Go.Re 
attribute [local irreducible] i6
def c6n:Nat->Ann:=fun | 83=>⟨42,fun _=>none,fun _=>none⟩ | _=>⟨0,fun _=>none,fun _=>none⟩
def Vgl (y:Int) (m:Int) (Q:Int->Prop):Prop :=
(y<1 ∨ (9999:Int)<y->Q (0:Int))/\(¬(y<1 ∨ (9999:Int)<y)->(m=2->(4:Int)≠0/\(y.tmod (4:Int)=0->(100:Int)≠0)/\(y.tmod (4:Int)=0/\¬y.tmod (100:Int)≠0->(400:Int)≠0)/\(y.tmod (4:Int)=0/\(y.tmod (100:Int)≠0 ∨ y.tmod (400:Int)=0)->Q (29:Int))/\(¬(y.tmod (4:Int)=0/\(y.tmod (100:Int)≠0 ∨ y.tmod (400:Int)=0))->Q (28:Int)))/\(¬m=2->(m=1->(m=1->Q (31:Int))/\(¬m=1->(m=4->Q (30:Int))/\(¬m=4->(m=6->Q (30:Int))/\(¬m=6->(m=9->(m=9->Q (30:Int))/\(¬m=9->Q (0:Int)))/\(¬m=9->(m=11->Q (30:Int))/\(¬m=11->Q (0:Int)))))))/\(¬m=1->(m=3->(m=3->Q (31:Int))/\(¬m=3->(m=4->Q (30:Int))/\(¬m=4->(m=6->Q (30:Int))/\(¬m=6->(m=9->(m=9->Q (30:Int))/\(¬m=9->Q (0:Int)))/\(¬m=9->(m=11->Q (30:Int))/\(¬m=11->Q (0:Int)))))))/\(¬m=3->(m=5->(m=5->Q (31:Int))/\(¬m=5->(m=4->Q (30:Int))/\(¬m=4->(m=6->Q (30:Int))/\(¬m=6->(m=9->(m=9->Q (30:Int))/\(¬m=9->Q (0:Int)))/\(¬m=9->(m=11->Q (30:Int))/\(¬m=11->Q (0:Int)))))))/\(¬m=5->(m=7->(m=7->Q (31:Int))/\(¬m=7->(m=4->Q (30:Int))/\(¬m=4->(m=6->Q (30:Int))/\(¬m=6->(m=9->(m=9->Q (30:Int))/\(¬m=9->Q (0:Int)))/\(¬m=9->(m=11->Q (30:Int))/\(¬m=11->Q (0:Int)))))))/\(¬m=7->(m=8->(m=8->Q (31:Int))/\(¬m=8->(m=4->Q (30:Int))/\(¬m=4->(m=6->Q (30:Int))/\(¬m=6->(m=9->(m=9->Q (30:Int))/\(¬m=9->Q (0:Int)))/\(¬m=9->(m=11->Q (30:Int))/\(¬m=11->Q (0:Int)))))))/\(¬m=8->(m=10->(m=10->Q (31:Int))/\(¬m=10->(m=4->Q (30:Int))/\(¬m=4->(m=6->Q (30:Int))/\(¬m=6->(m=9->(m=9->Q (30:Int))/\(¬m=9->Q (0:Int)))/\(¬m=9->(m=11->Q (30:Int))/\(¬m=11->Q (0:Int)))))))/\(¬m=10->(m=12->Q (31:Int))/\(¬m=12->(m=4->Q (30:Int))/\(¬m=4->(m=6->Q (30:Int))/\(¬m=6->(m=9->(m=9->Q (30:Int))/\(¬m=9->Q (0:Int)))/\(¬m=9->(m=11->Q (30:Int))/\(¬m=11->Q (0:Int))))))))))))))
theorem e1d {y:Int} {m:Int} {Q:Int->Prop}:@Eq Prop (Vgl y m Q) (i6 (E:=N0) (j7 N0 H0 c6n 2) (c6n 83) Tryz.f83 [.int .i64 y,.int .i64 m] [] [] 0 (n7 N0 [.int .i64] Q)):=by kernel_rfl
theorem d3w {y:Int} {m:Int} {Q:Int->Prop} (h:Vgl y m Q):i6 (E:=N0) (j7 N0 H0 c6n 2) (c6n 83) Tryz.f83 [.int .i64 y,.int .i64 m] [] [] 0 (n7 N0 [.int .i64] Q):=by rw [<- e1d]; exact h
set_option maxHeartbeats 2000000 in
theorem pgl (y:Int) (m:Int)  : Vgl y m (fun y0=>y0=u9 y m):=by
 unfold Vgl
 refine ⟨fun h=>by unfold u9; rw [if_pos h],fun h=>?_⟩
 have e4:y.tmod 4=y % 4:=Int.tmod_eq_emod_of_nonneg (by omega)
 have e100:y.tmod 100=y % 100:=Int.tmod_eq_emod_of_nonneg (by omega)
 have e400:y.tmod 400=y % 400:=Int.tmod_eq_emod_of_nonneg (by omega)
 rw [e4,e100,e400]
 repeat' (first | intro _ | apply And.intro)
 all_goals (first | omega | (unfold u9; (repeat' split) <;> omega))
def cgl (a:List (SV U)):Option (Q1 U):=match a with | [.int .i64 y,.int .i64 m]=>some ⟨[],[],.int .i64 (u9 y m)⟩ | _=>none
theorem d5f (args:List (SV U)) (q:Q1 U) (h:cgl args=some q) (ho:m6 q.ob):l8 N0 83 args ⟨q.ob,q.hy,q.v,[]⟩:=by
 unfold cgl at h
 split at h
 . rename_i y m
   cases h
   exact s8 c67 (j8 c67 q8 c6n 2) Tryz.func83 (k:=.int .i64) (x:=u9 y m) trivial (d3w (pgl y m )) 0
 . cases h
noncomputable def Ngl:Env:=N0.addL 83 cgl
theorem b3d:l5 Ngl:=c67.addL Tryz.call83 d5f
def c2x:Nat->Ann:=fun | 110=>⟨16,fun _=>none,fun _=>none⟩ | _=>⟨0,fun _=>none,fun _=>none⟩
def Vgf (a:Int) (b:Int) (Q:Int->Prop):Prop :=
b≠0/\b8 (a.tdiv b)/\b≠0/\(a.tmod b<0->b8 (a.tdiv b-1)/\Q (a.tdiv b-1))/\(¬a.tmod b<0->Q (a.tdiv b))
theorem d6a {a:Int} {b:Int} {Q:Int->Prop}:@Eq Prop (Vgf a b Q) (i6 (E:=Ngl) (j7 Ngl H0 c2x 2) (c2x 110) Tryz.f110 [.int .i64 a,.int .i64 b] [] [] 0 (n7 Ngl [.int .i64] Q)):=by kernel_rfl
theorem d7h {a:Int} {b:Int} {Q:Int->Prop} (h:Vgf a b Q):i6 (E:=Ngl) (j7 Ngl H0 c2x 2) (c2x 110) Tryz.f110 [.int .i64 a,.int .i64 b] [] [] 0 (n7 Ngl [.int .i64] Q):=by rw [<- d6a]; exact h
theorem b9k (a:Int) {b:Int} (h:0<b):a.tdiv b=a / b+(if a.tmod b<0 then 1 else 0)/\True:=by
 refine ⟨?_,trivial⟩
 have h1:=Int.tdiv_mul_add_tmod a b
 have h2:=Int.ediv_mul_add_emod a b
 have h3:=Int.emod_nonneg a (show b≠0 by omega)
 have h4:=Int.emod_lt_of_pos a h
 have h5:a.tmod b<b:=Int.tmod_lt_of_pos a h
 have h6:-b<a.tmod b:=Int.lt_tmod_of_pos a h
 by_cases hc:a.tmod b<0
 . rw [if_pos hc]
   have e:(a.tdiv b-a / b) * b=a % b-a.tmod b:=by rw [Int.sub_mul]; omega
   have g1:0<(a.tdiv b-a / b) * b:=by omega
   have g2:(a.tdiv b-a / b) * b<2 * b:=by omega
   have g3:0<a.tdiv b-a / b:=Int.pos_of_mul_pos_left g1 (by omega)
   have g4:a.tdiv b-a / b<2:=Int.lt_of_mul_lt_mul_right g2 (by omega)
   omega
 . rw [if_neg hc]
   have e:(a.tdiv b-a / b) * b=a % b-a.tmod b:=by rw [Int.sub_mul]; omega
   have g1:-b<(a.tdiv b-a / b) * b:=by omega
   have g2:(a.tdiv b-a / b) * b<b:=by omega
   have g3:-1<a.tdiv b-a / b:=Int.lt_of_mul_lt_mul_right (a:=b) (by omega) (by omega)
   have g4:a.tdiv b-a / b<1:=Int.lt_of_mul_lt_mul_right (a:=b) (by omega) (by omega)
   omega
theorem pgf (a:Int) (b:Int) (h0:0<b) (h1:b<=100000) (h2:b8 (a / b)) (h3:b8 (a / b+1)):Vgf a b (fun y0=>y0=a / b):=by
 unfold Vgf
 obtain ⟨q0,q1⟩:=b9k a h0
 have i1:b8 (a.tdiv b):=by
  rw [q0]; split
  . exact h3
  . rw [Int.add_zero]; exact h2
 refine ⟨by omega,i1,by omega,fun h=>?_,fun h=>?_⟩
 . have e:a.tdiv b-1=a / b:=by rw [q0,if_pos h]; omega
   rw [e]; exact ⟨h2,rfl⟩
 . rw [q0,if_neg h]; omega
def cgf (a:List (SV U)):Option (Q1 U):=match a with | [.int .i64 a,.int .i64 b]=>some ⟨[0<b,b<=100000,b8 (a / b),b8 (a / b+1)],[],.int .i64 (a / b)⟩ | _=>none
theorem d6m (args:List (SV U)) (q:Q1 U) (h:cgf args=some q) (ho:m6 q.ob):l8 Ngl 110 args ⟨q.ob,q.hy,q.v,[]⟩:=by
 unfold cgf at h
 split at h
 . rename_i a b
   cases h
   exact s8 b3d (j8 b3d q8 c2x 2) Tryz.func110 (k:=.int .i64) (x:=a / b) trivial (d7h (pgf a b ho.1 ho.2.1 ho.2.2.1 ho.2.2.2.1)) 0
 . cases h
noncomputable def Ngf:Env:=Ngl.addL 110 cgf
theorem b3q:l5 Ngf:=b3d.addL Tryz.call110 d6m
def c5d:Nat->Ann:=fun | 107=>⟨9,fun _=>none,fun _=>none⟩ | _=>⟨0,fun _=>none,fun _=>none⟩
def Vgw (n:Int) (Q:Int->Prop):Prop :=
(7:Int)≠0/\b8 (n.tmod (7:Int)+7)/\(7:Int)≠0/\b8 ((n.tmod (7:Int)+7).tmod (7:Int)+6)/\(7:Int)≠0/\Q (((n.tmod (7:Int)+7).tmod (7:Int)+6).tmod (7:Int))
theorem d5m {n:Int} {Q:Int->Prop}:@Eq Prop (Vgw n Q) (i6 (E:=Ngf) (j7 Ngf H0 c5d 2) (c5d 107) Tryz.f107 [.int .i64 n] [] [] 0 (n7 Ngf [.int .i64] Q)):=by kernel_rfl
theorem d6l {n:Int} {Q:Int->Prop} (h:Vgw n Q):i6 (E:=Ngf) (j7 Ngf H0 c5d 2) (c5d 107) Tryz.f107 [.int .i64 n] [] [] 0 (n7 Ngf [.int .i64] Q):=by rw [<- d5m]; exact h
theorem pgw (n:Int)  : Vgw n (fun y0=>y0=wdS n):=by
 unfold Vgw wdS
 have h1:n.tmod 7=n % 7 ∨ n.tmod 7=n % 7-7/\n % 7≠0:=by
  have h1:=Int.tdiv_mul_add_tmod n 7
  have h5:n.tmod 7<7:=Int.tmod_lt_of_pos n (by decide)
  have h6:-7<n.tmod 7:=Int.lt_tmod_of_pos n (by decide)
  omega
 have e1:(n.tmod 7+7).tmod 7=(n.tmod 7+7) % 7:=Int.tmod_eq_emod_of_nonneg (by omega)
 have e2:((n.tmod 7+7).tmod 7+6).tmod 7=((n.tmod 7+7).tmod 7+6) % 7:=Int.tmod_eq_emod_of_nonneg (by omega)
 rw [e2,e1]
 exact ⟨by decide,⟨by omega,by omega⟩,by decide,⟨by omega,by omega⟩,by decide,by omega⟩
def cgw (a:List (SV U)):Option (Q1 U):=match a with | [.int .i64 n]=>some ⟨[],[],.int .i64 (wdS n)⟩ | _=>none
theorem d6c (args:List (SV U)) (q:Q1 U) (h:cgw args=some q) (ho:m6 q.ob):l8 Ngf 107 args ⟨q.ob,q.hy,q.v,[]⟩:=by
 unfold cgw at h
 split at h
 . rename_i n
   cases h
   exact s8 b3q (j8 b3q q8 c5d 2) Tryz.func107 (k:=.int .i64) (x:=wdS n) trivial (d6l (pgw n )) 0
 . cases h
noncomputable def Ngw:Env:=Ngf.addL 107 cgw
theorem b4i:l5 Ngw:=b3q.addL Tryz.call107 d6c
def c0l:Nat->Ann:=fun | 59=>⟨74,fun _=>none,fun | 8=>some ⟨[2],[.slot 0 (.int .i64),.slot 3 (.int .i64),.slot 4 (.int .i64)]⟩ | 12=>some ⟨[2],[.slot 0 (.int .i64),.slot 3 (.int .i64),.slot 4 (.int .i64),.slot 5 (.int .i64),.slot 6 (.int .i64)]⟩ | 14=>some ⟨[2],[.slot 0 (.int .i64),.slot 7 (.int .i64),.slot 8 (.int .i64)]⟩ | _=>none⟩ | _=>⟨0,fun _=>none,fun _=>none⟩
def Vgo (n:Int) (Q:Dy->Prop):Prop :=
(n<1 ∨ (3652059:Int)<n->Q (Dy.mk (0:Int) (0:Int) (0:Int)))/\(¬(n<1 ∨ (3652059:Int)<n)->b8 (n+305)/\(146097:Int)≠0/\b8 ((n+305).tdiv (146097:Int))/\(146097:Int)≠0/\(36524:Int)≠0/\b8 (((n+305).tmod (146097:Int)).tdiv (36524:Int))/\∃ (J:Int->Int->Int->Prop),(b8 ((bif false then max (((n+305).tmod (146097:Int)).tdiv (36524:Int)) (3:Int) else min (((n+305).tmod (146097:Int)).tdiv (36524:Int)) (3:Int)) * 36524)/\b8 ((n+305).tmod (146097:Int)-(bif false then max (((n+305).tmod (146097:Int)).tdiv (36524:Int)) (3:Int) else min (((n+305).tmod (146097:Int)).tdiv (36524:Int)) (3:Int)) * 36524)/\J ((n+305).tmod (146097:Int)-(bif false then max (((n+305).tmod (146097:Int)).tdiv (36524:Int)) (3:Int) else min (((n+305).tmod (146097:Int)).tdiv (36524:Int)) (3:Int)) * 36524) ((n+305).tdiv (146097:Int)) (bif false then max (((n+305).tmod (146097:Int)).tdiv (36524:Int)) (3:Int) else min (((n+305).tmod (146097:Int)).tdiv (36524:Int)) (3:Int)))/\∀ (x x_1 x_2:Int),J x x_1 x_2->(1461:Int)≠0/\b8 (x.tdiv (1461:Int))/\(1461:Int)≠0/\(365:Int)≠0/\b8 ((x.tmod (1461:Int)).tdiv (365:Int))/\∃ (J:Int->Int->Int->Int->Int->Prop),(b8 ((bif false then max ((x.tmod (1461:Int)).tdiv (365:Int)) (3:Int) else min ((x.tmod (1461:Int)).tdiv (365:Int)) (3:Int)) * 365)/\b8 (x.tmod (1461:Int)-(bif false then max ((x.tmod (1461:Int)).tdiv (365:Int)) (3:Int) else min ((x.tmod (1461:Int)).tdiv (365:Int)) (3:Int)) * 365)/\J (x.tmod (1461:Int)-(bif false then max ((x.tmod (1461:Int)).tdiv (365:Int)) (3:Int) else min ((x.tmod (1461:Int)).tdiv (365:Int)) (3:Int)) * 365) x_1 x_2 (x.tdiv (1461:Int)) (bif false then max ((x.tmod (1461:Int)).tdiv (365:Int)) (3:Int) else min ((x.tmod (1461:Int)).tdiv (365:Int)) (3:Int)))/\∀ (x x_3 x_4 x_5 x_6:Int),J x x_3 x_4 x_5 x_6->b8 ((400:Int) * x_3)/\b8 ((100:Int) * x_4)/\b8 ((400:Int) * x_3+100 * x_4)/\b8 ((4:Int) * x_5)/\b8 ((400:Int) * x_3+100 * x_4+4 * x_5)/\b8 ((400:Int) * x_3+100 * x_4+4 * x_5+x_6)/\∃ (J:Int->Int->Int->Prop),(b8 ((5:Int) * x)/\b8 ((5:Int) * x+2)/\(153:Int)≠0/\b8 (((5:Int) * x+2).tdiv (153:Int))/\J x ((400:Int) * x_3+100 * x_4+4 * x_5+x_6) (((5:Int) * x+2).tdiv (153:Int)))/\∀ (x x_7 x_8:Int),J x x_7 x_8->b8 ((153:Int) * x_8)/\b8 ((153:Int) * x_8+2)/\(5:Int)≠0/\b8 (((153:Int) * x_8+2).tdiv (5:Int))/\b8 (x-((153:Int) * x_8+2).tdiv (5:Int))/\b8 (x-((153:Int) * x_8+2).tdiv (5:Int)+1)/\b8 (x_8+3)/\((12:Int)<x_8+3->b8 (x_8+3-12)/\b8 (x_7+1)/\Q (Dy.mk (x_7+1) (x_8+3-12) (x-((153:Int) * x_8+2).tdiv (5:Int)+1)))/\(¬(12:Int)<x_8+3->Q (Dy.mk x_7 (x_8+3) (x-((153:Int) * x_8+2).tdiv (5:Int)+1))))
theorem d1a {n:Int} {Q:Dy->Prop}:@Eq Prop (Vgo n Q) (i6 (E:=Ngw) (j7 Ngw H0 c0l 2) (c0l 59) Tryz.f59 [.int .i64 n] [] [] 0 (n7 Ngw [.val 23] Q)):=by kernel_rfl
theorem d2x {n:Int} {Q:Dy->Prop} (h:Vgo n Q):i6 (E:=Ngw) (j7 Ngw H0 c0l 2) (c0l 59) Tryz.f59 [.int .i64 n] [] [] 0 (n7 Ngw [.val 23] Q):=by rw [<- d1a]; exact h
set_option maxHeartbeats 2000000 in
theorem pgo (n:Int)  : Vgo n (fun y0=>y0=ofS n):=by
 unfold Vgo
 have b0:∀ a b:Int,(bif false then max a b else min a b)=min a b:=fun _ _=>rfl
 refine ⟨fun h=>by unfold ofS; rw [if_pos h],fun h=>?_⟩
 have eo:ofS n=ofN (n+305):=by unfold ofS; rw [if_neg h]
 rw [eo]
 obtain ⟨⟨r1,r2⟩,⟨r3,r4⟩,⟨r5,r6⟩,⟨r7,r8⟩,r9,r10⟩:=e4g (n+305)
 have hN:0<=n+305/\n+305<=3652364:=by omega
 generalize n+305=N at *
 have t1:N.tdiv 146097=N / 146097:=Int.tdiv_eq_ediv_of_nonneg (by omega)
 have t2:N.tmod 146097=N % 146097:=Int.tmod_eq_emod_of_nonneg (by omega)
 have t3:(N % 146097).tdiv 36524=N % 146097 / 36524:=Int.tdiv_eq_ediv_of_nonneg (by omega)
 have t4:(o2 N).tdiv 1461=o2 N / 1461:=Int.tdiv_eq_ediv_of_nonneg (by omega)
 have t5:(o2 N).tmod 1461=o2 N % 1461:=Int.tmod_eq_emod_of_nonneg (by omega)
 have t6:(o2 N % 1461).tdiv 365=o2 N % 1461 / 365:=Int.tdiv_eq_ediv_of_nonneg (by omega)
 have t7:(5 * o4 N+2).tdiv 153=(5 * o4 N+2) / 153:=Int.tdiv_eq_ediv_of_nonneg (by omega)
 have t8:(153 * om N+2).tdiv 5=(153 * om N+2) / 5:=Int.tdiv_eq_ediv_of_nonneg (by omega)
 rw [t1,t2,t3,b0]
 refine ⟨⟨by omega,by omega⟩,by decide,⟨by omega,by omega⟩,by decide,by decide,⟨by omega,by omega⟩,fun a b c=>a=o2 N/\b=N / 146097/\c=oh N,⟨⟨by omega,by omega⟩,⟨by omega,by omega⟩,rfl,rfl,rfl⟩,?_⟩
 rintro _ _ _ ⟨rfl,rfl,rfl⟩
 rw [t4,t5,t6,b0]
 refine ⟨by decide,⟨by omega,by omega⟩,by decide,by decide,⟨by omega,by omega⟩,fun a b c d e=>a=o4 N/\b=N / 146097/\c=oh N/\d=o2 N / 1461/\e=oo N,⟨⟨by omega,by omega⟩,⟨by omega,by omega⟩,rfl,rfl,rfl,rfl,rfl⟩,?_⟩
 rintro _ _ _ _ _ ⟨rfl,rfl,rfl,rfl,rfl⟩
 rw [t7]
 refine ⟨⟨by omega,by omega⟩,⟨by omega,by omega⟩,⟨by omega,by omega⟩,⟨by omega,by omega⟩,⟨by omega,by omega⟩,⟨by omega,by omega⟩,fun a b c=>a=o4 N/\b=oy N/\c=om N,⟨⟨by omega,by omega⟩,⟨by omega,by omega⟩,by decide,⟨by omega,by omega⟩,rfl,rfl,rfl⟩,?_⟩
 rintro _ _ _ ⟨rfl,rfl,rfl⟩
 have hy:0<=oy N/\oy N<=20000:=by unfold oy; omega
 rw [t8]
 refine ⟨⟨by omega,by omega⟩,⟨by omega,by omega⟩,by decide,⟨by omega,by omega⟩,⟨by omega,by omega⟩,⟨by omega,by omega⟩,⟨by omega,by omega⟩,fun h=>⟨⟨by omega,by omega⟩,⟨by omega,by omega⟩,?_⟩,fun h=>?_⟩
 . unfold ofN; rw [if_pos h]
 . unfold ofN; rw [if_neg h]
def cgo (a:List (SV U)):Option (Q1 U):=match a with | [.int .i64 n]=>some ⟨[],[],.agg [.int .i64 (ofS n).Year,.int .i64 (ofS n).Month,.int .i64 (ofS n).Date]⟩ | _=>none
theorem e1j (args:List (SV U)) (q:Q1 U) (h:cgo args=some q) (ho:m6 q.ob):l8 Ngw 59 args ⟨q.ob,q.hy,q.v,[]⟩:=by
 unfold cgo at h
 split at h
 . rename_i n
   cases h
   exact s8 b4i (j8 b4i q8 c0l 2) Tryz.func59 (k:=.val 23) (x:=ofS n) ⟨_,_,rfl,rfl,rfl⟩ (d2x (pgo n )) 0
 . cases h
noncomputable def Ngo:Env:=Ngw.addL 59 cgo
theorem b4g:l5 Ngo:=b4i.addL Tryz.call59 e1j
def c0o:Nat->Ann:=fun | 54=>⟨16,fun _=>none,fun _=>none⟩ | _=>⟨0,fun _=>none,fun _=>none⟩
def Vgr (d:Dy) (Q:Bool->Prop):Prop :=
Q (decide ((1:Int)<=d.Date/\d.Date<=u9 d.Year d.Month))
theorem d6u {d:Dy} {Q:Bool->Prop}:@Eq Prop (Vgr d Q) (i6 (E:=Ngo) (j7 Ngo H0 c0o 2) (c0o 54) Tryz.f54 [.agg [.int .i64 d.Year,.int .i64 d.Month,.int .i64 d.Date]] [] [] 0 (n7 Ngo [.bool] Q)):=by kernel_rfl
theorem e1s {d:Dy} {Q:Bool->Prop} (h:Vgr d Q):i6 (E:=Ngo) (j7 Ngo H0 c0o 2) (c0o 54) Tryz.f54 [.agg [.int .i64 d.Year,.int .i64 d.Month,.int .i64 d.Date]] [] [] 0 (n7 Ngo [.bool] Q):=by rw [<- d6u]; exact h
theorem pgr (d:Dy)  : Vgr d (fun y0=>y0=E3 d):=by
 unfold Vgr
 rfl
def e4e (d:Dy):Q1 U:=⟨[],[],blB (E3 d)⟩
def cgr (a:List (SV U)):Option (Q1 U):=match a with | [.agg [.int .i64 d0,.int .i64 d1,.int .i64 d2]]=>some (e4e (⟨d0,d1,d2⟩)) | _=>none
theorem e0q (args:List (SV U)) (q:Q1 U) (h:cgr args=some q) (ho:m6 q.ob):l8 Ngo 54 args ⟨q.ob,q.hy,q.v,[]⟩:=by
 unfold cgr at h
 split at h
 . rename_i d0 d1 d2
   cases h
   exact s8 b4g (j8 b4g q8 c0o 2) Tryz.func54 (k:=.bool) (x:=E3 (⟨d0,d1,d2⟩:Dy)) trivial (e1s (pgr (⟨d0,d1,d2⟩) )) 0
 . cases h
noncomputable def Ngr:Env:=Ngo.addL 54 cgr
theorem b4l:l5 Ngr:=b4g.addL Tryz.call54 e0q
def c5f:Nat->Ann:=fun | 94=>⟨33,fun _=>none,fun _=>none⟩ | _=>⟨0,fun _=>none,fun _=>none⟩
def Vgc (y:Int) (m:Int) (d:Int) (Q:Int->Prop):Prop :=
(m<3->b8 (y-1)/\b8 (m+12)/\b8 ((365:Int) * (y-1))/\(0:Int)<4/\(4:Int)<=100000/\b8 ((y-1) / (4:Int))/\b8 ((y-1) / (4:Int)+1)/\b8 ((365:Int) * (y-1)+(y-1) / (4:Int))/\(0:Int)<100/\(100:Int)<=100000/\b8 ((y-1) / (100:Int))/\b8 ((y-1) / (100:Int)+1)/\b8 ((365:Int) * (y-1)+(y-1) / (4:Int)-(y-1) / (100:Int))/\(0:Int)<400/\(400:Int)<=100000/\b8 ((y-1) / (400:Int))/\b8 ((y-1) / (400:Int)+1)/\b8 ((365:Int) * (y-1)+(y-1) / (4:Int)-(y-1) / (100:Int)+(y-1) / (400:Int))/\b8 (m+12-3)/\b8 ((153:Int) * (m+12-3))/\b8 ((153:Int) * (m+12-3)+2)/\(5:Int)≠0/\b8 (((153:Int) * (m+12-3)+2).tdiv (5:Int))/\b8 ((365:Int) * (y-1)+(y-1) / (4:Int)-(y-1) / (100:Int)+(y-1) / (400:Int)+((153:Int) * (m+12-3)+2).tdiv (5:Int))/\b8 ((365:Int) * (y-1)+(y-1) / (4:Int)-(y-1) / (100:Int)+(y-1) / (400:Int)+((153:Int) * (m+12-3)+2).tdiv (5:Int)+d)/\b8 ((365:Int) * (y-1)+(y-1) / (4:Int)-(y-1) / (100:Int)+(y-1) / (400:Int)+((153:Int) * (m+12-3)+2).tdiv (5:Int)+d-306)/\Q ((365:Int) * (y-1)+(y-1) / (4:Int)-(y-1) / (100:Int)+(y-1) / (400:Int)+((153:Int) * (m+12-3)+2).tdiv (5:Int)+d-306))/\(¬m<3->b8 ((365:Int) * y)/\(0:Int)<4/\(4:Int)<=100000/\b8 (y / (4:Int))/\b8 (y / (4:Int)+1)/\b8 ((365:Int) * y+y / (4:Int))/\(0:Int)<100/\(100:Int)<=100000/\b8 (y / (100:Int))/\b8 (y / (100:Int)+1)/\b8 ((365:Int) * y+y / (4:Int)-y / (100:Int))/\(0:Int)<400/\(400:Int)<=100000/\b8 (y / (400:Int))/\b8 (y / (400:Int)+1)/\b8 ((365:Int) * y+y / (4:Int)-y / (100:Int)+y / (400:Int))/\b8 (m-3)/\b8 ((153:Int) * (m-3))/\b8 ((153:Int) * (m-3)+2)/\(5:Int)≠0/\b8 (((153:Int) * (m-3)+2).tdiv (5:Int))/\b8 ((365:Int) * y+y / (4:Int)-y / (100:Int)+y / (400:Int)+((153:Int) * (m-3)+2).tdiv (5:Int))/\b8 ((365:Int) * y+y / (4:Int)-y / (100:Int)+y / (400:Int)+((153:Int) * (m-3)+2).tdiv (5:Int)+d)/\b8 ((365:Int) * y+y / (4:Int)-y / (100:Int)+y / (400:Int)+((153:Int) * (m-3)+2).tdiv (5:Int)+d-306)/\Q ((365:Int) * y+y / (4:Int)-y / (100:Int)+y / (400:Int)+((153:Int) * (m-3)+2).tdiv (5:Int)+d-306))
theorem e17 {y:Int} {m:Int} {d:Int} {Q:Int->Prop}:@Eq Prop (Vgc y m d Q) (i6 (E:=Ngr) (j7 Ngr H0 c5f 2) (c5f 94) Tryz.f94 [.int .i64 y,.int .i64 m,.int .i64 d] [] [] 0 (n7 Ngr [.int .i64] Q)):=by kernel_rfl
theorem d8c {y:Int} {m:Int} {d:Int} {Q:Int->Prop} (h:Vgc y m d Q):i6 (E:=Ngr) (j7 Ngr H0 c5f 2) (c5f 94) Tryz.f94 [.int .i64 y,.int .i64 m,.int .i64 d] [] [] 0 (n7 Ngr [.int .i64] Q):=by rw [<- e17]; exact h
set_option maxHeartbeats 2000000 in
theorem pgc (y:Int) (m:Int) (d:Int) (y0:-100000<=y) (y1:y<=100000) (m0:1<=m) (m1:m<=12) (d0:-100000<=d) (d1:d<=100000):Vgc y m d (fun y0=>y0=C5 y m d):=by
 unfold Vgc C5
 have t1:(153 * (m+12-3)+2).tdiv 5=(153 * (m+12-3)+2) / 5:=Int.tdiv_eq_ediv_of_nonneg (by omega)
 refine ⟨fun h=>?_,fun h=>?_⟩
 . rw [t1,if_pos h]
   repeat' apply And.intro
   all_goals first | rfl | omega
 . have t2:(153 * (m-3)+2).tdiv 5=(153 * (m-3)+2) / 5:=Int.tdiv_eq_ediv_of_nonneg (by omega)
   rw [t2,if_neg h]
   repeat' apply And.intro
   all_goals first | rfl | omega
def cgc (a:List (SV U)):Option (Q1 U):=match a with | [.int .i64 y,.int .i64 m,.int .i64 d]=>some ⟨[-100000<=y,y<=100000,1<=m,m<=12,-100000<=d,d<=100000],[],.int .i64 (C5 y m d)⟩ | _=>none
theorem d4c (args:List (SV U)) (q:Q1 U) (h:cgc args=some q) (ho:m6 q.ob):l8 Ngr 94 args ⟨q.ob,q.hy,q.v,[]⟩:=by
 unfold cgc at h
 split at h
 . rename_i y m d
   cases h
   exact s8 b4l (j8 b4l q8 c5f 2) Tryz.func94 (k:=.int .i64) (x:=C5 y m d) trivial (d8c (pgc y m d ho.1 ho.2.1 ho.2.2.1 ho.2.2.2.1 ho.2.2.2.2.1 ho.2.2.2.2.2.1)) 0
 . cases h
noncomputable def Ngc:Env:=Ngr.addL 94 cgc
theorem b45:l5 Ngc:=b4l.addL Tryz.call94 d4c
def c3j:Nat->Ann:=fun | 93=>⟨7,fun _=>none,fun _=>none⟩ | _=>⟨0,fun _=>none,fun _=>none⟩
def Vgt (d:Dy) (Q:Err->Prop):Prop :=
(¬E3 (Dy.mk d.Year d.Month d.Date)=true->Q (Err.no (3:Int)))/\(¬¬E3 (Dy.mk d.Year d.Month d.Date)=true->Q Err.nil)
theorem d9d {d:Dy} {Q:Err->Prop}:@Eq Prop (Vgt d Q) (i6 (E:=Ngc) (j7 Ngc H0 c3j 2) (c3j 93) Tryz.f93 [.agg [.int .i64 d.Year,.int .i64 d.Month,.int .i64 d.Date]] [] [] 0 (n7 Ngc [.err] Q)):=by kernel_rfl
theorem d7f {d:Dy} {Q:Err->Prop} (h:Vgt d Q):i6 (E:=Ngc) (j7 Ngc H0 c3j 2) (c3j 93) Tryz.f93 [.agg [.int .i64 d.Year,.int .i64 d.Month,.int .i64 d.Date]] [] [] 0 (n7 Ngc [.err] Q):=by rw [<- d9d]; exact h
def G3 (d:Dy):Err:=if A9 d then .nil else .no 3
theorem b2b (d:Dy):G3 d=.nil ∨ ∃ n,G3 d=.no n:=by
 unfold G3
 split
 . exact .inl rfl
 . exact .inr ⟨3,rfl⟩
theorem pgt (d:Dy)  : Vgt d (fun y0=>y0=G3 d):=by
 unfold Vgt G3
 refine ⟨fun h=>?_,fun h=>?_⟩
 . rw [if_neg (fun hr=>h (D4.2 hr))]
 . rw [if_pos (D4.1 (Classical.not_not.1 h))]
def e4c (d:Dy):Q1 U:=⟨[],[],.err (G3 d)⟩
def cgt (a:List (SV U)):Option (Q1 U):=match a with | [.agg [.int .i64 d0,.int .i64 d1,.int .i64 d2]]=>some (e4c (⟨d0,d1,d2⟩)) | _=>none
theorem d7b (args:List (SV U)) (q:Q1 U) (h:cgt args=some q) (ho:m6 q.ob):l8 Ngc 93 args ⟨q.ob,q.hy,q.v,[]⟩:=by
 unfold cgt at h
 split at h
 . rename_i d0 d1 d2
   cases h
   exact s8 b45 (j8 b45 q8 c3j 2) Tryz.func93 (k:=.err) (x:=G3 (⟨d0,d1,d2⟩:Dy)) (b2b _) (d7f (pgt (⟨d0,d1,d2⟩) )) 0
 . cases h
noncomputable def Ngt:Env:=Ngc.addL 93 cgt
theorem b4y:l5 Ngt:=b45.addL Tryz.call93 d7b
def c6l:Nat->Ann:=fun | 56=>⟨14,fun _=>none,fun _=>none⟩ | _=>⟨0,fun _=>none,fun _=>none⟩
def Vgn (d:Dy) (Q:Int->Prop):Prop :=
((G3 (Dy.mk d.Year d.Month d.Date)).is (3:Int)->Q (0:Int))/\(¬(G3 (Dy.mk d.Year d.Month d.Date)).is (3:Int)->(-100000:Int)<=d.Year/\d.Year<=100000/\(1:Int)<=d.Month/\d.Month<=12/\(-100000:Int)<=d.Date/\d.Date<=100000/\Q (C5 d.Year d.Month d.Date))
theorem d3f {d:Dy} {Q:Int->Prop}:@Eq Prop (Vgn d Q) (i6 (E:=Ngt) (j7 Ngt H0 c6l 2) (c6l 56) Tryz.f56 [.agg [.int .i64 d.Year,.int .i64 d.Month,.int .i64 d.Date]] [] [] 0 (n7 Ngt [.int .i64] Q)):=by kernel_rfl
theorem e18 {d:Dy} {Q:Int->Prop} (h:Vgn d Q):i6 (E:=Ngt) (j7 Ngt H0 c6l 2) (c6l 56) Tryz.f56 [.agg [.int .i64 d.Year,.int .i64 d.Month,.int .i64 d.Date]] [] [] 0 (n7 Ngt [.int .i64] Q):=by rw [<- d3f]; exact h
theorem b28 {d:Dy}:(G3 d).is 3↔¬ A9 d:=by
 unfold G3
 split
 . rename_i h
   exact ⟨fun h'=>by simp [Err.is,Err.num] at h',fun h'=>absurd h h'⟩
 . rename_i h
   exact ⟨fun _=>h,fun _=>rfl⟩
theorem b0u {d:Dy}:G3 d≠Err.nil↔¬ A9 d:=by
 unfold G3
 split
 . rename_i h
   exact ⟨fun h'=>absurd rfl h',fun h'=>absurd h h'⟩
 . rename_i h
   exact ⟨fun _=>h,fun _ h'=>by cases h'⟩
theorem pgn (d:Dy)  : Vgn d (fun y0=>y0=p7 d):=by
 unfold Vgn p7
 refine ⟨fun h=>?_,fun h=>?_⟩
 . rw [if_neg (b28.1 h)]
 . have hr:A9 d:=Classical.not_not.1 fun hn=>h (b28.2 hn)
   obtain ⟨y0,y1,m0,m1,d0,d1⟩:=hr.ym
   rw [if_pos hr]
   exact ⟨by omega,by omega,m0,m1,by omega,by omega,W7 m0 m1⟩
def e47 (d:Dy):Q1 U:=⟨[],[],.int .i64 (p7 d)⟩
def cgn (a:List (SV U)):Option (Q1 U):=match a with | [.agg [.int .i64 d0,.int .i64 d1,.int .i64 d2]]=>some (e47 (⟨d0,d1,d2⟩)) | _=>none
theorem d4u (args:List (SV U)) (q:Q1 U) (h:cgn args=some q) (ho:m6 q.ob):l8 Ngt 56 args ⟨q.ob,q.hy,q.v,[]⟩:=by
 unfold cgn at h
 split at h
 . rename_i d0 d1 d2
   cases h
   exact s8 b4y (j8 b4y q8 c6l 2) Tryz.func56 (k:=.int .i64) (x:=p7 (⟨d0,d1,d2⟩:Dy)) trivial (e18 (pgn (⟨d0,d1,d2⟩) )) 0
 . cases h
noncomputable def Ngn:Env:=Ngt.addL 56 cgn
theorem b4q:l5 Ngn:=b4y.addL Tryz.call56 d4u
def c4d:Nat->Ann:=fun | 82=>⟨13,fun _=>none,fun _=>none⟩ | _=>⟨0,fun _=>none,fun _=>none⟩
def Vgy (d:Dy) (Q:Int->Prop):Prop :=
(G3 (Dy.mk d.Year d.Month d.Date)≠Err.nil->Q (0:Int))/\(¬G3 (Dy.mk d.Year d.Month d.Date)≠Err.nil->((-100000:Int)<=d.Year/\d.Year<=100000/\(1:Int)<=1/\(1:Int)<=12/\(-100000:Int)<=1/\(1:Int)<=100000)/\b8 (p7 (Dy.mk d.Year d.Month d.Date)-C5 d.Year (1:Int) (1:Int))/\b8 (p7 (Dy.mk d.Year d.Month d.Date)-C5 d.Year (1:Int) (1:Int)+1)/\Q (p7 (Dy.mk d.Year d.Month d.Date)-C5 d.Year (1:Int) (1:Int)+1))
theorem e0l {d:Dy} {Q:Int->Prop}:@Eq Prop (Vgy d Q) (i6 (E:=Ngn) (j7 Ngn H0 c4d 2) (c4d 82) Tryz.f82 [.agg [.int .i64 d.Year,.int .i64 d.Month,.int .i64 d.Date]] [] [] 0 (n7 Ngn [.int .i64] Q)):=by kernel_rfl
theorem d4o {d:Dy} {Q:Int->Prop} (h:Vgy d Q):i6 (E:=Ngn) (j7 Ngn H0 c4d 2) (c4d 82) Tryz.f82 [.agg [.int .i64 d.Year,.int .i64 d.Month,.int .i64 d.Date]] [] [] 0 (n7 Ngn [.int .i64] Q):=by rw [<- e0l]; exact h
theorem pgy (d:Dy)  : Vgy d (fun y0=>y0=ydS d):=by
 unfold Vgy ydS
 refine ⟨fun h=>?_,fun h=>?_⟩
 . rw [if_neg (b0u.1 h)]
 . have hr:A9 d:=Classical.not_not.1 fun hn=>h (b0u.2 hn)
   obtain ⟨y0,y1,m0,m1,d0,d1⟩:=hr.ym
   obtain ⟨n0,n1⟩:=S5 hr
   have a0:=w8 (show (0:Int)<=d.Year by omega)
   have a1:=w8 (show d.Year<=10000 by omega)
   have a2:j4 0=-366:=by decide
   have a3:j4 10000=3652059:=by decide
   have e:C5 d.Year 1 1=j4 d.Year+1:=by rw [W7 (by decide) (by decide)]; unfold G7; rw [if_pos (by decide)]; omega
   have en:p7 (Dy.mk d.Year d.Month d.Date)=F6 d:=by
    show p7 d=F6 d
    unfold p7; rw [if_pos hr]
   rw [if_pos hr,e,en]
   exact ⟨⟨by omega,by omega,by decide,by decide,by decide,by decide⟩,⟨by omega,by omega⟩,⟨by omega,by omega⟩,by omega⟩
def e4r (d:Dy):Q1 U:=⟨[],[],.int .i64 (ydS d)⟩
def cgy (a:List (SV U)):Option (Q1 U):=match a with | [.agg [.int .i64 d0,.int .i64 d1,.int .i64 d2]]=>some (e4r (⟨d0,d1,d2⟩)) | _=>none
theorem e1h (args:List (SV U)) (q:Q1 U) (h:cgy args=some q) (ho:m6 q.ob):l8 Ngn 82 args ⟨q.ob,q.hy,q.v,[]⟩:=by
 unfold cgy at h
 split at h
 . rename_i d0 d1 d2
   cases h
   exact s8 b4q (j8 b4q q8 c4d 2) Tryz.func82 (k:=.int .i64) (x:=ydS (⟨d0,d1,d2⟩:Dy)) trivial (d4o (pgy (⟨d0,d1,d2⟩) )) 0
 . cases h
noncomputable def Ngy:Env:=Ngn.addL 82 cgy
theorem b5g:l5 Ngy:=b4q.addL Tryz.call82 e1h
def c4r:Nat->Ann:=fun | 104=>⟨16,fun _=>none,fun _=>none⟩ | _=>⟨0,fun _=>none,fun _=>none⟩
def Vgb (y:Int) (f:Int) (Q:Int->Prop):Prop :=
(-100000:Int)<=y/\y<=100000/\(1:Int)<=1/\(1:Int)<=12/\(-100000:Int)<=4/\(4:Int)<=100000/\b8 (wdS (C5 y (1:Int) (4:Int))-f)/\b8 (wdS (C5 y (1:Int) (4:Int))-f+7)/\(7:Int)≠0/\b8 (C5 y (1:Int) (4:Int)-(wdS (C5 y (1:Int) (4:Int))-f+7).tmod (7:Int))/\Q (C5 y (1:Int) (4:Int)-(wdS (C5 y (1:Int) (4:Int))-f+7).tmod (7:Int))
theorem d9h {y:Int} {f:Int} {Q:Int->Prop}:@Eq Prop (Vgb y f Q) (i6 (E:=Ngy) (j7 Ngy H0 c4r 2) (c4r 104) Tryz.f104 [.int .i64 y,.int .i64 f] [] [] 0 (n7 Ngy [.int .i64] Q)):=by kernel_rfl
theorem d1s {y:Int} {f:Int} {Q:Int->Prop} (h:Vgb y f Q):i6 (E:=Ngy) (j7 Ngy H0 c4r 2) (c4r 104) Tryz.f104 [.int .i64 y,.int .i64 f] [] [] 0 (n7 Ngy [.int .i64] Q):=by rw [<- d9h]; exact h
theorem pgb (y:Int) (f:Int) (y0:0<=y) (y1:y<=10000) (f0:0<=f) (f1:f<=6):Vgb y f (fun y0=>y0=w5 y f):=by
 unfold Vgb w5
 have e:C5 y 1 4=j4 y+4:=by rw [W7 (by decide) (by decide)]; unfold G7; rw [if_pos (by decide)]; omega
 have w0:0<=wdS (j4 y+4)/\wdS (j4 y+4)<=6:=by unfold wdS; omega
 have a0:=w8 (show (0:Int)<=y by omega)
 have a1:=w8 (show y<=10000 by omega)
 have a2:j4 0=-366:=by decide
 have a3:j4 10000=3652059:=by decide
 rw [e]
 generalize wdS (j4 y+4)=w at w0 ⊢
 have t:(w-f+7).tmod 7=(w-f+7) % 7:=Int.tmod_eq_emod_of_nonneg (by omega)
 rw [t]
 refine ⟨by omega,by omega,by decide,by decide,by decide,by decide,⟨by omega,by omega⟩,⟨by omega,by omega⟩,by decide,⟨by omega,by omega⟩,rfl⟩
def cgb (a:List (SV U)):Option (Q1 U):=match a with | [.int .i64 y,.int .i64 f]=>some ⟨[0<=y,y<=10000,0<=f,f<=6],[],.int .i64 (w5 y f)⟩ | _=>none
theorem d7m (args:List (SV U)) (q:Q1 U) (h:cgb args=some q) (ho:m6 q.ob):l8 Ngy 104 args ⟨q.ob,q.hy,q.v,[]⟩:=by
 unfold cgb at h
 split at h
 . rename_i y f
   cases h
   exact s8 b5g (j8 b5g q8 c4r 2) Tryz.func104 (k:=.int .i64) (x:=w5 y f) trivial (d1s (pgb y f ho.1 ho.2.1 ho.2.2.1 ho.2.2.2.1)) 0
 . cases h
noncomputable def Ngb:Env:=Ngy.addL 104 cgb
theorem b5u:l5 Ngb:=b5g.addL Tryz.call104 d7m
def c6e:Nat->Ann:=fun | 79=>⟨49,fun _=>none,fun _=>none⟩ | _=>⟨0,fun _=>none,fun _=>none⟩
def Vgk (n:Int) (f:Int) (Q:Int->Int->Prop):Prop :=
(((n<1 ∨ (3652059:Int)<n) ∨ f<0) ∨ (6:Int)<f->Q (0:Int) (0:Int))/\(¬(((n<1 ∨ (3652059:Int)<n) ∨ f<0) ∨ (6:Int)<f)->b8 ((ofS n).Year+1)/\(0:Int)<=(ofS n).Year+1/\(ofS n).Year+1<=10000/\(0:Int)<=f/\f<=6/\(w5 ((ofS n).Year+1) f<=n->b8 ((ofS n).Year+1)/\(0:Int)<=(ofS n).Year+1/\(ofS n).Year+1<=10000/\(0:Int)<=f/\f<=6/\b8 (n-w5 ((ofS n).Year+1) f)/\(7:Int)≠0/\b8 ((n-w5 ((ofS n).Year+1) f).tdiv (7:Int))/\b8 ((n-w5 ((ofS n).Year+1) f).tdiv (7:Int)+1)/\Q ((ofS n).Year+1) ((n-w5 ((ofS n).Year+1) f).tdiv (7:Int)+1))/\(¬w5 ((ofS n).Year+1) f<=n->(0:Int)<=(ofS n).Year/\(ofS n).Year<=10000/\(0:Int)<=f/\f<=6/\(n<w5 (ofS n).Year f->b8 ((ofS n).Year-1)/\(0:Int)<=(ofS n).Year-1/\(ofS n).Year-1<=10000/\(0:Int)<=f/\f<=6/\b8 (n-w5 ((ofS n).Year-1) f)/\(7:Int)≠0/\b8 ((n-w5 ((ofS n).Year-1) f).tdiv (7:Int))/\b8 ((n-w5 ((ofS n).Year-1) f).tdiv (7:Int)+1)/\Q ((ofS n).Year-1) ((n-w5 ((ofS n).Year-1) f).tdiv (7:Int)+1))/\(¬n<w5 (ofS n).Year f->(0:Int)<=(ofS n).Year/\(ofS n).Year<=10000/\(0:Int)<=f/\f<=6/\b8 (n-w5 (ofS n).Year f)/\(7:Int)≠0/\b8 ((n-w5 (ofS n).Year f).tdiv (7:Int))/\b8 ((n-w5 (ofS n).Year f).tdiv (7:Int)+1)/\Q (ofS n).Year ((n-w5 (ofS n).Year f).tdiv (7:Int)+1))))
theorem e01 {n:Int} {f:Int} {Q:Int->Int->Prop}:@Eq Prop (Vgk n f Q) (i6 (E:=Ngb) (j7 Ngb H0 c6e 2) (c6e 79) Tryz.f79 [.int .i64 n,.int .i64 f] [] [] 0 (n7 Ngb [.int .i64,.int .i64] Q)):=by kernel_rfl
theorem d4b {n:Int} {f:Int} {Q:Int->Int->Prop} (h:Vgk n f Q):i6 (E:=Ngb) (j7 Ngb H0 c6e 2) (c6e 79) Tryz.f79 [.int .i64 n,.int .i64 f] [] [] 0 (n7 Ngb [.int .i64,.int .i64] Q):=by rw [<- e01]; exact h
set_option maxHeartbeats 2000000 in
theorem pgk (n:Int) (f:Int)  : Vgk n f (fun y0 y1=>y0=(B9 n f).1/\y1=(B9 n f).2):=by
 unfold Vgk B9
 refine ⟨fun h=>by rw [if_pos h]; exact ⟨rfl,rfl⟩,fun h=>?_⟩
 rw [if_neg h]
 obtain ⟨hr,hn⟩:=T0 (n:=n) (by omega) (by omega)
 obtain ⟨y0,y1,_⟩:=hr.ym
 have hi:=V3 hr
 rw [hn] at hi
 unfold wkY
 generalize (ofS n).Year=y at *
 obtain ⟨q0,q1⟩:=K3 (y+1) f
 obtain ⟨q2,q3⟩:=K3 y f
 obtain ⟨q4,q5⟩:=K3 (y-1) f
 obtain ⟨r0,r1⟩:=A8 (y:=y+1) (by omega) (by omega)
 obtain ⟨r2,r3⟩:=A8 (y:=y) (by omega) (by omega)
 obtain ⟨r4,r5⟩:=A8 (y:=y-1) (by omega) (by omega)
 have hs:=I4 (y-1)
 rw [show y-1+1=y by omega] at hs
 have hs2:j4 (y-1)+365<=j4 y:=by split at hs <;> omega
 refine ⟨⟨by omega,by omega⟩,by omega,by omega,by omega,by omega,fun h1=>?_,fun h1=>?_⟩
 . have t:(n-w5 (y+1) f).tdiv 7=(n-w5 (y+1) f) / 7:=Int.tdiv_eq_ediv_of_nonneg (by omega)
   rw [if_pos h1,t]
   exact ⟨⟨by omega,by omega⟩,by omega,by omega,by omega,by omega,⟨by omega,by omega⟩,by decide,⟨by omega,by omega⟩,⟨by omega,by omega⟩,rfl,rfl⟩
 . rw [if_neg h1]
   refine ⟨by omega,by omega,by omega,by omega,fun h2=>?_,fun h2=>?_⟩
   . have t:(n-w5 (y-1) f).tdiv 7=(n-w5 (y-1) f) / 7:=Int.tdiv_eq_ediv_of_nonneg (by omega)
     rw [if_pos h2,t]
     exact ⟨⟨by omega,by omega⟩,by omega,by omega,by omega,by omega,⟨by omega,by omega⟩,by decide,⟨by omega,by omega⟩,⟨by omega,by omega⟩,rfl,rfl⟩
   . have t:(n-w5 y f).tdiv 7=(n-w5 y f) / 7:=Int.tdiv_eq_ediv_of_nonneg (by omega)
     rw [if_neg h2,t]
     exact ⟨by omega,by omega,by omega,by omega,⟨by omega,by omega⟩,by decide,⟨by omega,by omega⟩,⟨by omega,by omega⟩,rfl,rfl⟩
def cgk (a:List (SV U)):Option (Q1 U):=match a with | [.int .i64 n,.int .i64 f]=>some ⟨[],[],.tup [.int .i64 ((B9 n f).1),.int .i64 ((B9 n f).2)]⟩ | _=>none
theorem d7w (args:List (SV U)) (q:Q1 U) (h:cgk args=some q) (ho:m6 q.ob):l8 Ngb 79 args ⟨q.ob,q.hy,q.v,[]⟩:=by
 unfold cgk at h
 split at h
 . rename_i n f
   cases h
   exact d05 b5u (j8 b5u q8 c6e 2) Tryz.func79 (k1:=.int .i64) (k2:=.int .i64) (x1:=(B9 n f).1) (x2:=(B9 n f).2) trivial trivial (d4b (pgk n f )) 0
 . cases h
noncomputable def Ngk:Env:=Ngb.addL 79 cgk
theorem b41:l5 Ngk:=b5u.addL Tryz.call79 d7w
def c20:Nat->Ann:=fun | 80=>⟨28,fun _=>none,fun _=>none⟩ | _=>⟨0,fun _=>none,fun _=>none⟩
def Vgm (y:Int) (f:Int) (Q:Int->Prop):Prop :=
(((y<1 ∨ (9999:Int)<y) ∨ f<0) ∨ (6:Int)<f->Q (0:Int))/\(¬(((y<1 ∨ (9999:Int)<y) ∨ f<0) ∨ (6:Int)<f)->b8 (y+1)/\(0:Int)<=y+1/\y+1<=10000/\(0:Int)<=f/\f<=6/\(0:Int)<=y/\y<=10000/\(0:Int)<=f/\f<=6/\b8 (w5 (y+1) f-w5 y f)/\(7:Int)≠0/\b8 ((w5 (y+1) f-w5 y f).tdiv (7:Int))/\Q ((w5 (y+1) f-w5 y f).tdiv (7:Int)))
theorem d6x {y:Int} {f:Int} {Q:Int->Prop}:@Eq Prop (Vgm y f Q) (i6 (E:=Ngk) (j7 Ngk H0 c20 2) (c20 80) Tryz.f80 [.int .i64 y,.int .i64 f] [] [] 0 (n7 Ngk [.int .i64] Q)):=by kernel_rfl
theorem d6n {y:Int} {f:Int} {Q:Int->Prop} (h:Vgm y f Q):i6 (E:=Ngk) (j7 Ngk H0 c20 2) (c20 80) Tryz.f80 [.int .i64 y,.int .i64 f] [] [] 0 (n7 Ngk [.int .i64] Q):=by rw [<- d6x]; exact h
theorem pgm (y:Int) (f:Int)  : Vgm y f (fun y0=>y0=F9 y f):=by
 unfold Vgm F9
 refine ⟨fun h=>by rw [if_pos h],fun h=>?_⟩
 rw [if_neg h]
 obtain ⟨q0,q1⟩:=K3 (y+1) f
 obtain ⟨q2,q3⟩:=K3 y f
 obtain ⟨r0,r1⟩:=A8 (y:=y+1) (by omega) (by omega)
 obtain ⟨r2,r3⟩:=A8 (y:=y) (by omega) (by omega)
 have hs:=I4 y
 have hs2:j4 y+365<=j4 (y+1):=by split at hs <;> omega
 have t:(w5 (y+1) f-w5 y f).tdiv 7=(w5 (y+1) f-w5 y f) / 7:=Int.tdiv_eq_ediv_of_nonneg (by omega)
 rw [t]
 exact ⟨⟨by omega,by omega⟩,by omega,by omega,by omega,by omega,by omega,by omega,by omega,by omega,⟨by omega,by omega⟩,by decide,⟨by omega,by omega⟩,rfl⟩
def cgm (a:List (SV U)):Option (Q1 U):=match a with | [.int .i64 y,.int .i64 f]=>some ⟨[],[],.int .i64 (F9 y f)⟩ | _=>none
theorem e0d (args:List (SV U)) (q:Q1 U) (h:cgm args=some q) (ho:m6 q.ob):l8 Ngk 80 args ⟨q.ob,q.hy,q.v,[]⟩:=by
 unfold cgm at h
 split at h
 . rename_i y f
   cases h
   exact s8 b41 (j8 b41 q8 c20 2) Tryz.func80 (k:=.int .i64) (x:=F9 y f) trivial (d6n (pgm y f )) 0
 . cases h
noncomputable def Ngm:Env:=Ngk.addL 80 cgm
theorem d7v:l5 Ngm:=b41.addL Tryz.call80 e0d
noncomputable def a66:Env:=Ngm.addI 55 Tryz.f55
theorem a8x:l5 a66:=d7v.addI Tryz.call55 Tryz.func55
def c2h:Nat->Ann:=fun | 29=>⟨42,fun _=>none,fun _=>none⟩ | 55=>⟨12,fun _=>none,fun _=>none⟩ | _=>⟨0,fun _=>none,fun _=>none⟩
def Vwr (t:Tm) (Q:Bool->Prop):Prop :=
(t.Bare=true/\(((t.Hour≠0 ∨ t.Min≠0) ∨ t.Sec≠0) ∨ t.UTC=true)->Q false)/\(¬(t.Bare=true/\(((t.Hour≠0 ∨ t.Min≠0) ∨ t.Sec≠0) ∨ t.UTC=true))->(E3 (Dy.mk t.Day.Year t.Day.Month t.Day.Date)=true->((0:Int)<=t.Hour/\t.Hour<=23->((0:Int)<=t.Min/\t.Min<=59->Q (decide ((0:Int)<=t.Sec/\t.Sec<=59)))/\(¬((0:Int)<=t.Min/\t.Min<=59)->Q false))/\(¬((0:Int)<=t.Hour/\t.Hour<=23)->Q false))/\(¬E3 (Dy.mk t.Day.Year t.Day.Month t.Day.Date)=true->Q false))
theorem d2q {t:Tm} {Q:Bool->Prop}:@Eq Prop (Vwr t Q) (i6 (E:=a66) (j7 a66 H0 c2h 2) (c2h 29) Tryz.f29 [.agg [.int .i64 t.Day.Year,.int .i64 t.Day.Month,.int .i64 t.Day.Date,.int .i64 t.Hour,.int .i64 t.Min,.int .i64 t.Sec,blB t.Bare,blB t.UTC]] [] [] 0 (n7 a66 [.bool] Q)):=by kernel_rfl
theorem d4s {t:Tm} {Q:Bool->Prop} (h:Vwr t Q):i6 (E:=a66) (j7 a66 H0 c2h 2) (c2h 29) Tryz.f29 [.agg [.int .i64 t.Day.Year,.int .i64 t.Day.Month,.int .i64 t.Day.Date,.int .i64 t.Hour,.int .i64 t.Min,.int .i64 t.Sec,blB t.Bare,blB t.UTC]] [] [] 0 (n7 a66 [.bool] Q):=by rw [<- d2q]; exact h
theorem pwr (t:Tm)  : Vwr t (fun y0=>y0=q7 t):=by
 unfold Vwr
 have e:(Dy.mk t.Day.Year t.Day.Month t.Day.Date)=t.Day:=rfl
 rw [e]
 refine ⟨fun h=>?_,fun h=>⟨fun hd=>⟨fun hh=>⟨fun hm=>?_,fun hm=>?_⟩,fun hh=>?_⟩,fun hd=>?_⟩⟩
 . exact (decide_eq_false fun hr=>hr.2.2.2.2 h).symm
 . by_cases hs:0<=t.Sec/\t.Sec<=59
   . rw [decide_eq_true hs]; exact (decide_eq_true ⟨D4.1 hd,hh,hm,hs,h⟩).symm
   . rw [decide_eq_false hs]; exact (decide_eq_false fun hr=>hs hr.2.2.2.1).symm
 . exact (decide_eq_false fun hr=>hm hr.2.2.1).symm
 . exact (decide_eq_false fun hr=>hh hr.2.1).symm
 . exact (decide_eq_false fun hr=>hd (D4.2 hr.1)).symm
noncomputable def e3o (t:Tm):Q1 U:=⟨[],[],blB (q7 t)⟩
noncomputable def cwr (a:List (SV U)):Option (Q1 U):=match a with | [.agg l_t]=>(y25.bk (.agg l_t)).bind fun t=>some (e3o t) | _=>none
theorem d8e (args:List (SV U)) (q:Q1 U) (h:cwr args=some q) (ho:m6 q.ob):l8 a66 29 args ⟨q.ob,q.hy,q.v,[]⟩:=by
 unfold cwr at h
 split at h
 . rename_i l_t
   obtain ⟨t,hb_t,h⟩:=Option.bind_eq_some_iff.1 h
   cases h
   refine l8.conv (E:=a66) (args':=[.agg [.int .i64 t.Day.Year,.int .i64 t.Day.Month,.int .i64 t.Day.Date,.int .i64 t.Hour,.int .i64 t.Min,.int .i64 t.Sec,blB t.Bare,blB t.UTC]]) (s8 a8x (j8 a8x q8 c2h 2) Tryz.func29 (k:=.bool) trivial (d4s (pwr t )) 0) fun D w vs hr=>z8 [.agg l_t] [.agg [.int .i64 t.Day.Year,.int .i64 t.Day.Month,.int .i64 t.Day.Date,.int .i64 t.Hour,.int .i64 t.Min,.int .i64 t.Sec,blB t.Bare,blB t.UTC]] _ ⟨fun _ h=>A0 hb_t h,trivial⟩ hr
 . cases h
noncomputable def Nwr:Env:=a66.addL 29 cwr
theorem b40:l5 Nwr:=a8x.addL Tryz.call29 d8e
def c5r:Nat->Ann:=fun | 31=>⟨22,fun _=>none,fun _=>none⟩ | _=>⟨0,fun _=>none,fun _=>none⟩
def Vws (t:Tm) (Q:Int->Prop):Prop :=
(¬q7 (Tm.mk (Dy.mk t.Day.Year t.Day.Month t.Day.Date) t.Hour t.Min t.Sec (decide (t.Bare=true)) (decide (t.UTC=true)))=true->Q (-1:Int))/\(¬¬q7 (Tm.mk (Dy.mk t.Day.Year t.Day.Month t.Day.Date) t.Hour t.Min t.Sec (decide (t.Bare=true)) (decide (t.UTC=true)))=true->b8 (p7 (Dy.mk t.Day.Year t.Day.Month t.Day.Date)-1)/\b8 ((p7 (Dy.mk t.Day.Year t.Day.Month t.Day.Date)-1) * 86400)/\b8 (t.Hour * 3600)/\b8 ((p7 (Dy.mk t.Day.Year t.Day.Month t.Day.Date)-1) * 86400+t.Hour * 3600)/\b8 (t.Min * 60)/\b8 ((p7 (Dy.mk t.Day.Year t.Day.Month t.Day.Date)-1) * 86400+t.Hour * 3600+t.Min * 60)/\b8 ((p7 (Dy.mk t.Day.Year t.Day.Month t.Day.Date)-1) * 86400+t.Hour * 3600+t.Min * 60+t.Sec)/\Q ((p7 (Dy.mk t.Day.Year t.Day.Month t.Day.Date)-1) * 86400+t.Hour * 3600+t.Min * 60+t.Sec))
theorem d4w {t:Tm} {Q:Int->Prop}:@Eq Prop (Vws t Q) (i6 (E:=Nwr) (j7 Nwr H0 c5r 2) (c5r 31) Tryz.f31 [.agg [.int .i64 t.Day.Year,.int .i64 t.Day.Month,.int .i64 t.Day.Date,.int .i64 t.Hour,.int .i64 t.Min,.int .i64 t.Sec,blB t.Bare,blB t.UTC]] [] [] 0 (n7 Nwr [.int .i64] Q)):=by kernel_rfl
theorem d3t {t:Tm} {Q:Int->Prop} (h:Vws t Q):i6 (E:=Nwr) (j7 Nwr H0 c5r 2) (c5r 31) Tryz.f31 [.agg [.int .i64 t.Day.Year,.int .i64 t.Day.Month,.int .i64 t.Day.Date,.int .i64 t.Hour,.int .i64 t.Min,.int .i64 t.Sec,blB t.Bare,blB t.UTC]] [] [] 0 (n7 Nwr [.int .i64] Q):=by rw [<- d4w]; exact h
theorem pws (t:Tm)  : Vws t (fun y0=>y0=i4 t):=by
 unfold Vws i4
 simp only [Bool.decide_eq_true]
 refine ⟨fun h=>by rw [if_neg (fun hr=>h (w9.2 hr))],fun h=>?_⟩
 have hr:W0 t:=w9.1 (Classical.not_not.1 h)
 have hrg:=a0l hr
 rw [if_pos hr]
 obtain ⟨hd,hh,hm,hs,_⟩:=hr
 obtain ⟨n0,n1⟩:=S5 hd
 have en:p7 (Dy.mk t.Day.Year t.Day.Month t.Day.Date)=F6 t.Day:=by
  show p7 t.Day=F6 t.Day
  unfold p7; rw [if_pos hd]
 rw [en]
 unfold a0v at *
 exact ⟨⟨by omega,by omega⟩,⟨by omega,by omega⟩,⟨by omega,by omega⟩,⟨by omega,by omega⟩,⟨by omega,by omega⟩,⟨by omega,by omega⟩,⟨by omega,by omega⟩,rfl⟩
noncomputable def e43 (t:Tm):Q1 U:=⟨[],[],.int .i64 (i4 t)⟩
noncomputable def cws (a:List (SV U)):Option (Q1 U):=match a with | [.agg l_t]=>(y25.bk (.agg l_t)).bind fun t=>some (e43 t) | _=>none
theorem d7l (args:List (SV U)) (q:Q1 U) (h:cws args=some q) (ho:m6 q.ob):l8 Nwr 31 args ⟨q.ob,q.hy,q.v,[]⟩:=by
 unfold cws at h
 split at h
 . rename_i l_t
   obtain ⟨t,hb_t,h⟩:=Option.bind_eq_some_iff.1 h
   cases h
   refine l8.conv (E:=Nwr) (args':=[.agg [.int .i64 t.Day.Year,.int .i64 t.Day.Month,.int .i64 t.Day.Date,.int .i64 t.Hour,.int .i64 t.Min,.int .i64 t.Sec,blB t.Bare,blB t.UTC]]) (s8 b40 (j8 b40 q8 c5r 2) Tryz.func31 (k:=.int .i64) trivial (d3t (pws t )) 0) fun D w vs hr=>z8 [.agg l_t] [.agg [.int .i64 t.Day.Year,.int .i64 t.Day.Month,.int .i64 t.Day.Date,.int .i64 t.Hour,.int .i64 t.Min,.int .i64 t.Sec,blB t.Bare,blB t.UTC]] _ ⟨fun _ h=>A0 hb_t h,trivial⟩ hr
 . cases h
noncomputable def Nws:Env:=Nwr.addL 31 cws
theorem b3w:l5 Nws:=b40.addL Tryz.call31 d7l
def c34:Nat->Ann:=fun | 36=>⟨46,fun _=>none,fun _=>none⟩ | _=>⟨0,fun _=>none,fun _=>none⟩
def Vwa (n:Int) (t:Tm) (Q:Tm->Prop):Prop :=
((¬n<0/\t.Bare=true)/\¬t.UTC=true->(86400:Int)≠0)/\(n<0 ∨ t.Bare=true/\(t.UTC=true ∨ n.tmod (86400:Int)≠0)->Q (Tm.mk (Dy.mk (0:Int) (0:Int) (0:Int)) (0:Int) (0:Int) (0:Int) false false))/\(¬(n<0 ∨ t.Bare=true/\(t.UTC=true ∨ n.tmod (86400:Int)≠0))->(86400:Int)≠0/\b8 (n.tdiv (86400:Int))/\b8 (n.tdiv (86400:Int)+1)/\((ofS (n.tdiv (86400:Int)+1)).Year=0/\(ofS (n.tdiv (86400:Int)+1)).Month=0/\(ofS (n.tdiv (86400:Int)+1)).Date=0/\True->Q (Tm.mk (Dy.mk (0:Int) (0:Int) (0:Int)) (0:Int) (0:Int) (0:Int) false false))/\(¬((ofS (n.tdiv (86400:Int)+1)).Year=0/\(ofS (n.tdiv (86400:Int)+1)).Month=0/\(ofS (n.tdiv (86400:Int)+1)).Date=0/\True)->(86400:Int)≠0/\(3600:Int)≠0/\b8 ((n.tmod (86400:Int)).tdiv (3600:Int))/\(60:Int)≠0/\b8 ((n.tmod (86400:Int)).tdiv (60:Int))/\(60:Int)≠0/\(60:Int)≠0/\Q (Tm.mk (Dy.mk (ofS (n.tdiv (86400:Int)+1)).Year (ofS (n.tdiv (86400:Int)+1)).Month (ofS (n.tdiv (86400:Int)+1)).Date) ((n.tmod (86400:Int)).tdiv (3600:Int)) (((n.tmod (86400:Int)).tdiv (60:Int)).tmod (60:Int)) ((n.tmod (86400:Int)).tmod (60:Int)) (decide (t.Bare=true)) (decide (t.UTC=true)))))
theorem d4f {n:Int} {t:Tm} {Q:Tm->Prop}:@Eq Prop (Vwa n t Q) (i6 (E:=Nws) (j7 Nws H0 c34 2) (c34 36) Tryz.f36 [.int .i64 n,.agg [.int .i64 t.Day.Year,.int .i64 t.Day.Month,.int .i64 t.Day.Date,.int .i64 t.Hour,.int .i64 t.Min,.int .i64 t.Sec,blB t.Bare,blB t.UTC]] [] [] 0 (n7 Nws [.val 25] Q)):=by kernel_rfl
theorem d5k {n:Int} {t:Tm} {Q:Tm->Prop} (h:Vwa n t Q):i6 (E:=Nws) (j7 Nws H0 c34 2) (c34 36) Tryz.f36 [.int .i64 n,.agg [.int .i64 t.Day.Year,.int .i64 t.Day.Month,.int .i64 t.Day.Date,.int .i64 t.Hour,.int .i64 t.Min,.int .i64 t.Sec,blB t.Bare,blB t.UTC]] [] [] 0 (n7 Nws [.val 25] Q):=by rw [<- d4f]; exact h
theorem pwa (n:Int) (t:Tm) (hn:n<=9000000000000000000):Vwa n t (fun y0=>y0=atS n t):=by
 unfold Vwa atS
 simp only [Bool.decide_eq_true]
 refine ⟨fun _=>by decide,fun h=>?_,fun h=>?_⟩
 . by_cases h0:n<0
   . rw [if_pos (.inl h0)]
   . have e:n.tmod 86400=n % 86400:=Int.tmod_eq_emod_of_nonneg (by omega)
     rw [e] at h
     rw [if_pos (.inr (.inl (h.resolve_left h0)))]
 . have h0:¬ n<0:=fun h'=>h (.inl h')
   have e1:n.tdiv 86400=n / 86400:=Int.tdiv_eq_ediv_of_nonneg (by omega)
   have e2:n.tmod 86400=n % 86400:=Int.tmod_eq_emod_of_nonneg (by omega)
   have e3:(n % 86400).tdiv 3600=n % 86400 / 3600:=Int.tdiv_eq_ediv_of_nonneg (by omega)
   have e4:(n % 86400).tdiv 60=n % 86400 / 60:=Int.tdiv_eq_ediv_of_nonneg (by omega)
   have e5:(n % 86400 / 60).tmod 60=n % 86400 / 60 % 60:=Int.tmod_eq_emod_of_nonneg (by omega)
   have e6:(n % 86400).tmod 60=n % 86400 % 60:=Int.tmod_eq_emod_of_nonneg (by omega)
   rw [e2] at h
   rw [e1,e2,e3,e4,e5,e6]
   by_cases hl:3652059<n / 86400+1
   . have eo:ofS (n / 86400+1)=⟨0,0,0⟩:=by unfold ofS; rw [if_pos (.inr hl)]
     rw [if_pos (.inr (.inr hl)),eo]
     exact ⟨by decide,⟨by omega,by omega⟩,⟨by omega,by omega⟩,fun _=>rfl,fun hh=>absurd ⟨rfl,rfl,rfl,trivial⟩ hh⟩
   . obtain ⟨hr,_⟩:=T0 (n:=n / 86400+1) (by omega) (by omega)
     obtain ⟨y0,_⟩:=hr.ym
     rw [if_neg (by rintro (h' | h' | h')
                    . exact h0 h'
                    . exact h (.inr h')
                    . exact hl h')]
     exact ⟨by decide,⟨by omega,by omega⟩,⟨by omega,by omega⟩,fun hz=>absurd hz.1 (by omega),fun _=>⟨by decide,by decide,⟨by omega,by omega⟩,by decide,⟨by omega,by omega⟩,by decide,by decide,rfl⟩⟩
noncomputable def e3k (n:Int) (t:Tm):Q1 U:=⟨[n<=9000000000000000000],[],.agg [.int .i64 (atS n t).Day.Year,.int .i64 (atS n t).Day.Month,.int .i64 (atS n t).Day.Date,.int .i64 (atS n t).Hour,.int .i64 (atS n t).Min,.int .i64 (atS n t).Sec,blB (atS n t).Bare,blB (atS n t).UTC]⟩
noncomputable def cwa (a:List (SV U)):Option (Q1 U):=match a with | [.int .i64 n,.agg l_t]=>(y25.bk (.agg l_t)).bind fun t=>some (e3k n t) | _=>none
theorem d9r (args:List (SV U)) (q:Q1 U) (h:cwa args=some q) (ho:m6 q.ob):l8 Nws 36 args ⟨q.ob,q.hy,q.v,[]⟩:=by
 unfold cwa at h
 split at h
 . rename_i n l_t
   obtain ⟨t,hb_t,h⟩:=Option.bind_eq_some_iff.1 h
   cases h
   refine l8.conv (E:=Nws) (args':=[.int .i64 n,.agg [.int .i64 t.Day.Year,.int .i64 t.Day.Month,.int .i64 t.Day.Date,.int .i64 t.Hour,.int .i64 t.Min,.int .i64 t.Sec,blB t.Bare,blB t.UTC]]) (s8 b3w (j8 b3w q8 c34 2) Tryz.func36 (k:=.val 25) ⟨_,_,rfl,rfl,rfl⟩ (d5k (pwa n t ho.1)) 0) fun D w vs hr=>z8 [.int .i64 n,.agg l_t] [.int .i64 n,.agg [.int .i64 t.Day.Year,.int .i64 t.Day.Month,.int .i64 t.Day.Date,.int .i64 t.Hour,.int .i64 t.Min,.int .i64 t.Sec,blB t.Bare,blB t.UTC]] _ ⟨fun _ h=>h,fun _ h=>A0 hb_t h,trivial⟩ hr
 . cases h
noncomputable def Nwa:Env:=Nws.addL 36 cwa
theorem b42:l5 Nwa:=b3w.addL Tryz.call36 d9r
def c2u:Nat->Ann:=fun | 97=>⟨16,fun _=>none,fun _=>none⟩ | _=>⟨0,fun _=>none,fun _=>none⟩
def Vry (y:Int) (Q:Int->Prop):Prop :=
(400:Int)≠0/\(¬y.tmod (400:Int)=0->(4:Int)≠0)/\(¬y.tmod (400:Int)=0/\y.tmod (4:Int)=0->(100:Int)≠0)/\(y.tmod (400:Int)=0 ∨ y.tmod (4:Int)=0/\y.tmod (100:Int)≠0->Q (366:Int))/\(¬(y.tmod (400:Int)=0 ∨ y.tmod (4:Int)=0/\y.tmod (100:Int)≠0)->Q (365:Int))
theorem d3o {y:Int} {Q:Int->Prop}:@Eq Prop (Vry y Q) (i6 (E:=Nwa) (j7 Nwa H0 c2u 2) (c2u 97) Tryz.f97 [.int .i64 y] [] [] 0 (n7 Nwa [.int .i64] Q)):=by kernel_rfl
theorem d6k {y:Int} {Q:Int->Prop} (h:Vry y Q):i6 (E:=Nwa) (j7 Nwa H0 c2u 2) (c2u 97) Tryz.f97 [.int .i64 y] [] [] 0 (n7 Nwa [.int .i64] Q):=by rw [<- d3o]; exact h
theorem pry (y:Int)  : Vry y (fun y0=>y0=a09 y):=by
 unfold Vry a09
 refine ⟨by decide,fun _=>by decide,fun _=>by decide,fun h=>?_,fun h=>?_⟩
 . rw [tm0,tm0,ne_eq,tm0] at h
   rw [if_pos (by omega)]
 . rw [tm0,tm0,ne_eq,tm0] at h
   rw [if_neg (by omega)]
def cry (a:List (SV U)):Option (Q1 U):=match a with | [.int .i64 y]=>some ⟨[],[],.int .i64 (a09 y)⟩ | _=>none
theorem d9u (args:List (SV U)) (q:Q1 U) (h:cry args=some q) (ho:m6 q.ob):l8 Nwa 97 args ⟨q.ob,q.hy,q.v,[]⟩:=by
 unfold cry at h
 split at h
 . rename_i y
   cases h
   exact s8 b42 (j8 b42 q8 c2u 2) Tryz.func97 (k:=.int .i64) (x:=a09 y) trivial (d6k (pry y )) 0
 . cases h
noncomputable def Nry:Env:=Nwa.addL 97 cry
theorem b66:l5 Nry:=b42.addL Tryz.call97 d9u
def c5x:Nat->Ann:=fun | 65=>⟨31,fun _=>none,fun _=>none⟩ | _=>⟨0,fun _=>none,fun _=>none⟩
def Vrl (y:Int) (m:Int) (Q:Int->Prop):Prop :=
(((y<1 ∨ (9999:Int)<y) ∨ m<1) ∨ (12:Int)<m->Q (0:Int))/\(¬(((y<1 ∨ (9999:Int)<y) ∨ m<1) ∨ (12:Int)<m)->(m=2->b8 (a09 y-337)/\Q (a09 y-337))/\(¬m=2->b8 (m-1)/\(0:Int)<=m-1/\m-1<(↑[(31:Int),(28:Int),(31:Int),(30:Int),(31:Int),(30:Int),(31:Int),(31:Int),(30:Int),(31:Int),(30:Int),(31:Int)].length:Int)/\(b8 (ix [(31:Int),(28:Int),(31:Int),(30:Int),(31:Int),(30:Int),(31:Int),(31:Int),(30:Int),(31:Int),(30:Int),(31:Int)] (m-1))->Q (ix [(31:Int),(28:Int),(31:Int),(30:Int),(31:Int),(30:Int),(31:Int),(31:Int),(30:Int),(31:Int),(30:Int),(31:Int)] (m-1)))))
theorem e1q {y:Int} {m:Int} {Q:Int->Prop}:@Eq Prop (Vrl y m Q) (i6 (E:=Nry) (j7 Nry H0 c5x 2) (c5x 65) Tryz.f65 [.int .i64 y,.int .i64 m] [] [] 0 (n7 Nry [.int .i64] Q)):=by kernel_rfl
theorem e0u {y:Int} {m:Int} {Q:Int->Prop} (h:Vrl y m Q):i6 (E:=Nry) (j7 Nry H0 c5x 2) (c5x 65) Tryz.f65 [.int .i64 y,.int .i64 m] [] [] 0 (n7 Nry [.int .i64] Q):=by rw [<- e1q]; exact h
theorem prl (y:Int) (m:Int)  : Vrl y m (fun y0=>y0=u9 y m):=by
 unfold Vrl
 refine ⟨fun h=>?_,fun h=>⟨fun h2=>?_,fun h2=>⟨⟨by omega,by omega⟩,by omega,by show m-1<12; omega,fun _=>?_⟩⟩⟩
 . unfold u9
   by_cases hy:y<1 ∨ 9999<y
   . rw [if_pos hy]
   . rw [if_neg hy,if_neg (by omega),if_neg (by omega),if_neg (by omega)]
 . subst h2
   unfold u9
   rw [if_neg (show ¬ (y<1 ∨ 9999<y) by omega),if_pos rfl]
   unfold a09
   by_cases hl:y % 4=0/\(y % 100≠0 ∨ y % 400=0)
   . rw [if_pos hl,if_pos hl]; exact ⟨⟨by decide,by decide⟩,rfl⟩
   . rw [if_neg hl,if_neg hl]; exact ⟨⟨by decide,by decide⟩,rfl⟩
 . have hm:m=1 ∨ m=3 ∨ m=4 ∨ m=5 ∨ m=6 ∨ m=7 ∨ m=8 ∨ m=9 ∨ m=10 ∨ m=11 ∨ m=12:=by omega
   unfold u9
   rw [if_neg (by omega)]
   rcases hm with rfl | rfl | rfl | rfl | rfl | rfl | rfl | rfl | rfl | rfl | rfl <;> rfl
def crl (a:List (SV U)):Option (Q1 U):=match a with | [.int .i64 y,.int .i64 m]=>some ⟨[],[],.int .i64 (u9 y m)⟩ | _=>none
theorem e16 (args:List (SV U)) (q:Q1 U) (h:crl args=some q) (ho:m6 q.ob):l8 Nry 65 args ⟨q.ob,q.hy,q.v,[]⟩:=by
 unfold crl at h
 split at h
 . rename_i y m
   cases h
   exact s8 b66 (j8 b66 q8 c5x 2) Tryz.func65 (k:=.int .i64) (x:=u9 y m) trivial (e0u (prl y m )) 0
 . cases h
noncomputable def Nrl:Env:=Nry.addL 65 crl
theorem b3h:l5 Nrl:=b66.addL Tryz.call65 e16
def c2w:Nat->Ann:=fun | 64=>⟨18,fun _=>none,fun _=>none⟩ | _=>⟨0,fun _=>none,fun _=>none⟩
def Vra (y:Int) (Q:Int->Prop):Prop :=
b8 (y-1)/\b8 ((365:Int) * (y-1))/\b8 (y-1)/\(4:Int)≠0/\b8 ((y-1).tdiv (4:Int))/\b8 ((365:Int) * (y-1)+(y-1).tdiv (4:Int))/\b8 (y-1)/\(100:Int)≠0/\b8 ((y-1).tdiv (100:Int))/\b8 ((365:Int) * (y-1)+(y-1).tdiv (4:Int)-(y-1).tdiv (100:Int))/\b8 (y-1)/\(400:Int)≠0/\b8 ((y-1).tdiv (400:Int))/\b8 ((365:Int) * (y-1)+(y-1).tdiv (4:Int)-(y-1).tdiv (100:Int)+(y-1).tdiv (400:Int))/\Q ((365:Int) * (y-1)+(y-1).tdiv (4:Int)-(y-1).tdiv (100:Int)+(y-1).tdiv (400:Int))
theorem d5r {y:Int} {Q:Int->Prop}:@Eq Prop (Vra y Q) (i6 (E:=Nrl) (j7 Nrl H0 c2w 2) (c2w 64) Tryz.f64 [.int .i64 y] [] [] 0 (n7 Nrl [.int .i64] Q)):=by kernel_rfl
theorem d4i {y:Int} {Q:Int->Prop} (h:Vra y Q):i6 (E:=Nrl) (j7 Nrl H0 c2w 2) (c2w 64) Tryz.f64 [.int .i64 y] [] [] 0 (n7 Nrl [.int .i64] Q):=by rw [<- d5r]; exact h
theorem pra (y:Int) (y0:1<=y) (y1:y<=100000):Vra y (fun y0=>y0=j4 y):=by
 unfold Vra j4
 have e1:(y-1).tdiv 4=(y-1) / 4:=Int.tdiv_eq_ediv_of_nonneg (by omega)
 have e2:(y-1).tdiv 100=(y-1) / 100:=Int.tdiv_eq_ediv_of_nonneg (by omega)
 have e3:(y-1).tdiv 400=(y-1) / 400:=Int.tdiv_eq_ediv_of_nonneg (by omega)
 rw [e1,e2,e3]
 repeat' apply And.intro
 all_goals first | rfl | omega
def cra (a:List (SV U)):Option (Q1 U):=match a with | [.int .i64 y]=>some ⟨[1<=y,y<=100000],[],.int .i64 (j4 y)⟩ | _=>none
theorem d9x (args:List (SV U)) (q:Q1 U) (h:cra args=some q) (ho:m6 q.ob):l8 Nrl 64 args ⟨q.ob,q.hy,q.v,[]⟩:=by
 unfold cra at h
 split at h
 . rename_i y
   cases h
   exact s8 b3h (j8 b3h q8 c2w 2) Tryz.func64 (k:=.int .i64) (x:=j4 y) trivial (d4i (pra y ho.1 ho.2.1)) 0
 . cases h
noncomputable def Nra:Env:=Nrl.addL 64 cra
theorem b5d:l5 Nra:=b3h.addL Tryz.call64 d9x
def c63:Nat->Ann:=fun | 92=>⟨14,fun _=>none,fun _=>none⟩ | _=>⟨0,fun _=>none,fun _=>none⟩
def Vrw (n:Int) (Q:Int->Prop):Prop :=
(7:Int)≠0/\(n.tmod (7:Int)<0->b8 (n.tmod (7:Int)+7)/\(n.tmod (7:Int)+7=0->Q (6:Int))/\(¬n.tmod (7:Int)+7=0->b8 (n.tmod (7:Int)+7-1)/\Q (n.tmod (7:Int)+7-1)))/\(¬n.tmod (7:Int)<0->(n.tmod (7:Int)=0->Q (6:Int))/\(¬n.tmod (7:Int)=0->b8 (n.tmod (7:Int)-1)/\Q (n.tmod (7:Int)-1)))
theorem d2s {n:Int} {Q:Int->Prop}:@Eq Prop (Vrw n Q) (i6 (E:=Nra) (j7 Nra H0 c63 2) (c63 92) Tryz.f92 [.int .i64 n] [] [] 0 (n7 Nra [.int .i64] Q)):=by kernel_rfl
theorem d4l {n:Int} {Q:Int->Prop} (h:Vrw n Q):i6 (E:=Nra) (j7 Nra H0 c63 2) (c63 92) Tryz.f92 [.int .i64 n] [] [] 0 (n7 Nra [.int .i64] Q):=by rw [<- d2s]; exact h
theorem prw (n:Int)  : Vrw n (fun y0=>y0=wdS n):=by
 unfold Vrw wdS
 have h1:n.tmod 7=n % 7 ∨ n.tmod 7=n % 7-7/\n % 7≠0:=by
  have h1:=Int.tdiv_mul_add_tmod n 7
  have h5:n.tmod 7<7:=Int.tmod_lt_of_pos n (by decide)
  have h6:-7<n.tmod 7:=Int.lt_tmod_of_pos n (by decide)
  omega
 generalize n.tmod 7=r at h1 ⊢
 refine ⟨by decide,fun h=>⟨⟨by omega,by omega⟩,fun _=>by omega,fun _=>⟨⟨by omega,by omega⟩,by omega⟩⟩,fun h=>⟨fun _=>by omega,fun _=>⟨⟨by omega,by omega⟩,by omega⟩⟩⟩
def crw (a:List (SV U)):Option (Q1 U):=match a with | [.int .i64 n]=>some ⟨[],[],.int .i64 (wdS n)⟩ | _=>none
theorem d6b (args:List (SV U)) (q:Q1 U) (h:crw args=some q) (ho:m6 q.ob):l8 Nra 92 args ⟨q.ob,q.hy,q.v,[]⟩:=by
 unfold crw at h
 split at h
 . rename_i n
   cases h
   exact s8 b5d (j8 b5d q8 c63 2) Tryz.func92 (k:=.int .i64) (x:=wdS n) trivial (d4l (prw n )) 0
 . cases h
noncomputable def Nrw:Env:=Nra.addL 92 crw
theorem b4o:l5 Nrw:=b5d.addL Tryz.call92 d6b
def c28:Nat->Ann:=fun | 42=>⟨16,fun _=>none,fun _=>none⟩ | _=>⟨0,fun _=>none,fun _=>none⟩
def Vrr (d:Dy) (Q:Bool->Prop):Prop :=
Q (decide ((1:Int)<=d.Date/\d.Date<=u9 d.Year d.Month))
theorem d4v {d:Dy} {Q:Bool->Prop}:@Eq Prop (Vrr d Q) (i6 (E:=Nrw) (j7 Nrw H0 c28 2) (c28 42) Tryz.f42 [.agg [.int .i64 d.Year,.int .i64 d.Month,.int .i64 d.Date]] [] [] 0 (n7 Nrw [.bool] Q)):=by kernel_rfl
theorem d3x {d:Dy} {Q:Bool->Prop} (h:Vrr d Q):i6 (E:=Nrw) (j7 Nrw H0 c28 2) (c28 42) Tryz.f42 [.agg [.int .i64 d.Year,.int .i64 d.Month,.int .i64 d.Date]] [] [] 0 (n7 Nrw [.bool] Q):=by rw [<- d4v]; exact h
theorem prr (d:Dy)  : Vrr d (fun y0=>y0=E3 d):=by
 unfold Vrr
 rfl
def e3x (d:Dy):Q1 U:=⟨[],[],blB (E3 d)⟩
def crr (a:List (SV U)):Option (Q1 U):=match a with | [.agg [.int .i64 d0,.int .i64 d1,.int .i64 d2]]=>some (e3x (⟨d0,d1,d2⟩)) | _=>none
theorem d7o (args:List (SV U)) (q:Q1 U) (h:crr args=some q) (ho:m6 q.ob):l8 Nrw 42 args ⟨q.ob,q.hy,q.v,[]⟩:=by
 unfold crr at h
 split at h
 . rename_i d0 d1 d2
   cases h
   exact s8 b4o (j8 b4o q8 c28 2) Tryz.func42 (k:=.bool) (x:=E3 (⟨d0,d1,d2⟩:Dy)) trivial (d3x (prr (⟨d0,d1,d2⟩) )) 0
 . cases h
noncomputable def Nrr:Env:=Nrw.addL 42 crr
theorem b5i:l5 Nrr:=b4o.addL Tryz.call42 d7o
def c3f:Nat->Ann:=fun | 39=>⟨27,fun | 5=>some ⟨[1],[.slot 3 (.int .i64),.slot 4 (.int .i64)]⟩ | _=>none,fun _=>none⟩ | _=>⟨0,fun _=>none,fun _=>none⟩
def Vrn (d:Dy) (Q:Int->Prop):Prop :=
(¬E3 (Dy.mk d.Year d.Month d.Date)=true->Q (0:Int))/\(¬¬E3 (Dy.mk d.Year d.Month d.Date)=true->((1:Int)<=d.Year/\d.Year<=100000)/\b8 (j4 d.Year+d.Date)/\∃ (I:Int->Int->Prop),∃ (m:Int->Int->Nat),I (j4 d.Year+d.Date) (1:Int)/\∀ (x x_1:Int),I x x_1->(x_1<d.Month->b8 (x+u9 d.Year x_1)/\b8 (x_1+1)/\I (x+u9 d.Year x_1) (x_1+1)/\m (x+u9 d.Year x_1) (x_1+1)<m x x_1)/\(¬x_1<d.Month->Q x))
theorem d0y {d:Dy} {Q:Int->Prop}:@Eq Prop (Vrn d Q) (i6 (E:=Nrr) (j7 Nrr H0 c3f 2) (c3f 39) Tryz.f39 [.agg [.int .i64 d.Year,.int .i64 d.Month,.int .i64 d.Date]] [] [] 0 (n7 Nrr [.int .i64] Q)):=by kernel_rfl
theorem d7k {d:Dy} {Q:Int->Prop} (h:Vrn d Q):i6 (E:=Nrr) (j7 Nrr H0 c3f 2) (c3f 39) Tryz.f39 [.agg [.int .i64 d.Year,.int .i64 d.Month,.int .i64 d.Date]] [] [] 0 (n7 Nrr [.int .i64] Q):=by rw [<- d0y]; exact h
theorem prn (d:Dy)  : Vrn d (fun y0=>y0=p7 d):=by
 unfold Vrn
 have ed:(Dy.mk d.Year d.Month d.Date)=d:=rfl
 rw [ed]
 refine ⟨fun h=>by unfold p7; rw [if_neg (fun hr=>h (D4.2 hr))],fun h=>?_⟩
 have hr:A9 d:=D4.1 (Classical.not_not.1 h)
 obtain ⟨y0,y1,m0,m1,d0,d1⟩:=hr.ym
 obtain ⟨a0,a1⟩:=A8 (y:=d.Year) (by omega) (by omega)
 refine ⟨⟨y0,by omega⟩,⟨by omega,by omega⟩,fun x k=>1<=k/\k<=d.Month/\x=j4 d.Year+d.Date+G7 d.Year k,fun _ k=>(13-k).toNat,⟨Int.le_refl 1,m0,by rw [d0s]; omega⟩,?_⟩
 rintro x k ⟨k0,k1,hx⟩
 refine ⟨fun hk=>?_,fun hk=>?_⟩
 . have hc:=a7c (y:=d.Year) k0 (by omega) y0 y1 (by omega)
   obtain ⟨c0,c1⟩:=a9s d.Year k
   obtain ⟨c2,c3⟩:=a9s d.Year (k+1)
   exact ⟨⟨by omega,by omega⟩,⟨by omega,by omega⟩,⟨by omega,by omega,by omega⟩,by dsimp only; omega⟩
 . have e:k=d.Month:=by omega
   subst e
   unfold p7 F6
   rw [if_pos hr]; omega
def e49 (d:Dy):Q1 U:=⟨[],[],.int .i64 (p7 d)⟩
def crn (a:List (SV U)):Option (Q1 U):=match a with | [.agg [.int .i64 d0,.int .i64 d1,.int .i64 d2]]=>some (e49 (⟨d0,d1,d2⟩)) | _=>none
theorem d3d (args:List (SV U)) (q:Q1 U) (h:crn args=some q) (ho:m6 q.ob):l8 Nrr 39 args ⟨q.ob,q.hy,q.v,[]⟩:=by
 unfold crn at h
 split at h
 . rename_i d0 d1 d2
   cases h
   exact s8 b5i (j8 b5i q8 c3f 2) Tryz.func39 (k:=.int .i64) (x:=p7 (⟨d0,d1,d2⟩:Dy)) trivial (d7k (prn (⟨d0,d1,d2⟩) )) 0
 . cases h
noncomputable def Nrn:Env:=Nrr.addL 39 crn
theorem b6f:l5 Nrn:=b5i.addL Tryz.call39 d3d
def c53:Nat->Ann:=fun | 88=>⟨12,fun _=>none,fun _=>none⟩ | _=>⟨0,fun _=>none,fun _=>none⟩
def Vrd (d:Dy) (Q:Int->Prop):Prop :=
(¬E3 (Dy.mk d.Year d.Month d.Date)=true->Q (0:Int))/\(¬¬E3 (Dy.mk d.Year d.Month d.Date)=true->((1:Int)<=d.Year/\d.Year<=100000)/\b8 (p7 (Dy.mk d.Year d.Month d.Date)-j4 d.Year)/\Q (p7 (Dy.mk d.Year d.Month d.Date)-j4 d.Year))
theorem d7s {d:Dy} {Q:Int->Prop}:@Eq Prop (Vrd d Q) (i6 (E:=Nrn) (j7 Nrn H0 c53 2) (c53 88) Tryz.f88 [.agg [.int .i64 d.Year,.int .i64 d.Month,.int .i64 d.Date]] [] [] 0 (n7 Nrn [.int .i64] Q)):=by kernel_rfl
theorem d1u {d:Dy} {Q:Int->Prop} (h:Vrd d Q):i6 (E:=Nrn) (j7 Nrn H0 c53 2) (c53 88) Tryz.f88 [.agg [.int .i64 d.Year,.int .i64 d.Month,.int .i64 d.Date]] [] [] 0 (n7 Nrn [.int .i64] Q):=by rw [<- d7s]; exact h
theorem prd (d:Dy)  : Vrd d (fun y0=>y0=ydS d):=by
 unfold Vrd
 have ed:(Dy.mk d.Year d.Month d.Date)=d:=rfl
 rw [ed]
 refine ⟨fun h=>by unfold ydS; rw [if_neg (fun hr=>h (D4.2 hr))],fun h=>?_⟩
 have hr:A9 d:=D4.1 (Classical.not_not.1 h)
 obtain ⟨y0,y1,m0,m1,d0,d1⟩:=hr.ym
 obtain ⟨a0,a1⟩:=A8 (y:=d.Year) (by omega) (by omega)
 obtain ⟨n0,n1⟩:=S5 hr
 unfold ydS p7
 rw [if_pos hr,if_pos hr]
 exact ⟨⟨y0,by omega⟩,⟨by omega,by omega⟩,rfl⟩
def e4k (d:Dy):Q1 U:=⟨[],[],.int .i64 (ydS d)⟩
def crd (a:List (SV U)):Option (Q1 U):=match a with | [.agg [.int .i64 d0,.int .i64 d1,.int .i64 d2]]=>some (e4k (⟨d0,d1,d2⟩)) | _=>none
theorem d1d (args:List (SV U)) (q:Q1 U) (h:crd args=some q) (ho:m6 q.ob):l8 Nrn 88 args ⟨q.ob,q.hy,q.v,[]⟩:=by
 unfold crd at h
 split at h
 . rename_i d0 d1 d2
   cases h
   exact s8 b6f (j8 b6f q8 c53 2) Tryz.func88 (k:=.int .i64) (x:=ydS (⟨d0,d1,d2⟩:Dy)) trivial (d1u (prd (⟨d0,d1,d2⟩) )) 0
 . cases h
noncomputable def Nrd:Env:=Nrn.addL 88 crd
theorem b5p:l5 Nrd:=b6f.addL Tryz.call88 d1d
def c0w:Nat->Ann:=fun | 109=>⟨8,fun _=>none,fun _=>none⟩ | _=>⟨0,fun _=>none,fun _=>none⟩
def Vrf (y:Int) (Q:Int->Prop):Prop :=
(y=0->Q (-365:Int))/\(¬y=0->(1:Int)<=y/\y<=100000/\b8 (j4 y+1)/\Q (j4 y+1))
theorem d8h {y:Int} {Q:Int->Prop}:@Eq Prop (Vrf y Q) (i6 (E:=Nrd) (j7 Nrd H0 c0w 2) (c0w 109) Tryz.f109 [.int .i64 y] [] [] 0 (n7 Nrd [.int .i64] Q)):=by kernel_rfl
theorem d6h {y:Int} {Q:Int->Prop} (h:Vrf y Q):i6 (E:=Nrd) (j7 Nrd H0 c0w 2) (c0w 109) Tryz.f109 [.int .i64 y] [] [] 0 (n7 Nrd [.int .i64] Q):=by rw [<- d8h]; exact h
theorem prf (y:Int) (y0:0<=y) (y1:y<=10000):Vrf y (fun y0=>y0=j4 y+1):=by
 unfold Vrf
 obtain ⟨a0,a1⟩:=A8 y0 y1
 refine ⟨fun h=>by subst h; decide,fun h=>⟨by omega,by omega,⟨by omega,by omega⟩,rfl⟩⟩
def crf (a:List (SV U)):Option (Q1 U):=match a with | [.int .i64 y]=>some ⟨[0<=y,y<=10000],[],.int .i64 (j4 y+1)⟩ | _=>none
theorem d1i (args:List (SV U)) (q:Q1 U) (h:crf args=some q) (ho:m6 q.ob):l8 Nrd 109 args ⟨q.ob,q.hy,q.v,[]⟩:=by
 unfold crf at h
 split at h
 . rename_i y
   cases h
   exact s8 b5p (j8 b5p q8 c0w 2) Tryz.func109 (k:=.int .i64) (x:=j4 y+1) trivial (d6h (prf y ho.1 ho.2.1)) 0
 . cases h
noncomputable def Nrf:Env:=Nrd.addL 109 crf
theorem b53:l5 Nrf:=b5p.addL Tryz.call109 d1i
def c52:Nat->Ann:=fun | 43=>⟨49,fun | 7=>some ⟨[2,3,4],[.own 4 [(.int .i64),(.int .i64),(.int .i64)]]⟩ | 4=>some ⟨[0,2],[.slot 3 (.int .i64)]⟩ | _=>none,fun _=>none⟩ | _=>⟨0,fun _=>none,fun _=>none⟩
def Vro (n:Int) (Q:Dy->Prop):Prop :=
(n<1 ∨ (3652059:Int)<n->Q (Dy.mk (0:Int) (0:Int) (0:Int)))/\(¬(n<1 ∨ (3652059:Int)<n)->b8 (n-1)/\(366:Int)≠0/\b8 ((n-1).tdiv (366:Int))/\b8 ((1:Int)+(n-1).tdiv (366:Int))/\∃ (I:Int->Prop),∃ (m:Int->Nat),I ((1:Int)+(n-1).tdiv (366:Int))/\∀ (x:Int),I x->b8 (x+1)/\(1:Int)<=x+1/\x+1<=100000/\(j4 (x+1)<n->b8 (x+1)/\I (x+1)/\m (x+1)<m x)/\(¬j4 (x+1)<n->(1:Int)<=x/\x<=100000/\b8 (n-j4 x)/\∃ (I:Int->Int->Int->Prop),∃ (m:Int->Int->Int->Nat),I x (1:Int) (n-j4 x)/\∀ (x_1 x_2 x_3:Int),I x_1 x_2 x_3->(u9 x x_2<x_3->b8 (x_3-u9 x x_2)/\b8 (x_2+1)/\I x_1 (x_2+1) (x_3-u9 x x_2)/\m x_1 (x_2+1) (x_3-u9 x x_2)<m x_1 x_2 x_3)/\(¬u9 x x_2<x_3->Q (Dy.mk x_1 x_2 x_3))))
theorem d9e {n:Int} {Q:Dy->Prop}:@Eq Prop (Vro n Q) (i6 (E:=Nrf) (j7 Nrf H0 c52 2) (c52 43) Tryz.f43 [.int .i64 n] [] [] 0 (n7 Nrf [.val 23] Q)):=by kernel_rfl
theorem d6s {n:Int} {Q:Dy->Prop} (h:Vro n Q):i6 (E:=Nrf) (j7 Nrf H0 c52 2) (c52 43) Tryz.f43 [.int .i64 n] [] [] 0 (n7 Nrf [.val 23] Q):=by rw [<- d9e]; exact h
set_option maxHeartbeats 2000000 in
theorem pro (n:Int)  : Vro n (fun y0=>y0=ofS n):=by
 unfold Vro
 refine ⟨fun h=>by unfold ofS; rw [if_pos h],fun h=>?_⟩
 have t:(n-1).tdiv 366=(n-1) / 366:=Int.tdiv_eq_ediv_of_nonneg (by omega)
 rw [t]
 have h366:=b9x (y:=1+(n-1) / 366) (by omega)
 refine ⟨⟨by omega,by omega⟩,by decide,⟨by omega,by omega⟩,⟨by omega,by omega⟩,fun y=>1<=y/\y<=9999/\j4 y<n,fun y=>(10000-y).toNat,⟨by omega,by omega,by omega⟩,?_⟩
 rintro y ⟨y0,y1,hy⟩
 obtain ⟨a0,a1⟩:=A8 (y:=y) (by omega) (by omega)
 have e4:j4 10000=3652059:=by decide
 refine ⟨⟨by omega,by omega⟩,by omega,by omega,fun h2=>⟨⟨by omega,by omega⟩,⟨by omega,?_,h2⟩,by dsimp only; omega⟩,fun h2=>⟨y0,by omega,⟨by omega,by omega⟩,fun y' m t=>y'=y/\1<=m/\m<=12/\t=n-j4 y-G7 y m/\1<=t,fun _ m _=>(13-m).toNat,⟨rfl,Int.le_refl 1,by decide,by rw [d0s]; omega,by omega⟩,?_⟩⟩
 . by_cases e:y=9999
   . subst e
     have e5:j4 (9999+1)=3652059:=by decide
     omega
   . omega
 rintro y' m t ⟨rfl,m0,m1,ht,t0⟩
 have hs:=b22 y'
 have hg:=a3h y0 y1 m0 m1
 obtain ⟨c0,c1⟩:=a9s y' m
 refine ⟨fun h3=>?_,fun h3=>?_⟩
 . by_cases e:m=12
   . subst e
     rcases a10 y0 y1 m0 m1 with e2 | ⟨_,e2⟩
     . unfold G7 at e2; simp at e2; omega
     . omega
   . have hc:=a7c (y:=y') m0 (by omega) y0 y1 (by omega)
     exact ⟨⟨by omega,by omega⟩,⟨by omega,by omega⟩,⟨rfl,by omega,by omega,by omega,by omega⟩,by dsimp only; omega⟩
 . refine of_eq (d:=⟨y',m,t⟩) ⟨t0,show t<=u9 y' m by omega⟩ ?_ (by omega) (by omega)
   show j4 y'+G7 y' m+t=n
   omega
def cro (a:List (SV U)):Option (Q1 U):=match a with | [.int .i64 n]=>some ⟨[],[],.agg [.int .i64 (ofS n).Year,.int .i64 (ofS n).Month,.int .i64 (ofS n).Date]⟩ | _=>none
theorem d1j (args:List (SV U)) (q:Q1 U) (h:cro args=some q) (ho:m6 q.ob):l8 Nrf 43 args ⟨q.ob,q.hy,q.v,[]⟩:=by
 unfold cro at h
 split at h
 . rename_i n
   cases h
   exact s8 b53 (j8 b53 q8 c52 2) Tryz.func43 (k:=.val 23) (x:=ofS n) ⟨_,_,rfl,rfl,rfl⟩ (d6s (pro n )) 0
 . cases h
noncomputable def Nro:Env:=Nrf.addL 43 cro
theorem e0f:l5 Nro:=b53.addL Tryz.call43 d1j
noncomputable def a19:Env:=Nro.addI 108 Tryz.f108
theorem a43:l5 a19:=e0f.addI Tryz.call108 Tryz.func108
def c4k:Nat->Ann:=fun | 89=>⟨48,fun _=>none,fun _=>none⟩ | 108=>⟨14,fun _=>none,fun _=>none⟩ | _=>⟨0,fun _=>none,fun _=>none⟩
def Vrk (n:Int) (f:Int) (Q:Int->Int->Prop):Prop :=
(((n<1 ∨ (3652059:Int)<n) ∨ f<0) ∨ (6:Int)<f->Q (0:Int) (0:Int))/\(¬(((n<1 ∨ (3652059:Int)<n) ∨ f<0) ∨ (6:Int)<f)->b8 (wdS n-f)/\b8 (wdS n-f+7)/\(7:Int)≠0/\b8 (n-(wdS n-f+7).tmod (7:Int))/\b8 (n-(wdS n-f+7).tmod (7:Int)+3)/\(0:Int)<=(ofS n).Year/\(ofS n).Year<=10000/\(n-(wdS n-f+7).tmod (7:Int)+3<j4 (ofS n).Year+1->b8 ((ofS n).Year-1)/\b8 ((ofS n).Year-1+1)/\(0:Int)<=(ofS n).Year-1+1/\(ofS n).Year-1+1<=10000/\(j4 ((ofS n).Year-1+1)+1<=n-(wdS n-f+7).tmod (7:Int)+3->b8 ((ofS n).Year-1+1)/\(0:Int)<=(ofS n).Year-1+1/\(ofS n).Year-1+1<=10000/\b8 (n-(wdS n-f+7).tmod (7:Int)+3-(j4 ((ofS n).Year-1+1)+1))/\(7:Int)≠0/\b8 ((n-(wdS n-f+7).tmod (7:Int)+3-(j4 ((ofS n).Year-1+1)+1)).tdiv (7:Int))/\b8 ((n-(wdS n-f+7).tmod (7:Int)+3-(j4 ((ofS n).Year-1+1)+1)).tdiv (7:Int)+1)/\Q ((ofS n).Year-1+1) ((n-(wdS n-f+7).tmod (7:Int)+3-(j4 ((ofS n).Year-1+1)+1)).tdiv (7:Int)+1))/\(¬j4 ((ofS n).Year-1+1)+1<=n-(wdS n-f+7).tmod (7:Int)+3->(0:Int)<=(ofS n).Year-1/\(ofS n).Year-1<=10000/\b8 (n-(wdS n-f+7).tmod (7:Int)+3-(j4 ((ofS n).Year-1)+1))/\(7:Int)≠0/\b8 ((n-(wdS n-f+7).tmod (7:Int)+3-(j4 ((ofS n).Year-1)+1)).tdiv (7:Int))/\b8 ((n-(wdS n-f+7).tmod (7:Int)+3-(j4 ((ofS n).Year-1)+1)).tdiv (7:Int)+1)/\Q ((ofS n).Year-1) ((n-(wdS n-f+7).tmod (7:Int)+3-(j4 ((ofS n).Year-1)+1)).tdiv (7:Int)+1)))/\(¬n-(wdS n-f+7).tmod (7:Int)+3<j4 (ofS n).Year+1->b8 ((ofS n).Year+1)/\(0:Int)<=(ofS n).Year+1/\(ofS n).Year+1<=10000/\(j4 ((ofS n).Year+1)+1<=n-(wdS n-f+7).tmod (7:Int)+3->b8 ((ofS n).Year+1)/\(0:Int)<=(ofS n).Year+1/\(ofS n).Year+1<=10000/\b8 (n-(wdS n-f+7).tmod (7:Int)+3-(j4 ((ofS n).Year+1)+1))/\(7:Int)≠0/\b8 ((n-(wdS n-f+7).tmod (7:Int)+3-(j4 ((ofS n).Year+1)+1)).tdiv (7:Int))/\b8 ((n-(wdS n-f+7).tmod (7:Int)+3-(j4 ((ofS n).Year+1)+1)).tdiv (7:Int)+1)/\Q ((ofS n).Year+1) ((n-(wdS n-f+7).tmod (7:Int)+3-(j4 ((ofS n).Year+1)+1)).tdiv (7:Int)+1))/\(¬j4 ((ofS n).Year+1)+1<=n-(wdS n-f+7).tmod (7:Int)+3->(0:Int)<=(ofS n).Year/\(ofS n).Year<=10000/\b8 (n-(wdS n-f+7).tmod (7:Int)+3-(j4 (ofS n).Year+1))/\(7:Int)≠0/\b8 ((n-(wdS n-f+7).tmod (7:Int)+3-(j4 (ofS n).Year+1)).tdiv (7:Int))/\b8 ((n-(wdS n-f+7).tmod (7:Int)+3-(j4 (ofS n).Year+1)).tdiv (7:Int)+1)/\Q (ofS n).Year ((n-(wdS n-f+7).tmod (7:Int)+3-(j4 (ofS n).Year+1)).tdiv (7:Int)+1))))
theorem e0j {n:Int} {f:Int} {Q:Int->Int->Prop}:@Eq Prop (Vrk n f Q) (i6 (E:=a19) (j7 a19 H0 c4k 2) (c4k 89) Tryz.f89 [.int .i64 n,.int .i64 f] [] [] 0 (n7 a19 [.int .i64,.int .i64] Q)):=by kernel_rfl
theorem d2v {n:Int} {f:Int} {Q:Int->Int->Prop} (h:Vrk n f Q):i6 (E:=a19) (j7 a19 H0 c4k 2) (c4k 89) Tryz.f89 [.int .i64 n,.int .i64 f] [] [] 0 (n7 a19 [.int .i64,.int .i64] Q):=by rw [<- e0j]; exact h
set_option maxHeartbeats 2000000 in
theorem prk (n:Int) (f:Int)  : Vrk n f (fun y0 y1=>y0=(B9 n f).1/\y1=(B9 n f).2):=by
 unfold Vrk B9
 refine ⟨fun h=>by rw [if_pos h]; exact ⟨rfl,rfl⟩,fun h=>?_⟩
 rw [if_neg h]
 obtain ⟨hr,hn⟩:=T0 (n:=n) (by omega) (by omega)
 obtain ⟨y0,y1,_⟩:=hr.ym
 have hi:=V3 hr
 rw [hn] at hi
 unfold wkY
 generalize (ofS n).Year=y at *
 have f0:0<=f:=by omega
 have f1:f<=6:=by omega
 obtain ⟨u1,v1⟩:=a8p n (y+1) f0 f1
 obtain ⟨u2,v2⟩:=a8p n y f0 f1
 obtain ⟨u3,v3⟩:=a8p n (y-1) f0 f1
 obtain ⟨q0,q1⟩:=K3 (y+1) f
 obtain ⟨q2,q3⟩:=K3 y f
 obtain ⟨q4,q5⟩:=K3 (y-1) f
 obtain ⟨r0,r1⟩:=A8 (y:=y+1) (by omega) (by omega)
 obtain ⟨r2,r3⟩:=A8 (y:=y) (by omega) (by omega)
 obtain ⟨r4,r5⟩:=A8 (y:=y-1) (by omega) (by omega)
 have hs:=I4 (y-1)
 have hs3:=I4 y
 have ey:y-1+1=y:=by omega
 rw [ey] at hs ⊢
 have hs2:j4 (y-1)+365<=j4 y:=by split at hs <;> omega
 have hs4:j4 y+365<=j4 (y+1):=by split at hs3 <;> omega
 have w0:0<=wdS n/\wdS n<=6:=by unfold wdS; omega
 have tt:(wdS n-f+7).tmod 7=(wdS n-f+7) % 7:=Int.tmod_eq_emod_of_nonneg (by omega)
 rw [tt]
 have hm:0<=(wdS n-f+7) % 7/\(wdS n-f+7) % 7<=6:=by omega
 generalize (wdS n-f+7) % 7=r at *
 refine ⟨⟨by omega,by omega⟩,⟨by omega,by omega⟩,by decide,⟨by omega,by omega⟩,⟨by omega,by omega⟩,by omega,by omega,fun h1=>?_,fun h1=>?_⟩
 . refine ⟨⟨by omega,by omega⟩,⟨by omega,by omega⟩,by omega,by omega,fun h2=>absurd h2 (by omega),fun _=>?_⟩
   have c1:¬ w5 (y+1) f<=n:=by omega
   have c2:n<w5 y f:=by omega
   have c3:w5 (y-1) f<=n:=by omega
   have t:(n-r+3-(j4 (y-1)+1)).tdiv 7=(n-r+3-(j4 (y-1)+1)) / 7:=Int.tdiv_eq_ediv_of_nonneg (by omega)
   rw [if_neg c1,if_pos c2,t,v3 c3]
   exact ⟨by omega,by omega,⟨by omega,by omega⟩,by decide,⟨by omega,by omega⟩,⟨by omega,by omega⟩,rfl,rfl⟩
 . refine ⟨⟨by omega,by omega⟩,by omega,by omega,fun h2=>?_,fun h2=>?_⟩
   . have c1:w5 (y+1) f<=n:=by omega
     have t:(n-r+3-(j4 (y+1)+1)).tdiv 7=(n-r+3-(j4 (y+1)+1)) / 7:=Int.tdiv_eq_ediv_of_nonneg (by omega)
     rw [if_pos c1,t,v1 c1]
     exact ⟨⟨by omega,by omega⟩,by omega,by omega,⟨by omega,by omega⟩,by decide,⟨by omega,by omega⟩,⟨by omega,by omega⟩,rfl,rfl⟩
   . have c1:¬ w5 (y+1) f<=n:=by omega
     have c2:¬ n<w5 y f:=by omega
     have t:(n-r+3-(j4 y+1)).tdiv 7=(n-r+3-(j4 y+1)) / 7:=Int.tdiv_eq_ediv_of_nonneg (by omega)
     rw [if_neg c1,if_neg c2,t,v2 (by omega)]
     exact ⟨by omega,by omega,⟨by omega,by omega⟩,by decide,⟨by omega,by omega⟩,⟨by omega,by omega⟩,rfl,rfl⟩
def crk (a:List (SV U)):Option (Q1 U):=match a with | [.int .i64 n,.int .i64 f]=>some ⟨[],[],.tup [.int .i64 ((B9 n f).1),.int .i64 ((B9 n f).2)]⟩ | _=>none
theorem d1f (args:List (SV U)) (q:Q1 U) (h:crk args=some q) (ho:m6 q.ob):l8 a19 89 args ⟨q.ob,q.hy,q.v,[]⟩:=by
 unfold crk at h
 split at h
 . rename_i n f
   cases h
   exact d05 a43 (j8 a43 q8 c4k 2) Tryz.func89 (k1:=.int .i64) (k2:=.int .i64) (x1:=(B9 n f).1) (x2:=(B9 n f).2) trivial trivial (d2v (prk n f )) 0
 . cases h
noncomputable def Nrk:Env:=a19.addL 89 crk
theorem b6e:l5 Nrk:=a43.addL Tryz.call89 d1f
def c2p:Nat->Ann:=fun | 90=>⟨40,fun | 5=>some ⟨[0,1],[.slot 5 (.int .i64),.slot 6 (.int .i64)]⟩ | _=>none,fun _=>none⟩ | _=>⟨0,fun _=>none,fun _=>none⟩
def Vrm (y:Int) (f:Int) (Q:Int->Prop):Prop :=
(((y<1 ∨ (9999:Int)<y) ∨ f<0) ∨ (6:Int)<f->Q (0:Int))/\(¬(((y<1 ∨ (9999:Int)<y) ∨ f<0) ∨ (6:Int)<f)->(0:Int)<=y/\y<=10000/\∃ (I:Int->Int->Prop),∃ (m:Int->Int->Nat),I (0:Int) (j4 y+1)/\∀ (x x_1:Int),I x x_1->b8 (y+1)/\(0:Int)<=y+1/\y+1<=10000/\(x_1<j4 (y+1)+1->b8 (wdS x_1-f)/\b8 (wdS x_1-f+7)/\(7:Int)≠0/\((wdS x_1-f+7).tmod (7:Int)=3->b8 (x+1)/\b8 (x_1+1)/\I (x+1) (x_1+1)/\m (x+1) (x_1+1)<m x x_1)/\(¬(wdS x_1-f+7).tmod (7:Int)=3->b8 (x_1+1)/\I x (x_1+1)/\m x (x_1+1)<m x x_1))/\(¬x_1<j4 (y+1)+1->Q x))
theorem d2r {y:Int} {f:Int} {Q:Int->Prop}:@Eq Prop (Vrm y f Q) (i6 (E:=Nrk) (j7 Nrk H0 c2p 2) (c2p 90) Tryz.f90 [.int .i64 y,.int .i64 f] [] [] 0 (n7 Nrk [.int .i64] Q)):=by kernel_rfl
theorem e0b {y:Int} {f:Int} {Q:Int->Prop} (h:Vrm y f Q):i6 (E:=Nrk) (j7 Nrk H0 c2p 2) (c2p 90) Tryz.f90 [.int .i64 y,.int .i64 f] [] [] 0 (n7 Nrk [.int .i64] Q):=by rw [<- d2r]; exact h
set_option maxHeartbeats 2000000 in
theorem prm (y:Int) (f:Int)  : Vrm y f (fun y0=>y0=F9 y f):=by
 unfold Vrm F9
 refine ⟨fun h=>by rw [if_pos h],fun h=>?_⟩
 rw [if_neg h]
 have f0:0<=f:=by omega
 have f1:f<=6:=by omega
 obtain ⟨r0,r1⟩:=A8 (y:=y+1) (by omega) (by omega)
 obtain ⟨r2,r3⟩:=A8 (y:=y) (by omega) (by omega)
 obtain ⟨q2,q3⟩:=K3 y f
 obtain ⟨e1,e2⟩:=b92 y f0 f1
 have hm:=w8 (show y<=y+1 by omega)
 refine ⟨by omega,by omega,fun c x=>j4 y+1<=x/\x<=j4 (y+1)+1/\c=(x-w5 y f+3) / 7,fun _ x=>(j4 (y+1)+1-x).toNat,⟨Int.le_refl _,by omega,e2.symm⟩,?_⟩
 rintro c x ⟨x0,x1,hc⟩
 have hs:=b55 y x f0 f1
 have w0:0<=wdS x/\wdS x<=6:=by unfold wdS; omega
 have tt:(wdS x-f+7).tmod 7=(wdS x-f+7) % 7:=Int.tmod_eq_emod_of_nonneg (by omega)
 rw [tt]
 refine ⟨⟨by omega,by omega⟩,by omega,by omega,fun hx=>⟨⟨by omega,by omega⟩,⟨by omega,by omega⟩,by decide,fun h3=>?_,fun h3=>?_⟩,fun hx=>?_⟩
 . rw [if_pos h3] at hs
   exact ⟨⟨by omega,by omega⟩,⟨by omega,by omega⟩,⟨by omega,by omega,by omega⟩,by dsimp only; omega⟩
 . rw [if_neg h3] at hs
   exact ⟨⟨by omega,by omega⟩,⟨by omega,by omega,by omega⟩,by dsimp only; omega⟩
 . have e:x=j4 (y+1)+1:=by omega
   rw [hc,e,e1]
def crm (a:List (SV U)):Option (Q1 U):=match a with | [.int .i64 y,.int .i64 f]=>some ⟨[],[],.int .i64 (F9 y f)⟩ | _=>none
theorem d3u (args:List (SV U)) (q:Q1 U) (h:crm args=some q) (ho:m6 q.ob):l8 Nrk 90 args ⟨q.ob,q.hy,q.v,[]⟩:=by
 unfold crm at h
 split at h
 . rename_i y f
   cases h
   exact s8 b6e (j8 b6e q8 c2p 2) Tryz.func90 (k:=.int .i64) (x:=F9 y f) trivial (e0b (prm y f )) 0
 . cases h
noncomputable def Nrm:Env:=Nrk.addL 90 crm
theorem e0c:l5 Nrm:=b6e.addL Tryz.call90 d3u
noncomputable def a6d:Env:=Nrm.addI 41 Tryz.f41
theorem a9p:l5 a6d:=e0c.addI Tryz.call41 Tryz.func41
def c2l:Nat->Ann:=fun | 19=>⟨50,fun _=>none,fun _=>none⟩ | 41=>⟨12,fun _=>none,fun _=>none⟩ | _=>⟨0,fun _=>none,fun _=>none⟩
def Vtr (t:Tm) (Q:Bool->Prop):Prop :=
((0:Int)<=t.Hour/\t.Hour<=23->((0:Int)<=t.Min/\t.Min<=59->Q (decide ((E3 (Dy.mk t.Day.Year t.Day.Month t.Day.Date)=true/\(0:Int)<=t.Sec/\t.Sec<=59)/\(¬t.Bare=true ∨ ((t.Hour=0/\t.Min=0)/\t.Sec=0)/\¬t.UTC=true))))/\(¬((0:Int)<=t.Min/\t.Min<=59)->Q (decide ((E3 (Dy.mk t.Day.Year t.Day.Month t.Day.Date)=true/\False)/\(¬t.Bare=true ∨ ((t.Hour=0/\t.Min=0)/\t.Sec=0)/\¬t.UTC=true)))))/\(¬((0:Int)<=t.Hour/\t.Hour<=23)->Q (decide ((E3 (Dy.mk t.Day.Year t.Day.Month t.Day.Date)=true/\False)/\(¬t.Bare=true ∨ ((t.Hour=0/\t.Min=0)/\t.Sec=0)/\¬t.UTC=true))))
theorem d4y {t:Tm} {Q:Bool->Prop}:@Eq Prop (Vtr t Q) (i6 (E:=a6d) (j7 a6d H0 c2l 2) (c2l 19) Tryz.f19 [.agg [.int .i64 t.Day.Year,.int .i64 t.Day.Month,.int .i64 t.Day.Date,.int .i64 t.Hour,.int .i64 t.Min,.int .i64 t.Sec,blB t.Bare,blB t.UTC]] [] [] 0 (n7 a6d [.bool] Q)):=by kernel_rfl
theorem d8j {t:Tm} {Q:Bool->Prop} (h:Vtr t Q):i6 (E:=a6d) (j7 a6d H0 c2l 2) (c2l 19) Tryz.f19 [.agg [.int .i64 t.Day.Year,.int .i64 t.Day.Month,.int .i64 t.Day.Date,.int .i64 t.Hour,.int .i64 t.Min,.int .i64 t.Sec,blB t.Bare,blB t.UTC]] [] [] 0 (n7 a6d [.bool] Q):=by rw [<- d4y]; exact h
theorem ptr (t:Tm)  : Vtr t (fun y0=>y0=q7 t):=by
 unfold Vtr
 have e:(Dy.mk t.Day.Year t.Day.Month t.Day.Date)=t.Day:=rfl
 rw [e]
 have hb:(¬t.Bare=true ∨ ((t.Hour=0/\t.Min=0)/\t.Sec=0)/\¬t.UTC=true)↔¬ (t.Bare=true/\(((t.Hour≠0 ∨ t.Min≠0) ∨ t.Sec≠0) ∨ t.UTC=true)):=by
  by_cases b1:t.Bare=true <;> by_cases b2:t.UTC=true <;> simp [b1,b2] <;> omega
 refine ⟨fun hh=>⟨fun hm=>decide_eq_decide.2 ?_,fun hm=>decide_eq_decide.2 ?_⟩,fun hh=>decide_eq_decide.2 ?_⟩
 . rw [hb,D4]
   exact ⟨fun h=>⟨h.1.1,hh,hm,h.1.2,h.2⟩,fun h=>⟨⟨h.1,h.2.2.2.1⟩,h.2.2.2.2⟩⟩
 . exact ⟨fun h=>h.1.2.elim,fun h=>absurd h.2.2.1 hm⟩
 . exact ⟨fun h=>h.1.2.elim,fun h=>absurd h.2.1 hh⟩
noncomputable def e3n (t:Tm):Q1 U:=⟨[],[],blB (q7 t)⟩
noncomputable def ctr (a:List (SV U)):Option (Q1 U):=match a with | [.agg l_t]=>(y25.bk (.agg l_t)).bind fun t=>some (e3n t) | _=>none
theorem d6y (args:List (SV U)) (q:Q1 U) (h:ctr args=some q) (ho:m6 q.ob):l8 a6d 19 args ⟨q.ob,q.hy,q.v,[]⟩:=by
 unfold ctr at h
 split at h
 . rename_i l_t
   obtain ⟨t,hb_t,h⟩:=Option.bind_eq_some_iff.1 h
   cases h
   refine l8.conv (E:=a6d) (args':=[.agg [.int .i64 t.Day.Year,.int .i64 t.Day.Month,.int .i64 t.Day.Date,.int .i64 t.Hour,.int .i64 t.Min,.int .i64 t.Sec,blB t.Bare,blB t.UTC]]) (s8 a9p (j8 a9p q8 c2l 2) Tryz.func19 (k:=.bool) trivial (d8j (ptr t )) 0) fun D w vs hr=>z8 [.agg l_t] [.agg [.int .i64 t.Day.Year,.int .i64 t.Day.Month,.int .i64 t.Day.Date,.int .i64 t.Hour,.int .i64 t.Min,.int .i64 t.Sec,blB t.Bare,blB t.UTC]] _ ⟨fun _ h=>A0 hb_t h,trivial⟩ hr
 . cases h
noncomputable def Ntr:Env:=a6d.addL 19 ctr
theorem b4d:l5 Ntr:=a9p.addL Tryz.call19 d6y
def c5a:Nat->Ann:=fun | 17=>⟨22,fun _=>none,fun _=>none⟩ | _=>⟨0,fun _=>none,fun _=>none⟩
def Vts (t:Tm) (Q:Int->Prop):Prop :=
(¬q7 (Tm.mk (Dy.mk t.Day.Year t.Day.Month t.Day.Date) t.Hour t.Min t.Sec (decide (t.Bare=true)) (decide (t.UTC=true)))=true->Q (-1:Int))/\(¬¬q7 (Tm.mk (Dy.mk t.Day.Year t.Day.Month t.Day.Date) t.Hour t.Min t.Sec (decide (t.Bare=true)) (decide (t.UTC=true)))=true->b8 (p7 (Dy.mk t.Day.Year t.Day.Month t.Day.Date)-1)/\b8 ((86400:Int) * (p7 (Dy.mk t.Day.Year t.Day.Month t.Day.Date)-1))/\b8 ((3600:Int) * t.Hour)/\b8 ((86400:Int) * (p7 (Dy.mk t.Day.Year t.Day.Month t.Day.Date)-1)+3600 * t.Hour)/\b8 ((60:Int) * t.Min)/\b8 ((86400:Int) * (p7 (Dy.mk t.Day.Year t.Day.Month t.Day.Date)-1)+3600 * t.Hour+60 * t.Min)/\b8 ((86400:Int) * (p7 (Dy.mk t.Day.Year t.Day.Month t.Day.Date)-1)+3600 * t.Hour+60 * t.Min+t.Sec)/\Q ((86400:Int) * (p7 (Dy.mk t.Day.Year t.Day.Month t.Day.Date)-1)+3600 * t.Hour+60 * t.Min+t.Sec))
theorem d1q {t:Tm} {Q:Int->Prop}:@Eq Prop (Vts t Q) (i6 (E:=Ntr) (j7 Ntr H0 c5a 2) (c5a 17) Tryz.f17 [.agg [.int .i64 t.Day.Year,.int .i64 t.Day.Month,.int .i64 t.Day.Date,.int .i64 t.Hour,.int .i64 t.Min,.int .i64 t.Sec,blB t.Bare,blB t.UTC]] [] [] 0 (n7 Ntr [.int .i64] Q)):=by kernel_rfl
theorem d9n {t:Tm} {Q:Int->Prop} (h:Vts t Q):i6 (E:=Ntr) (j7 Ntr H0 c5a 2) (c5a 17) Tryz.f17 [.agg [.int .i64 t.Day.Year,.int .i64 t.Day.Month,.int .i64 t.Day.Date,.int .i64 t.Hour,.int .i64 t.Min,.int .i64 t.Sec,blB t.Bare,blB t.UTC]] [] [] 0 (n7 Ntr [.int .i64] Q):=by rw [<- d1q]; exact h
theorem pts (t:Tm)  : Vts t (fun y0=>y0=i4 t):=by
 unfold Vts i4
 simp only [Bool.decide_eq_true]
 refine ⟨fun h=>by rw [if_neg (fun hr=>h (w9.2 hr))],fun h=>?_⟩
 have hr:W0 t:=w9.1 (Classical.not_not.1 h)
 have hrg:=a0l hr
 rw [if_pos hr]
 obtain ⟨hd,hh,hm,hs,_⟩:=hr
 obtain ⟨n0,n1⟩:=S5 hd
 have en:p7 (Dy.mk t.Day.Year t.Day.Month t.Day.Date)=F6 t.Day:=by
  show p7 t.Day=F6 t.Day
  unfold p7; rw [if_pos hd]
 rw [en]
 unfold a0v at *
 exact ⟨⟨by omega,by omega⟩,⟨by omega,by omega⟩,⟨by omega,by omega⟩,⟨by omega,by omega⟩,⟨by omega,by omega⟩,⟨by omega,by omega⟩,⟨by omega,by omega⟩,by omega⟩
noncomputable def e3y (t:Tm):Q1 U:=⟨[],[],.int .i64 (i4 t)⟩
noncomputable def cts (a:List (SV U)):Option (Q1 U):=match a with | [.agg l_t]=>(y25.bk (.agg l_t)).bind fun t=>some (e3y t) | _=>none
theorem d7q (args:List (SV U)) (q:Q1 U) (h:cts args=some q) (ho:m6 q.ob):l8 Ntr 17 args ⟨q.ob,q.hy,q.v,[]⟩:=by
 unfold cts at h
 split at h
 . rename_i l_t
   obtain ⟨t,hb_t,h⟩:=Option.bind_eq_some_iff.1 h
   cases h
   refine l8.conv (E:=Ntr) (args':=[.agg [.int .i64 t.Day.Year,.int .i64 t.Day.Month,.int .i64 t.Day.Date,.int .i64 t.Hour,.int .i64 t.Min,.int .i64 t.Sec,blB t.Bare,blB t.UTC]]) (s8 b4d (j8 b4d q8 c5a 2) Tryz.func17 (k:=.int .i64) trivial (d9n (pts t )) 0) fun D w vs hr=>z8 [.agg l_t] [.agg [.int .i64 t.Day.Year,.int .i64 t.Day.Month,.int .i64 t.Day.Date,.int .i64 t.Hour,.int .i64 t.Min,.int .i64 t.Sec,blB t.Bare,blB t.UTC]] _ ⟨fun _ h=>A0 hb_t h,trivial⟩ hr
 . cases h
noncomputable def Nts:Env:=Ntr.addL 17 cts
theorem b50:l5 Nts:=b4d.addL Tryz.call17 d7q
def c6j:Nat->Ann:=fun | 20=>⟨35,fun _=>none,fun _=>none⟩ | _=>⟨0,fun _=>none,fun _=>none⟩
def Vta (n:Int) (t:Tm) (Q:Tm->Prop):Prop :=
(n<0 ∨ (315537897600:Int)<=n->Q (Tm.mk (Dy.mk (0:Int) (0:Int) (0:Int)) (0:Int) (0:Int) (0:Int) false false))/\(¬(n<0 ∨ (315537897600:Int)<=n)->((86400:Int)≠0/\b8 (n.tdiv (86400:Int)))/\b8 (n.tdiv (86400:Int)+1)/\(86400:Int)≠0/\((3600:Int)≠0/\b8 ((n.tmod (86400:Int)).tdiv (3600:Int)))/\(3600:Int)≠0/\((60:Int)≠0/\b8 ((n.tmod (3600:Int)).tdiv (60:Int)))/\(60:Int)≠0/\(¬q7 (Tm.mk (Dy.mk (ofS (n.tdiv (86400:Int)+1)).Year (ofS (n.tdiv (86400:Int)+1)).Month (ofS (n.tdiv (86400:Int)+1)).Date) ((n.tmod (86400:Int)).tdiv (3600:Int)) ((n.tmod (3600:Int)).tdiv (60:Int)) (n.tmod (60:Int)) (decide (t.Bare=true)) (decide (t.UTC=true)))=true->Q (Tm.mk (Dy.mk (0:Int) (0:Int) (0:Int)) (0:Int) (0:Int) (0:Int) false false))/\(¬¬q7 (Tm.mk (Dy.mk (ofS (n.tdiv (86400:Int)+1)).Year (ofS (n.tdiv (86400:Int)+1)).Month (ofS (n.tdiv (86400:Int)+1)).Date) ((n.tmod (86400:Int)).tdiv (3600:Int)) ((n.tmod (3600:Int)).tdiv (60:Int)) (n.tmod (60:Int)) (decide (t.Bare=true)) (decide (t.UTC=true)))=true->Q (Tm.mk (Dy.mk (ofS (n.tdiv (86400:Int)+1)).Year (ofS (n.tdiv (86400:Int)+1)).Month (ofS (n.tdiv (86400:Int)+1)).Date) ((n.tmod (86400:Int)).tdiv (3600:Int)) ((n.tmod (3600:Int)).tdiv (60:Int)) (n.tmod (60:Int)) (decide (t.Bare=true)) (decide (t.UTC=true)))))
theorem d4t {n:Int} {t:Tm} {Q:Tm->Prop}:@Eq Prop (Vta n t Q) (i6 (E:=Nts) (j7 Nts H0 c6j 2) (c6j 20) Tryz.f20 [.int .i64 n,.agg [.int .i64 t.Day.Year,.int .i64 t.Day.Month,.int .i64 t.Day.Date,.int .i64 t.Hour,.int .i64 t.Min,.int .i64 t.Sec,blB t.Bare,blB t.UTC]] [] [] 0 (n7 Nts [.val 25] Q)):=by kernel_rfl
theorem d6q {n:Int} {t:Tm} {Q:Tm->Prop} (h:Vta n t Q):i6 (E:=Nts) (j7 Nts H0 c6j 2) (c6j 20) Tryz.f20 [.int .i64 n,.agg [.int .i64 t.Day.Year,.int .i64 t.Day.Month,.int .i64 t.Day.Date,.int .i64 t.Hour,.int .i64 t.Min,.int .i64 t.Sec,blB t.Bare,blB t.UTC]] [] [] 0 (n7 Nts [.val 25] Q):=by rw [<- d4t]; exact h
set_option maxHeartbeats 2000000 in
theorem pta (n:Int) (t:Tm)  : Vta n t (fun y0=>y0=atS n t):=by
 unfold Vta
 simp only [Bool.decide_eq_true]
 refine ⟨fun h=>?_,fun h=>?_⟩
 . unfold atS
   by_cases h0:n<0
   . rw [if_pos (.inl h0)]
   . rw [if_pos (.inr (.inr (by omega)))]
 . have e1:n.tdiv 86400=n / 86400:=Int.tdiv_eq_ediv_of_nonneg (by omega)
   have e2:n.tmod 86400=n % 86400:=Int.tmod_eq_emod_of_nonneg (by omega)
   have e3:(n % 86400).tdiv 3600=n % 86400 / 3600:=Int.tdiv_eq_ediv_of_nonneg (by omega)
   have e4:n.tmod 3600=n % 3600:=Int.tmod_eq_emod_of_nonneg (by omega)
   have e5:(n % 3600).tdiv 60=n % 86400 / 60 % 60:=by rw [Int.tdiv_eq_ediv_of_nonneg (by omega)]; omega
   have e6:n.tmod 60=n % 86400 % 60:=by rw [Int.tmod_eq_emod_of_nonneg (by omega)]; omega
   rw [e1,e2,e3,e4,e5,e6]
   have eD:(Dy.mk (ofS (n / 86400+1)).Year (ofS (n / 86400+1)).Month (ofS (n / 86400+1)).Date)=ofS (n / 86400+1):=rfl
   rw [eD]
   obtain ⟨hr,_⟩:=T0 (n:=n / 86400+1) (by omega) (by omega)
   have hR:q7 ⟨ofS (n / 86400+1),n % 86400 / 3600,n % 86400 / 60 % 60,n % 86400 % 60,t.Bare,t.UTC⟩=true↔¬ (t.Bare=true/\(t.UTC=true ∨ n % 86400≠0)):=by
    rw [w9]
    constructor
    . rintro ⟨_,_,_,_,hb⟩ ⟨b1,b2⟩
      refine hb ⟨b1,?_⟩
      rcases b2 with b2 | b2
      . exact .inr b2
      . left
        show (n % 86400 / 3600≠0 ∨ n % 86400 / 60 % 60≠0) ∨ n % 86400 % 60≠0
        omega
    . intro hb
      refine ⟨hr,⟨by show 0<=n % 86400 / 3600; omega,by show n % 86400 / 3600<=23; omega⟩,⟨by show 0<=n % 86400 / 60 % 60; omega,by show n % 86400 / 60 % 60<=59; omega⟩,⟨by show 0<=n % 86400 % 60; omega,by show n % 86400 % 60<=59; omega⟩,?_⟩
      rintro ⟨b1,b2⟩
      refine hb ⟨b1,?_⟩
      rcases b2 with b2 | b2
      . right
        have b2:(n % 86400 / 3600≠0 ∨ n % 86400 / 60 % 60≠0) ∨ n % 86400 % 60≠0:=b2
        omega
      . exact .inl b2
   refine ⟨⟨by decide,by omega,by omega⟩,⟨by omega,by omega⟩,by decide,⟨by decide,by omega,by omega⟩,by decide,⟨by decide,by omega,by omega⟩,by decide,fun hn=>?_,fun hn=>?_⟩
   . unfold atS
     rw [if_pos (.inr (.inl (Classical.not_not.1 fun hc=>hn (hR.2 hc))))]
   . unfold atS
     rw [if_neg (by rintro (h' | h' | h')
                    . omega
                    . exact hR.1 (Classical.not_not.1 hn) h'
                    . omega)]
noncomputable def e3u (n:Int) (t:Tm):Q1 U:=⟨[],[],.agg [.int .i64 (atS n t).Day.Year,.int .i64 (atS n t).Day.Month,.int .i64 (atS n t).Day.Date,.int .i64 (atS n t).Hour,.int .i64 (atS n t).Min,.int .i64 (atS n t).Sec,blB (atS n t).Bare,blB (atS n t).UTC]⟩
noncomputable def cta (a:List (SV U)):Option (Q1 U):=match a with | [.int .i64 n,.agg l_t]=>(y25.bk (.agg l_t)).bind fun t=>some (e3u n t) | _=>none
theorem d3v (args:List (SV U)) (q:Q1 U) (h:cta args=some q) (ho:m6 q.ob):l8 Nts 20 args ⟨q.ob,q.hy,q.v,[]⟩:=by
 unfold cta at h
 split at h
 . rename_i n l_t
   obtain ⟨t,hb_t,h⟩:=Option.bind_eq_some_iff.1 h
   cases h
   refine l8.conv (E:=Nts) (args':=[.int .i64 n,.agg [.int .i64 t.Day.Year,.int .i64 t.Day.Month,.int .i64 t.Day.Date,.int .i64 t.Hour,.int .i64 t.Min,.int .i64 t.Sec,blB t.Bare,blB t.UTC]]) (s8 b50 (j8 b50 q8 c6j 2) Tryz.func20 (k:=.val 25) ⟨_,_,rfl,rfl,rfl⟩ (d6q (pta n t )) 0) fun D w vs hr=>z8 [.int .i64 n,.agg l_t] [.int .i64 n,.agg [.int .i64 t.Day.Year,.int .i64 t.Day.Month,.int .i64 t.Day.Date,.int .i64 t.Hour,.int .i64 t.Min,.int .i64 t.Sec,blB t.Bare,blB t.UTC]] _ ⟨fun _ h=>h,fun _ h=>A0 hb_t h,trivial⟩ hr
 . cases h
noncomputable def Nta:Env:=Nts.addL 20 cta
theorem b5a:l5 Nta:=b50.addL Tryz.call20 d3v
end Go.Proofs.YtdjfeninmbpflaaGreat
end
section
namespace Go.Re
open Go.Wl
def Z8 (a b:Nt):Prop:=a.Day<b.Day ∨ a.Day=b.Day/\a.N<b.N
instance:∀ a b,Decidable (Z8 a b):=fun _ _=>inferInstanceAs (Decidable (_ ∨ _))
def a5w (a b:Nt):Bool:=decide (Z8 a b)
def D3 (l:List Int):Int:=if (l.length:Int)=0 then 1 else (l.length:Int)
def OkN (lo hi:Int) (b:Bool) (n:Int):Prop:=if (b=true/\n<0)/\-hi<=n then lo<=-n/\-n<=hi else lo<=n/\n<=hi
structure K2 (l:List Int) (lo hi:Int) (b:Bool):Prop where
 ok:∀ i:Int,0<=i->i<l.length->OkN lo hi b (ix l i)
 up:∀ i:Int,0<i->i<l.length->ix l (i-1)<ix l i
 few:(l.length:Int)<=24
open Classical in
noncomputable def l9 (l:List Int) (lo hi:Int) (b:Bool):Bool:=decide (K2 l lo hi b)
open Classical in
theorem a4z {l:List Int} {lo hi:Int} {b:Bool}:l9 l lo hi b=true↔K2 l lo hi b:=by
 unfold l9
 exact decide_eq_true_iff
theorem a3r {l:List Int} {lo hi:Int} {b:Bool} (h:¬ K2 l lo hi b):l9 l lo hi b=false:=by
 cases e:l9 l lo hi b with
 | true=>exact absurd (a4z.1 e) h
 | false=>rfl
theorem a0k {α:Type} [Inhabited α] {l:List α} {i:Int} (h0:0<=i) (h1:i<l.length):ix l i∈l:=by
 have h:i.toNat<l.length:=by omega
 rw [A2 h]
 exact List.getElem_mem h
def b9g (L:List Int):Bool:=L.all fun n=>decide (n<=60)
theorem c6t {L:List Int} (h:∀ j:Int,0<=j->j<L.length->ix L j<=60):b9g L=true:=List.all_eq_true.2 fun n hn=>by
 obtain ⟨k,hk,e⟩:=List.getElem_of_mem hn
 have:=h k (by omega) (by omega)
 rw [A2 (by omega)] at this
 have e:L[(k:Int).toNat]'(by omega)=n:=e
 rw [e] at this
 exact decide_eq_true this
theorem c8v {L:List Int} {j:Int} (h0:0<=j) (h1:j<L.length) (h:60<ix L j):b9g L=false:=by
 cases e:b9g L with
 | false=>rfl
 | true =>
  have:=of_decide_eq_true (List.all_eq_true.1 e _ (a0k h0 h1))
  omega
def C1 (r:Rl):Bool:=b9g [(r.Month.length:Int),r.WeekNo.length,r.YearDay.length,r.MonthDay.length,r.Days.length,r.Hour.length,r.Minute.length,r.Second.length,r.SetPos.length,r.Until.length]
end Go.Re
end
section
namespace Go.Proofs.YtdjfeninmbpflaaGreat
open Go Go.Wk Go.Wl Go.Rx Go.Re 
attribute [local irreducible] i6
def c2z:Nat->Ann:=fun | 76=>⟨24,fun _=>none,fun _=>none⟩ | _=>⟨0,fun _=>none,fun _=>none⟩
def Vql (a:Nt) (b:Nt) (Q:Bool->Prop):Prop :=
Q (decide (a.Day<b.Day ∨ a.Day=b.Day/\a.N<b.N))
theorem d2f {a:Nt} {b:Nt} {Q:Bool->Prop}:@Eq Prop (Vql a b Q) (i6 (E:=Nta) (j7 Nta H0 c2z 2) (c2z 76) Tryz.f76 [.agg [.int .i64 a.N,.int .i64 a.Day],.agg [.int .i64 b.N,.int .i64 b.Day]] [] [] 0 (n7 Nta [.bool] Q)):=by kernel_rfl
theorem e09 {a:Nt} {b:Nt} {Q:Bool->Prop} (h:Vql a b Q):i6 (E:=Nta) (j7 Nta H0 c2z 2) (c2z 76) Tryz.f76 [.agg [.int .i64 a.N,.int .i64 a.Day],.agg [.int .i64 b.N,.int .i64 b.Day]] [] [] 0 (n7 Nta [.bool] Q):=by rw [<- d2f]; exact h
theorem pql (a:Nt) (b:Nt)  : Vql a b (fun y0=>y0=a5w a b):=by
 unfold Vql
 rfl
def e3i (a:Nt) (b:Nt):Q1 U:=⟨[],[],blB (a5w a b)⟩
def cql (a:List (SV U)):Option (Q1 U):=match a with | [.agg [.int .i64 a0,.int .i64 a1],.agg [.int .i64 b0,.int .i64 b1]]=>some (e3i (⟨a0,a1⟩) (⟨b0,b1⟩)) | _=>none
theorem e05 (args:List (SV U)) (q:Q1 U) (h:cql args=some q) (ho:m6 q.ob):l8 Nta 76 args ⟨q.ob,q.hy,q.v,[]⟩:=by
 unfold cql at h
 split at h
 . rename_i a0 a1 b0 b1
   cases h
   exact s8 b5a (j8 b5a q8 c2z 2) Tryz.func76 (k:=.bool) (x:=a5w (⟨a0,a1⟩:Nt) (⟨b0,b1⟩:Nt)) trivial (e09 (pql (⟨a0,a1⟩) (⟨b0,b1⟩) )) 0
 . cases h
noncomputable def Nql:Env:=Nta.addL 76 cql
theorem b3g:l5 Nql:=b5a.addL Tryz.call76 e05
def c23:Nat->Ann:=fun | 77=>⟨8,fun _=>none,fun _=>none⟩ | _=>⟨0,fun _=>none,fun _=>none⟩
def Vqg (l:List Int) (Q:Int->Prop):Prop :=
((↑l.length:Int)=0->Q (1:Int))/\(¬(↑l.length:Int)=0->Q (↑l.length:Int))
theorem d4n {l:List Int} {Q:Int->Prop}:@Eq Prop (Vqg l Q) (i6 (E:=Nql) (j7 Nql H0 c23 2) (c23 77) Tryz.f77 [.sl (N:=U) 3 l] [] [] 0 (n7 Nql [.int .i64] Q)):=by kernel_rfl
theorem d5a {l:List Int} {Q:Int->Prop} (h:Vqg l Q):i6 (E:=Nql) (j7 Nql H0 c23 2) (c23 77) Tryz.f77 [.sl (N:=U) 3 l] [] [] 0 (n7 Nql [.int .i64] Q):=by rw [<- d4n]; exact h
theorem pqg (l:List Int)  : Vqg l (fun y0=>y0=D3 l):=by
 unfold Vqg D3
 exact ⟨fun h=>by rw [if_pos h],fun h=>by rw [if_neg h]⟩
def cqg (a:List (SV U)):Option (Q1 U):=match a with | [.sl 3 l]=>some ⟨[],[],.int .i64 (D3 l)⟩ | _=>none
theorem d3g (args:List (SV U)) (q:Q1 U) (h:cqg args=some q) (ho:m6 q.ob):l8 Nql 77 args ⟨q.ob,q.hy,q.v,[]⟩:=by
 unfold cqg at h
 split at h
 . rename_i l
   cases h
   exact s8 b3g (j8 b3g q8 c23 2) Tryz.func77 (k:=.int .i64) (x:=D3 l) trivial (d5a (pqg l )) 0
 . cases h
noncomputable def Nqg:Env:=Nql.addL 77 cqg
theorem b3n:l5 Nqg:=b3g.addL Tryz.call77 d3g
def c57:Nat->Ann:=fun | 75=>⟨56,fun | 2=>some ⟨[0,1,2,3],[.slot 9 (.int .i64)]⟩ | _=>none,fun _=>none⟩ | _=>⟨0,fun _=>none,fun _=>none⟩
def Vqr (l:List Int) (lo:Int) (hi:Int) (b:Bool) (Q:Bool->Prop):Prop :=
∃ (I:Int->Prop),∃ (m:Int->Nat),I (0:Int)/\∀ (x:Int),I x->(x<(↑l.length:Int)->(0:Int)<=x/\x<(↑l.length:Int)/\(b8 (ix l x)->((0:Int)<x->b8 (x-1))/\((0:Int)<x->(0:Int)<=x-1)/\((0:Int)<x->x-1<(↑l.length:Int))/\(((0:Int)<x->b8 (ix l (x-1)))->((0:Int)<x/\ix l x<=ix l (x-1)->Q false)/\(¬((0:Int)<x/\ix l x<=ix l (x-1))->(b=true/\ix l x<0->b8 ((0:Int)-hi))/\((b=true/\ix l x<0)/\(0:Int)-hi<=ix l x->b8 ((0:Int)-ix l x)/\((0:Int)-ix l x<lo ∨ hi<(0:Int)-ix l x->Q false)/\(¬((0:Int)-ix l x<lo ∨ hi<(0:Int)-ix l x)->b8 (x+1)/\I (x+1)/\m (x+1)<m x))/\(¬((b=true/\ix l x<0)/\(0:Int)-hi<=ix l x)->(ix l x<lo ∨ hi<ix l x->Q false)/\(¬(ix l x<lo ∨ hi<ix l x)->b8 (x+1)/\I (x+1)/\m (x+1)<m x))))))/\(¬x<(↑l.length:Int)->Q (decide ((↑l.length:Int)<=24)))
theorem e1f {l:List Int} {lo:Int} {hi:Int} {b:Bool} {Q:Bool->Prop}:@Eq Prop (Vqr l lo hi b Q) (i6 (E:=Nqg) (j7 Nqg H0 c57 2) (c57 75) Tryz.f75 [.sl (N:=U) 3 l,.int .i64 lo,.int .i64 hi,blB b] [] [] 0 (n7 Nqg [.bool] Q)):=by kernel_rfl
theorem d7i {l:List Int} {lo:Int} {hi:Int} {b:Bool} {Q:Bool->Prop} (h:Vqr l lo hi b Q):i6 (E:=Nqg) (j7 Nqg H0 c57 2) (c57 75) Tryz.f75 [.sl (N:=U) 3 l,.int .i64 lo,.int .i64 hi,blB b] [] [] 0 (n7 Nqg [.bool] Q):=by rw [<- e1f]; exact h
theorem pqr (l:List Int) (lo:Int) (hi:Int) (b:Bool) (l0:0<=lo) (l1:lo<=1000) (h0:0<=hi) (h1:hi<=1000) (hl:l.length<=1000000):Vqr l lo hi b (fun y0=>y0=l9 l lo hi b):=by
 unfold Vqr
 have z:∀ n:Int,0-n=-n:=fun n=>by omega
 simp only [z]
 refine ⟨fun x=>0<=x/\x<=l.length/\(∀ i:Int,0<=i->i<x->OkN lo hi b (ix l i))/\∀ i:Int,0<i->i<x->ix l (i-1)<ix l i,fun x=>((l.length:Int)-x).toNat,⟨Int.le_refl 0,by omega,fun i a b=>by omega,fun i a b=>by omega⟩,?_⟩
 rintro x ⟨x0,x1,hk,hu⟩
 refine ⟨fun hx=>⟨x0,hx,fun hi=>⟨fun _=>⟨by omega,by omega⟩,fun _=>by omega,fun _=>by omega,fun _=>⟨fun h=>?_,fun h=>⟨fun _=>⟨by omega,by omega⟩,fun hn=>⟨⟨by omega,by omega⟩,fun h2=>?_,fun h2=>?_⟩,fun hn=>⟨fun h2=>?_,fun h2=>?_⟩⟩⟩⟩⟩,fun hx=>?_⟩
 . exact (a3r fun hr=>by have:=hr.up x h.1 hx; omega).symm
 . exact (a3r fun hr=>by
     have:=hr.ok x x0 hx
     unfold OkN at this
     rw [if_pos hn] at this
     omega).symm
 . refine ⟨⟨by omega,by omega⟩,⟨by omega,by omega,fun i i0 i1=>?_,fun i i0 i1=>?_⟩,by dsimp only; omega⟩
   . by_cases e:i=x
     . subst e; unfold OkN; rw [if_pos hn]; omega
     . exact hk i i0 (by omega)
   . by_cases e:i=x
     . subst e; omega
     . exact hu i i0 (by omega)
 . exact (a3r fun hr=>by
     have:=hr.ok x x0 hx
     unfold OkN at this
     rw [if_neg hn] at this
     omega).symm
 . refine ⟨⟨by omega,by omega⟩,⟨by omega,by omega,fun i i0 i1=>?_,fun i i0 i1=>?_⟩,by dsimp only; omega⟩
   . by_cases e:i=x
     . subst e; unfold OkN; rw [if_neg hn]; omega
     . exact hk i i0 (by omega)
   . by_cases e:i=x
     . subst e; omega
     . exact hu i i0 (by omega)
 . by_cases h24:(l.length:Int)<=24
   . rw [decide_eq_true h24]
     exact (a4z.2 ⟨fun i a b=>hk i a (by omega),fun i a b=>hu i a (by omega),h24⟩).symm
   . rw [decide_eq_false h24]
     exact (a3r fun hr=>h24 hr.few).symm
noncomputable def e4s (l:List Int) (lo:Int) (hi:Int) (b:Bool):Q1 U:=⟨[0<=lo,lo<=1000,0<=hi,hi<=1000,List.length (α:=Int) l<=1000000],[],blB (l9 l lo hi b)⟩
noncomputable def cqr (a:List (SV U)):Option (Q1 U):=match a with | [.sl 3 l,.int .i64 lo,.int .i64 hi,x_b]=>(a9d x_b).bind fun b=>some (e4s l lo hi b) | _=>none
theorem d2t (args:List (SV U)) (q:Q1 U) (h:cqr args=some q) (ho:m6 q.ob):l8 Nqg 75 args ⟨q.ob,q.hy,q.v,[]⟩:=by
 unfold cqr at h
 split at h
 . rename_i l lo hi x_b
   obtain ⟨b,hb_b,h⟩:=Option.bind_eq_some_iff.1 h
   cases h
   refine l8.conv (E:=Nqg) (args':=[.sl 3 l,.int .i64 lo,.int .i64 hi,blB b]) (s8 b3n (j8 b3n q8 c57 2) Tryz.func75 (k:=.bool) trivial (d7i (pqr l lo hi b ho.1 ho.2.1 ho.2.2.1 ho.2.2.2.1 ho.2.2.2.2.1)) 0) fun D w vs hr=>z8 [.sl 3 l,.int .i64 lo,.int .i64 hi,x_b] [.sl (N:=U) 3 l,.int .i64 lo,.int .i64 hi,blB b] _ ⟨fun _ h=>h,fun _ h=>h,fun _ h=>h,fun _ h=>a03 (E:=Nqg) hb_b h,trivial⟩ hr
 . cases h
noncomputable def Nqr:Env:=Nqg.addL 75 cqr
theorem b5w:l5 Nqr:=b3n.addL Tryz.call75 d2t
def c5m:Nat->Ann:=fun | 10=>⟨44,fun | 2=>some ⟨[35,36],[.slot 37 (.int .i64)]⟩ | _=>none,fun _=>none⟩ | _=>⟨0,fun _=>none,fun _=>none⟩
def Vqf (r:Rl) (Q:Bool->Prop):Prop :=
∃ (I:Int->Prop),∃ (m:Int->Nat),I (0:Int)/\∀ (x:Int),I x->(x<(↑[(↑r.Month.length:Int),(↑r.WeekNo.length:Int),(↑r.YearDay.length:Int),(↑r.MonthDay.length:Int),(↑r.Days.length:Int),(↑r.Hour.length:Int),(↑r.Minute.length:Int),(↑r.Second.length:Int),(↑r.SetPos.length:Int),(↑r.Until.length:Int)].length:Int)->(0:Int)<=x/\x<(↑[(↑r.Month.length:Int),(↑r.WeekNo.length:Int),(↑r.YearDay.length:Int),(↑r.MonthDay.length:Int),(↑r.Days.length:Int),(↑r.Hour.length:Int),(↑r.Minute.length:Int),(↑r.Second.length:Int),(↑r.SetPos.length:Int),(↑r.Until.length:Int)].length:Int)/\(b8 (ix [(↑r.Month.length:Int),(↑r.WeekNo.length:Int),(↑r.YearDay.length:Int),(↑r.MonthDay.length:Int),(↑r.Days.length:Int),(↑r.Hour.length:Int),(↑r.Minute.length:Int),(↑r.Second.length:Int),(↑r.SetPos.length:Int),(↑r.Until.length:Int)] x)->((60:Int)<ix [(↑r.Month.length:Int),(↑r.WeekNo.length:Int),(↑r.YearDay.length:Int),(↑r.MonthDay.length:Int),(↑r.Days.length:Int),(↑r.Hour.length:Int),(↑r.Minute.length:Int),(↑r.Second.length:Int),(↑r.SetPos.length:Int),(↑r.Until.length:Int)] x->Q false)/\(¬(60:Int)<ix [(↑r.Month.length:Int),(↑r.WeekNo.length:Int),(↑r.YearDay.length:Int),(↑r.MonthDay.length:Int),(↑r.Days.length:Int),(↑r.Hour.length:Int),(↑r.Minute.length:Int),(↑r.Second.length:Int),(↑r.SetPos.length:Int),(↑r.Until.length:Int)] x->b8 (x+1)/\I (x+1)/\m (x+1)<m x)))/\(¬x<(↑[(↑r.Month.length:Int),(↑r.WeekNo.length:Int),(↑r.YearDay.length:Int),(↑r.MonthDay.length:Int),(↑r.Days.length:Int),(↑r.Hour.length:Int),(↑r.Minute.length:Int),(↑r.Second.length:Int),(↑r.SetPos.length:Int),(↑r.Until.length:Int)].length:Int)->Q true)
theorem d8f {r:Rl} {Q:Bool->Prop}:@Eq Prop (Vqf r Q) (i6 (E:=Nqr) (j7 Nqr H0 c5m 2) (c5m 10) Tryz.f10 [.agg [.int .i64 r.Freq,.int .i64 r.Interval,.int .i64 r.Count,.sl (N:=U) 25 r.Until,.sl (N:=U) 3 r.Month,.sl (N:=U) 3 r.WeekNo,.sl (N:=U) 3 r.YearDay,.sl (N:=U) 3 r.MonthDay,.sl (N:=U) 60 r.Days,.sl (N:=U) 3 r.Hour,.sl (N:=U) 3 r.Minute,.sl (N:=U) 3 r.Second,.sl (N:=U) 3 r.SetPos,.int .i64 r.Wkst]] [] [] 0 (n7 Nqr [.bool] Q)):=by kernel_rfl
theorem e0k {r:Rl} {Q:Bool->Prop} (h:Vqf r Q):i6 (E:=Nqr) (j7 Nqr H0 c5m 2) (c5m 10) Tryz.f10 [.agg [.int .i64 r.Freq,.int .i64 r.Interval,.int .i64 r.Count,.sl (N:=U) 25 r.Until,.sl (N:=U) 3 r.Month,.sl (N:=U) 3 r.WeekNo,.sl (N:=U) 3 r.YearDay,.sl (N:=U) 3 r.MonthDay,.sl (N:=U) 60 r.Days,.sl (N:=U) 3 r.Hour,.sl (N:=U) 3 r.Minute,.sl (N:=U) 3 r.Second,.sl (N:=U) 3 r.SetPos,.int .i64 r.Wkst]] [] [] 0 (n7 Nqr [.bool] Q):=by rw [<- d8f]; exact h
theorem pqf (r:Rl)  : Vqf r (fun y0=>y0=C1 r):=by
 unfold Vqf C1
 generalize hL:([(r.Month.length:Int),r.WeekNo.length,r.YearDay.length,r.MonthDay.length,r.Days.length,r.Hour.length,r.Minute.length,r.Second.length,r.SetPos.length,r.Until.length]:List Int)=L
 have hl:L.length=10:=by rw [<- hL]; rfl
 refine ⟨fun x=>0<=x/\∀ j:Int,0<=j->j<x->ix L j<=60,fun x=>((L.length:Int)-x).toNat,⟨Int.le_refl 0,fun j a b=>by omega⟩,?_⟩
 rintro x ⟨x0,hx⟩
 refine ⟨fun h=>⟨x0,h,fun hi=>⟨fun h60=>(c8v x0 h h60).symm,fun h60=>⟨⟨by omega,by omega⟩,⟨by omega,fun j a b=>?_⟩,by dsimp only; omega⟩⟩⟩,fun h=>(c6t fun j a b=>hx j a (by omega)).symm⟩
 by_cases e:j=x
 . subst e; omega
 . exact hx j a (by omega)
noncomputable def e4m (r:Rl):Q1 U:=⟨[],[],blB (C1 r)⟩
noncomputable def cqf (a:List (SV U)):Option (Q1 U):=match a with | [.agg l_r]=>(y30.bk (.agg l_r)).bind fun r=>some (e4m r) | _=>none
theorem d2n (args:List (SV U)) (q:Q1 U) (h:cqf args=some q) (ho:m6 q.ob):l8 Nqr 10 args ⟨q.ob,q.hy,q.v,[]⟩:=by
 unfold cqf at h
 split at h
 . rename_i l_r
   obtain ⟨r,hb_r,h⟩:=Option.bind_eq_some_iff.1 h
   cases h
   refine l8.conv (E:=Nqr) (args':=[.agg [.int .i64 r.Freq,.int .i64 r.Interval,.int .i64 r.Count,.sl 25 r.Until,.sl 3 r.Month,.sl 3 r.WeekNo,.sl 3 r.YearDay,.sl 3 r.MonthDay,.sl 60 r.Days,.sl 3 r.Hour,.sl 3 r.Minute,.sl 3 r.Second,.sl 3 r.SetPos,.int .i64 r.Wkst]]) (s8 b5w (j8 b5w q8 c5m 2) Tryz.func10 (k:=.bool) trivial (e0k (pqf r )) 0) fun D w vs hr=>z8 [.agg l_r] [.agg [.int .i64 r.Freq,.int .i64 r.Interval,.int .i64 r.Count,.sl (N:=U) 25 r.Until,.sl (N:=U) 3 r.Month,.sl (N:=U) 3 r.WeekNo,.sl (N:=U) 3 r.YearDay,.sl (N:=U) 3 r.MonthDay,.sl (N:=U) 60 r.Days,.sl (N:=U) 3 r.Hour,.sl (N:=U) 3 r.Minute,.sl (N:=U) 3 r.Second,.sl (N:=U) 3 r.SetPos,.int .i64 r.Wkst]] _ ⟨fun _ h=>C6 hb_r h,trivial⟩ hr
 . cases h
noncomputable def Nqf:Env:=Nqr.addL 10 cqf
theorem b6d:l5 Nqf:=b5w.addL Tryz.call10 d2n
end Go.Proofs.YtdjfeninmbpflaaGreat
end
section
namespace Go.Re
open Go.Wl
open Go.Rx (b8)
def C7 (r:Rl):Int:=if r.Freq=1 then 5 else if r.Freq=0/\(r.WeekNo.length:Int)=0 then 53 else 0
def c3v (m:Int) (d:Nt):Prop:=0<=d.Day/\d.Day<=6/\d.N<=m/\-m<=d.N
def b0w (r:Rl):Prop:=0<=r.Freq/\r.Freq<=6/\1<=r.Interval/\r.Interval<=9999/\0<=r.Count/\r.Count<=9999/\0<=r.Wkst/\r.Wkst<=6
def b5r (r:Rl):Prop:=(r.Until.length:Int)<=1/\((r.Until.length:Int)=1->r.Count<=0/\q7 (ix r.Until 0)=true)
structure a7y (r:Rl):Prop where
 mo:K2 r.Month 1 12 false
 wn:K2 r.WeekNo 1 53 true
 yd:K2 r.YearDay 1 366 true
 md:K2 r.MonthDay 1 31 true
 ho:K2 r.Hour 0 23 false
 mi:K2 r.Minute 0 59 false
 se:K2 r.Second 0 59 false
 sp:K2 r.SetPos 1 366 true
structure d07 (l:List Nt) (m:Int):Prop where
 ok:∀ i:Int,0<=i->i<l.length->c3v m (ix l i)
 up:∀ i:Int,0<i->i<l.length->Z8 (ix l (i-1)) (ix l i)
def b01 (r:Rl):Prop:=¬ (((r.Freq≠0/\0<(r.WeekNo.length:Int)) ∨ ((1<=r.Freq/\r.Freq<=3)/\0<(r.YearDay.length:Int))) ∨ r.Freq=2/\0<(r.MonthDay.length:Int))
def b7k (r:Rl):Prop:=(0<(r.Month.length:Int)+r.WeekNo.length+r.YearDay.length+r.MonthDay.length+r.Days.length+r.Hour.length+r.Minute.length+r.Second.length ∨ (r.SetPos.length:Int)=0)/\D3 r.Hour * D3 r.Minute * D3 r.Second<=48
structure b3p (r:Rl):Prop where
 head:b0w r
 til:b5r r
 lists:a7y r
 few:(r.Days.length:Int)<=24
 days:d07 r.Days (C7 r)
 fit:b01 r
 some:b7k r
open Classical in
noncomputable def B6 (r:Rl):Bool:=decide (b3p r)
open Classical in
theorem o0 {r:Rl}:B6 r=true↔b3p r:=by
 unfold B6
 exact decide_eq_true_iff
theorem o6 {r:Rl} (h:¬ b3p r):B6 r=false:=by
 cases e:B6 r with
 | true=>exact absurd (o0.1 e) h
 | false=>rfl
theorem a6s {a b:Nt}:a5w a b=true↔Z8 a b:=by unfold a5w; exact decide_eq_true_iff
theorem c7s {L:List Int} (h:b9g L=true) {n:Int} (hn:n∈L):n<=60:=of_decide_eq_true (List.all_eq_true.1 h n hn)
structure e3l (r:Rl):Prop where
 mo:(r.Month.length:Int)<=60
 wn:(r.WeekNo.length:Int)<=60
 yd:(r.YearDay.length:Int)<=60
 md:(r.MonthDay.length:Int)<=60
 dy:(r.Days.length:Int)<=60
 ho:(r.Hour.length:Int)<=60
 mi:(r.Minute.length:Int)<=60
 se:(r.Second.length:Int)<=60
 sp:(r.SetPos.length:Int)<=60
 ti:(r.Until.length:Int)<=60
theorem Y1 {r:Rl} (h:C1 r=true):e3l r:=by
 unfold C1 at h
 constructor <;> exact c7s h (by simp)
theorem O8 {l:List Int}:(D3 l=1/\(l.length:Int)=0) ∨ (D3 l=(l.length:Int)/\1<=(l.length:Int)):=by
 unfold D3
 by_cases h:(l.length:Int)=0
 . rw [if_pos h]; omega
 . rw [if_neg h]; omega
theorem c26 {a b:Int} (h0:1<=a) (h1:a<=3600) (h2:1<=b) (h3:b<=60):1<=a * b/\a * b<=216000:=by
 constructor
 . have:=Int.mul_le_mul h0 h2 (by decide) (by omega); omega
 . have:=Int.mul_le_mul h1 h3 (by omega) (by decide); omega
theorem d03 {a b c:Int} (ha:1<=a/\a<=60) (hb:1<=b/\b<=60) (hc:1<=c/\c<=60):b8 (a * b)/\b8 (a * b * c):=by
 have h1:1<=a * b:=by have:=Int.mul_le_mul ha.1 hb.1 (by decide) (by omega); omega
 have h2:a * b<=3600:=by have:=Int.mul_le_mul ha.2 hb.2 (by omega) (by decide); omega
 have h3:=c26 h1 h2 hc.1 hc.2
 exact ⟨⟨by omega,by omega⟩,⟨by omega,by omega⟩⟩
structure M6 (l:List Nt) (m:Int) (x:Int):Prop where
 ok:∀ i:Int,0<=i->i<x->c3v m (ix l i)
 up:∀ i:Int,0<i->i<x->Z8 (ix l (i-1)) (ix l i)
theorem M6.nil {l:List Nt} {m:Int}:M6 l m 0:=⟨fun i a b=>by omega,fun i a b=>by omega⟩
theorem M6.step {l:List Nt} {m x:Int} (h:M6 l m x) (h1:c3v m (ix l x)) (h2:0<x->Z8 (ix l (x-1)) (ix l x)):M6 l m (x+1):=by
 constructor
 . intro i a b
   by_cases e:i=x
   . subst e; exact h1
   . exact h.ok i a (by omega)
 . intro i a b
   by_cases e:i=x
   . subst e; exact h2 a
   . exact h.up i a (by omega)
theorem M6.done {l:List Nt} {m x:Int} (h:M6 l m x) (hx:¬ x<l.length):d07 l m:=⟨fun i a b=>h.ok i a (by omega),fun i a b=>h.up i a (by omega)⟩
end Go.Re
end
section
namespace Go.Proofs.YtdjfeninmbpflaaGreat
open Go Go.Wk Go.Wl Go.Rx Go.Re 
attribute [local irreducible] i6
def c6w:Nat->Ann:=fun | 44=>⟨267,fun | 15=>some ⟨[1,3],[.slot 4 (.int .i64)]⟩ | _=>none,fun | 12=>some ⟨[1],[.slot 3 (.int .i64)]⟩ | 14=>some ⟨[1],[.slot 3 (.int .i64)]⟩ | _=>none⟩ | _=>⟨0,fun _=>none,fun _=>none⟩
def VqR (r:Rl) (Q:Bool->Prop):Prop :=
(((((((r.Freq<0 ∨ (6:Int)<r.Freq) ∨ r.Interval<1) ∨ (9999:Int)<r.Interval) ∨ r.Count<0) ∨ (9999:Int)<r.Count) ∨ r.Wkst<0) ∨ (6:Int)<r.Wkst->Q false)/\(¬(((((((r.Freq<0 ∨ (6:Int)<r.Freq) ∨ r.Interval<1) ∨ (9999:Int)<r.Interval) ∨ r.Count<0) ∨ (9999:Int)<r.Count) ∨ r.Wkst<0) ∨ (6:Int)<r.Wkst)->((¬(1:Int)<(↑r.Until.length:Int)/\(↑r.Until.length:Int)=1)/\¬(0:Int)<r.Count->(0:Int)<=0)/\((¬(1:Int)<(↑r.Until.length:Int)/\(↑r.Until.length:Int)=1)/\¬(0:Int)<r.Count->(0:Int)<(↑r.Until.length:Int))/\(((¬(1:Int)<(↑r.Until.length:Int)/\(↑r.Until.length:Int)=1)/\¬(0:Int)<r.Count->b8 (ix r.Until (0:Int)).Day.Year)->((¬(1:Int)<(↑r.Until.length:Int)/\(↑r.Until.length:Int)=1)/\¬(0:Int)<r.Count->b8 (ix r.Until (0:Int)).Day.Month)->((¬(1:Int)<(↑r.Until.length:Int)/\(↑r.Until.length:Int)=1)/\¬(0:Int)<r.Count->b8 (ix r.Until (0:Int)).Day.Date)->((¬(1:Int)<(↑r.Until.length:Int)/\(↑r.Until.length:Int)=1)/\¬(0:Int)<r.Count->b8 (ix r.Until (0:Int)).Hour)->((¬(1:Int)<(↑r.Until.length:Int)/\(↑r.Until.length:Int)=1)/\¬(0:Int)<r.Count->b8 (ix r.Until (0:Int)).Min)->((¬(1:Int)<(↑r.Until.length:Int)/\(↑r.Until.length:Int)=1)/\¬(0:Int)<r.Count->b8 (ix r.Until (0:Int)).Sec)->((1:Int)<(↑r.Until.length:Int) ∨ (↑r.Until.length:Int)=1/\((0:Int)<r.Count ∨ ¬q7 (Tm.mk (Dy.mk (ix r.Until (0:Int)).Day.Year (ix r.Until (0:Int)).Day.Month (ix r.Until (0:Int)).Day.Date) (ix r.Until (0:Int)).Hour (ix r.Until (0:Int)).Min (ix r.Until (0:Int)).Sec (decide ((ix r.Until (0:Int)).Bare=true)) (decide ((ix r.Until (0:Int)).UTC=true)))=true)->Q false)/\(¬((1:Int)<(↑r.Until.length:Int) ∨ (↑r.Until.length:Int)=1/\((0:Int)<r.Count ∨ ¬q7 (Tm.mk (Dy.mk (ix r.Until (0:Int)).Day.Year (ix r.Until (0:Int)).Day.Month (ix r.Until (0:Int)).Day.Date) (ix r.Until (0:Int)).Hour (ix r.Until (0:Int)).Min (ix r.Until (0:Int)).Sec (decide ((ix r.Until (0:Int)).Bare=true)) (decide ((ix r.Until (0:Int)).UTC=true)))=true))->(0:Int)<=1/\(1:Int)<=1000/\(0:Int)<=12/\(12:Int)<=1000/\r.Month.length<=1000000/\(¬¬l9 r.Month (1:Int) (12:Int) false=true->(0:Int)<=1)/\(¬¬l9 r.Month (1:Int) (12:Int) false=true->(1:Int)<=1000)/\(¬¬l9 r.Month (1:Int) (12:Int) false=true->(0:Int)<=53)/\(¬¬l9 r.Month (1:Int) (12:Int) false=true->(53:Int)<=1000)/\(¬¬l9 r.Month (1:Int) (12:Int) false=true->r.WeekNo.length<=1000000)/\(¬(¬l9 r.Month (1:Int) (12:Int) false=true ∨ ¬l9 r.WeekNo (1:Int) (53:Int) true=true)->(0:Int)<=1)/\(¬(¬l9 r.Month (1:Int) (12:Int) false=true ∨ ¬l9 r.WeekNo (1:Int) (53:Int) true=true)->(1:Int)<=1000)/\(¬(¬l9 r.Month (1:Int) (12:Int) false=true ∨ ¬l9 r.WeekNo (1:Int) (53:Int) true=true)->(0:Int)<=366)/\(¬(¬l9 r.Month (1:Int) (12:Int) false=true ∨ ¬l9 r.WeekNo (1:Int) (53:Int) true=true)->(366:Int)<=1000)/\(¬(¬l9 r.Month (1:Int) (12:Int) false=true ∨ ¬l9 r.WeekNo (1:Int) (53:Int) true=true)->r.YearDay.length<=1000000)/\(¬((¬l9 r.Month (1:Int) (12:Int) false=true ∨ ¬l9 r.WeekNo (1:Int) (53:Int) true=true) ∨ ¬l9 r.YearDay (1:Int) (366:Int) true=true)->(0:Int)<=1)/\(¬((¬l9 r.Month (1:Int) (12:Int) false=true ∨ ¬l9 r.WeekNo (1:Int) (53:Int) true=true) ∨ ¬l9 r.YearDay (1:Int) (366:Int) true=true)->(1:Int)<=1000)/\(¬((¬l9 r.Month (1:Int) (12:Int) false=true ∨ ¬l9 r.WeekNo (1:Int) (53:Int) true=true) ∨ ¬l9 r.YearDay (1:Int) (366:Int) true=true)->(0:Int)<=31)/\(¬((¬l9 r.Month (1:Int) (12:Int) false=true ∨ ¬l9 r.WeekNo (1:Int) (53:Int) true=true) ∨ ¬l9 r.YearDay (1:Int) (366:Int) true=true)->(31:Int)<=1000)/\(¬((¬l9 r.Month (1:Int) (12:Int) false=true ∨ ¬l9 r.WeekNo (1:Int) (53:Int) true=true) ∨ ¬l9 r.YearDay (1:Int) (366:Int) true=true)->r.MonthDay.length<=1000000)/\(¬(((¬l9 r.Month (1:Int) (12:Int) false=true ∨ ¬l9 r.WeekNo (1:Int) (53:Int) true=true) ∨ ¬l9 r.YearDay (1:Int) (366:Int) true=true) ∨ ¬l9 r.MonthDay (1:Int) (31:Int) true=true)->(0:Int)<=0)/\(¬(((¬l9 r.Month (1:Int) (12:Int) false=true ∨ ¬l9 r.WeekNo (1:Int) (53:Int) true=true) ∨ ¬l9 r.YearDay (1:Int) (366:Int) true=true) ∨ ¬l9 r.MonthDay (1:Int) (31:Int) true=true)->(0:Int)<=1000)/\(¬(((¬l9 r.Month (1:Int) (12:Int) false=true ∨ ¬l9 r.WeekNo (1:Int) (53:Int) true=true) ∨ ¬l9 r.YearDay (1:Int) (366:Int) true=true) ∨ ¬l9 r.MonthDay (1:Int) (31:Int) true=true)->(0:Int)<=23)/\(¬(((¬l9 r.Month (1:Int) (12:Int) false=true ∨ ¬l9 r.WeekNo (1:Int) (53:Int) true=true) ∨ ¬l9 r.YearDay (1:Int) (366:Int) true=true) ∨ ¬l9 r.MonthDay (1:Int) (31:Int) true=true)->(23:Int)<=1000)/\(¬(((¬l9 r.Month (1:Int) (12:Int) false=true ∨ ¬l9 r.WeekNo (1:Int) (53:Int) true=true) ∨ ¬l9 r.YearDay (1:Int) (366:Int) true=true) ∨ ¬l9 r.MonthDay (1:Int) (31:Int) true=true)->r.Hour.length<=1000000)/\(¬((((¬l9 r.Month (1:Int) (12:Int) false=true ∨ ¬l9 r.WeekNo (1:Int) (53:Int) true=true) ∨ ¬l9 r.YearDay (1:Int) (366:Int) true=true) ∨ ¬l9 r.MonthDay (1:Int) (31:Int) true=true) ∨ ¬l9 r.Hour (0:Int) (23:Int) false=true)->(0:Int)<=0)/\(¬((((¬l9 r.Month (1:Int) (12:Int) false=true ∨ ¬l9 r.WeekNo (1:Int) (53:Int) true=true) ∨ ¬l9 r.YearDay (1:Int) (366:Int) true=true) ∨ ¬l9 r.MonthDay (1:Int) (31:Int) true=true) ∨ ¬l9 r.Hour (0:Int) (23:Int) false=true)->(0:Int)<=1000)/\(¬((((¬l9 r.Month (1:Int) (12:Int) false=true ∨ ¬l9 r.WeekNo (1:Int) (53:Int) true=true) ∨ ¬l9 r.YearDay (1:Int) (366:Int) true=true) ∨ ¬l9 r.MonthDay (1:Int) (31:Int) true=true) ∨ ¬l9 r.Hour (0:Int) (23:Int) false=true)->(0:Int)<=59)/\(¬((((¬l9 r.Month (1:Int) (12:Int) false=true ∨ ¬l9 r.WeekNo (1:Int) (53:Int) true=true) ∨ ¬l9 r.YearDay (1:Int) (366:Int) true=true) ∨ ¬l9 r.MonthDay (1:Int) (31:Int) true=true) ∨ ¬l9 r.Hour (0:Int) (23:Int) false=true)->(59:Int)<=1000)/\(¬((((¬l9 r.Month (1:Int) (12:Int) false=true ∨ ¬l9 r.WeekNo (1:Int) (53:Int) true=true) ∨ ¬l9 r.YearDay (1:Int) (366:Int) true=true) ∨ ¬l9 r.MonthDay (1:Int) (31:Int) true=true) ∨ ¬l9 r.Hour (0:Int) (23:Int) false=true)->r.Minute.length<=1000000)/\(¬(((((¬l9 r.Month (1:Int) (12:Int) false=true ∨ ¬l9 r.WeekNo (1:Int) (53:Int) true=true) ∨ ¬l9 r.YearDay (1:Int) (366:Int) true=true) ∨ ¬l9 r.MonthDay (1:Int) (31:Int) true=true) ∨ ¬l9 r.Hour (0:Int) (23:Int) false=true) ∨ ¬l9 r.Minute (0:Int) (59:Int) false=true)->(0:Int)<=0)/\(¬(((((¬l9 r.Month (1:Int) (12:Int) false=true ∨ ¬l9 r.WeekNo (1:Int) (53:Int) true=true) ∨ ¬l9 r.YearDay (1:Int) (366:Int) true=true) ∨ ¬l9 r.MonthDay (1:Int) (31:Int) true=true) ∨ ¬l9 r.Hour (0:Int) (23:Int) false=true) ∨ ¬l9 r.Minute (0:Int) (59:Int) false=true)->(0:Int)<=1000)/\(¬(((((¬l9 r.Month (1:Int) (12:Int) false=true ∨ ¬l9 r.WeekNo (1:Int) (53:Int) true=true) ∨ ¬l9 r.YearDay (1:Int) (366:Int) true=true) ∨ ¬l9 r.MonthDay (1:Int) (31:Int) true=true) ∨ ¬l9 r.Hour (0:Int) (23:Int) false=true) ∨ ¬l9 r.Minute (0:Int) (59:Int) false=true)->(0:Int)<=59)/\(¬(((((¬l9 r.Month (1:Int) (12:Int) false=true ∨ ¬l9 r.WeekNo (1:Int) (53:Int) true=true) ∨ ¬l9 r.YearDay (1:Int) (366:Int) true=true) ∨ ¬l9 r.MonthDay (1:Int) (31:Int) true=true) ∨ ¬l9 r.Hour (0:Int) (23:Int) false=true) ∨ ¬l9 r.Minute (0:Int) (59:Int) false=true)->(59:Int)<=1000)/\(¬(((((¬l9 r.Month (1:Int) (12:Int) false=true ∨ ¬l9 r.WeekNo (1:Int) (53:Int) true=true) ∨ ¬l9 r.YearDay (1:Int) (366:Int) true=true) ∨ ¬l9 r.MonthDay (1:Int) (31:Int) true=true) ∨ ¬l9 r.Hour (0:Int) (23:Int) false=true) ∨ ¬l9 r.Minute (0:Int) (59:Int) false=true)->r.Second.length<=1000000)/\(¬((((((¬l9 r.Month (1:Int) (12:Int) false=true ∨ ¬l9 r.WeekNo (1:Int) (53:Int) true=true) ∨ ¬l9 r.YearDay (1:Int) (366:Int) true=true) ∨ ¬l9 r.MonthDay (1:Int) (31:Int) true=true) ∨ ¬l9 r.Hour (0:Int) (23:Int) false=true) ∨ ¬l9 r.Minute (0:Int) (59:Int) false=true) ∨ ¬l9 r.Second (0:Int) (59:Int) false=true)->(0:Int)<=1)/\(¬((((((¬l9 r.Month (1:Int) (12:Int) false=true ∨ ¬l9 r.WeekNo (1:Int) (53:Int) true=true) ∨ ¬l9 r.YearDay (1:Int) (366:Int) true=true) ∨ ¬l9 r.MonthDay (1:Int) (31:Int) true=true) ∨ ¬l9 r.Hour (0:Int) (23:Int) false=true) ∨ ¬l9 r.Minute (0:Int) (59:Int) false=true) ∨ ¬l9 r.Second (0:Int) (59:Int) false=true)->(1:Int)<=1000)/\(¬((((((¬l9 r.Month (1:Int) (12:Int) false=true ∨ ¬l9 r.WeekNo (1:Int) (53:Int) true=true) ∨ ¬l9 r.YearDay (1:Int) (366:Int) true=true) ∨ ¬l9 r.MonthDay (1:Int) (31:Int) true=true) ∨ ¬l9 r.Hour (0:Int) (23:Int) false=true) ∨ ¬l9 r.Minute (0:Int) (59:Int) false=true) ∨ ¬l9 r.Second (0:Int) (59:Int) false=true)->(0:Int)<=366)/\(¬((((((¬l9 r.Month (1:Int) (12:Int) false=true ∨ ¬l9 r.WeekNo (1:Int) (53:Int) true=true) ∨ ¬l9 r.YearDay (1:Int) (366:Int) true=true) ∨ ¬l9 r.MonthDay (1:Int) (31:Int) true=true) ∨ ¬l9 r.Hour (0:Int) (23:Int) false=true) ∨ ¬l9 r.Minute (0:Int) (59:Int) false=true) ∨ ¬l9 r.Second (0:Int) (59:Int) false=true)->(366:Int)<=1000)/\(¬((((((¬l9 r.Month (1:Int) (12:Int) false=true ∨ ¬l9 r.WeekNo (1:Int) (53:Int) true=true) ∨ ¬l9 r.YearDay (1:Int) (366:Int) true=true) ∨ ¬l9 r.MonthDay (1:Int) (31:Int) true=true) ∨ ¬l9 r.Hour (0:Int) (23:Int) false=true) ∨ ¬l9 r.Minute (0:Int) (59:Int) false=true) ∨ ¬l9 r.Second (0:Int) (59:Int) false=true)->r.SetPos.length<=1000000)/\(((((((¬l9 r.Month (1:Int) (12:Int) false=true ∨ ¬l9 r.WeekNo (1:Int) (53:Int) true=true) ∨ ¬l9 r.YearDay (1:Int) (366:Int) true=true) ∨ ¬l9 r.MonthDay (1:Int) (31:Int) true=true) ∨ ¬l9 r.Hour (0:Int) (23:Int) false=true) ∨ ¬l9 r.Minute (0:Int) (59:Int) false=true) ∨ ¬l9 r.Second (0:Int) (59:Int) false=true) ∨ ¬l9 r.SetPos (1:Int) (366:Int) true=true->Q false)/\(¬(((((((¬l9 r.Month (1:Int) (12:Int) false=true ∨ ¬l9 r.WeekNo (1:Int) (53:Int) true=true) ∨ ¬l9 r.YearDay (1:Int) (366:Int) true=true) ∨ ¬l9 r.MonthDay (1:Int) (31:Int) true=true) ∨ ¬l9 r.Hour (0:Int) (23:Int) false=true) ∨ ¬l9 r.Minute (0:Int) (59:Int) false=true) ∨ ¬l9 r.Second (0:Int) (59:Int) false=true) ∨ ¬l9 r.SetPos (1:Int) (366:Int) true=true)->((24:Int)<(↑r.Days.length:Int)->Q false)/\(¬(24:Int)<(↑r.Days.length:Int)->∃ (J:Int->Prop),((r.Freq=1->J (5:Int))/\(¬r.Freq=1->J (0:Int)))/\∀ (x:Int),J x->∃ (J:Int->Prop),((r.Freq=0/\(↑r.WeekNo.length:Int)=0->J (53:Int))/\(¬(r.Freq=0/\(↑r.WeekNo.length:Int)=0)->J x))/\∀ (x:Int),J x->∃ (I:Int->Prop),∃ (m:Int->Nat),I (0:Int)/\∀ (x_1:Int),I x_1->(x_1<(↑r.Days.length:Int)->(0:Int)<=x_1/\x_1<(↑r.Days.length:Int)/\(b8 (ix r.Days x_1).N->b8 (ix r.Days x_1).Day->(¬(((ix r.Days x_1).Day<0 ∨ (6:Int)<(ix r.Days x_1).Day) ∨ x<(ix r.Days x_1).N)->b8 ((0:Int)-x))/\(¬((((ix r.Days x_1).Day<0 ∨ (6:Int)<(ix r.Days x_1).Day) ∨ x<(ix r.Days x_1).N) ∨ (ix r.Days x_1).N<(0:Int)-x)/\(0:Int)<x_1->b8 (x_1-1))/\((¬((((ix r.Days x_1).Day<0 ∨ (6:Int)<(ix r.Days x_1).Day) ∨ x<(ix r.Days x_1).N) ∨ (ix r.Days x_1).N<(0:Int)-x)/\(0:Int)<x_1->(0:Int)<=x_1-1)/\(¬((((ix r.Days x_1).Day<0 ∨ (6:Int)<(ix r.Days x_1).Day) ∨ x<(ix r.Days x_1).N) ∨ (ix r.Days x_1).N<(0:Int)-x)/\(0:Int)<x_1->x_1-1<(↑r.Days.length:Int)))/\((¬((((ix r.Days x_1).Day<0 ∨ (6:Int)<(ix r.Days x_1).Day) ∨ x<(ix r.Days x_1).N) ∨ (ix r.Days x_1).N<(0:Int)-x)/\(0:Int)<x_1->b8 (ix r.Days (x_1-1)).N)->(¬((((ix r.Days x_1).Day<0 ∨ (6:Int)<(ix r.Days x_1).Day) ∨ x<(ix r.Days x_1).N) ∨ (ix r.Days x_1).N<(0:Int)-x)/\(0:Int)<x_1->b8 (ix r.Days (x_1-1)).Day)->(((((ix r.Days x_1).Day<0 ∨ (6:Int)<(ix r.Days x_1).Day) ∨ x<(ix r.Days x_1).N) ∨ (ix r.Days x_1).N<(0:Int)-x) ∨ (0:Int)<x_1/\¬a5w (Nt.mk (ix r.Days (x_1-1)).N (ix r.Days (x_1-1)).Day) (Nt.mk (ix r.Days x_1).N (ix r.Days x_1).Day)=true->Q false)/\(¬(((((ix r.Days x_1).Day<0 ∨ (6:Int)<(ix r.Days x_1).Day) ∨ x<(ix r.Days x_1).N) ∨ (ix r.Days x_1).N<(0:Int)-x) ∨ (0:Int)<x_1/\¬a5w (Nt.mk (ix r.Days (x_1-1)).N (ix r.Days (x_1-1)).Day) (Nt.mk (ix r.Days x_1).N (ix r.Days x_1).Day)=true)->b8 (x_1+1)/\I (x_1+1)/\m (x_1+1)<m x_1))))/\(¬x_1<(↑r.Days.length:Int)->((r.Freq≠0/\(0:Int)<(↑r.WeekNo.length:Int) ∨ ((1:Int)<=r.Freq/\r.Freq<=3)/\(0:Int)<(↑r.YearDay.length:Int)) ∨ r.Freq=2/\(0:Int)<(↑r.MonthDay.length:Int)->Q false)/\(¬((r.Freq≠0/\(0:Int)<(↑r.WeekNo.length:Int) ∨ ((1:Int)<=r.Freq/\r.Freq<=3)/\(0:Int)<(↑r.YearDay.length:Int)) ∨ r.Freq=2/\(0:Int)<(↑r.MonthDay.length:Int))->b8 ((↑r.Month.length:Int)+(↑r.WeekNo.length:Int))/\b8 ((↑r.Month.length:Int)+(↑r.WeekNo.length:Int)+(↑r.YearDay.length:Int))/\b8 ((↑r.Month.length:Int)+(↑r.WeekNo.length:Int)+(↑r.YearDay.length:Int)+(↑r.MonthDay.length:Int))/\b8 ((↑r.Month.length:Int)+(↑r.WeekNo.length:Int)+(↑r.YearDay.length:Int)+(↑r.MonthDay.length:Int)+(↑r.Days.length:Int))/\b8 ((↑r.Month.length:Int)+(↑r.WeekNo.length:Int)+(↑r.YearDay.length:Int)+(↑r.MonthDay.length:Int)+(↑r.Days.length:Int)+(↑r.Hour.length:Int))/\b8 ((↑r.Month.length:Int)+(↑r.WeekNo.length:Int)+(↑r.YearDay.length:Int)+(↑r.MonthDay.length:Int)+(↑r.Days.length:Int)+(↑r.Hour.length:Int)+(↑r.Minute.length:Int))/\b8 ((↑r.Month.length:Int)+(↑r.WeekNo.length:Int)+(↑r.YearDay.length:Int)+(↑r.MonthDay.length:Int)+(↑r.Days.length:Int)+(↑r.Hour.length:Int)+(↑r.Minute.length:Int)+(↑r.Second.length:Int))/\((0:Int)<(↑r.Month.length:Int)+(↑r.WeekNo.length:Int)+(↑r.YearDay.length:Int)+(↑r.MonthDay.length:Int)+(↑r.Days.length:Int)+(↑r.Hour.length:Int)+(↑r.Minute.length:Int)+(↑r.Second.length:Int) ∨ (↑r.SetPos.length:Int)=0->b8 (D3 r.Hour * D3 r.Minute))/\((0:Int)<(↑r.Month.length:Int)+(↑r.WeekNo.length:Int)+(↑r.YearDay.length:Int)+(↑r.MonthDay.length:Int)+(↑r.Days.length:Int)+(↑r.Hour.length:Int)+(↑r.Minute.length:Int)+(↑r.Second.length:Int) ∨ (↑r.SetPos.length:Int)=0->b8 (D3 r.Hour * D3 r.Minute * D3 r.Second))/\Q (decide (((0:Int)<(↑r.Month.length:Int)+(↑r.WeekNo.length:Int)+(↑r.YearDay.length:Int)+(↑r.MonthDay.length:Int)+(↑r.Days.length:Int)+(↑r.Hour.length:Int)+(↑r.Minute.length:Int)+(↑r.Second.length:Int) ∨ (↑r.SetPos.length:Int)=0)/\D3 r.Hour * D3 r.Minute * D3 r.Second<=48)))))))))
theorem d3r {r:Rl} {Q:Bool->Prop}:@Eq Prop (VqR r Q) (i6 (E:=Nqf) (j7 Nqf H0 c6w 2) (c6w 44) Tryz.f44 [.agg [.int .i64 r.Freq,.int .i64 r.Interval,.int .i64 r.Count,.sl (N:=U) 25 r.Until,.sl (N:=U) 3 r.Month,.sl (N:=U) 3 r.WeekNo,.sl (N:=U) 3 r.YearDay,.sl (N:=U) 3 r.MonthDay,.sl (N:=U) 60 r.Days,.sl (N:=U) 3 r.Hour,.sl (N:=U) 3 r.Minute,.sl (N:=U) 3 r.Second,.sl (N:=U) 3 r.SetPos,.int .i64 r.Wkst]] [] [] 0 (n7 Nqf [.bool] Q)):=by kernel_rfl
theorem d8b {r:Rl} {Q:Bool->Prop} (h:VqR r Q):i6 (E:=Nqf) (j7 Nqf H0 c6w 2) (c6w 44) Tryz.f44 [.agg [.int .i64 r.Freq,.int .i64 r.Interval,.int .i64 r.Count,.sl (N:=U) 25 r.Until,.sl (N:=U) 3 r.Month,.sl (N:=U) 3 r.WeekNo,.sl (N:=U) 3 r.YearDay,.sl (N:=U) 3 r.MonthDay,.sl (N:=U) 60 r.Days,.sl (N:=U) 3 r.Hour,.sl (N:=U) 3 r.Minute,.sl (N:=U) 3 r.Second,.sl (N:=U) 3 r.SetPos,.int .i64 r.Wkst]] [] [] 0 (n7 Nqf [.bool] Q):=by rw [<- d3r]; exact h
set_option maxHeartbeats 2000000 in
theorem pqR (r:Rl) (hfw:C1 r=true):VqR r (fun y0=>y0=B6 r):=by
 unfold VqR
 obtain ⟨wmo,wwn,wyd,wmd,wdy,who,wmi,wse,wsp,wti⟩:=Y1 hfw
 refine ⟨fun h=>(o6 fun R=>by obtain ⟨a1,a2,a3,a4,a5,a6,a7,a8⟩:=R.head; omega).symm,fun h=>?_⟩
 have hH:b0w r:=⟨by omega,by omega,by omega,by omega,by omega,by omega,by omega,by omega⟩
 refine ⟨fun _=>by decide,fun h=>by omega,fun _ _ _ _ _ _=>?_⟩
 simp only [Bool.decide_eq_true,a4z]
 refine ⟨fun hu=>(o6 fun R=>?_).symm,fun hu=>?_⟩
 . obtain ⟨a,b⟩:=R.til
   rcases hu with hu | ⟨h1,hu | hu⟩
   . omega
   . have:=(b h1).1; omega
   . exact hu (b h1).2
 have hU:b5r r:=by
  have u1:¬ 1<(r.Until.length:Int):=fun h=>hu (.inl h)
  exact ⟨by omega,fun h1=>⟨by have:¬ 0<r.Count:=fun h=>hu (.inr ⟨h1,.inl h⟩); omega,Classical.not_not.1 fun hn=>hu (.inr ⟨h1,.inr hn⟩)⟩⟩
 clear h hu
 repeat' apply And.intro
 all_goals first | decide | omega | (intro _; first | decide | omega) | skip
 . intro hn
   refine (o6 fun R=>?_).symm
   have R:=R.lists
   rcases hn with ((((((h|h)|h)|h)|h)|h)|h)|h
   . exact h R.mo
   . exact h R.wn
   . exact h R.yd
   . exact h R.md
   . exact h R.ho
   . exact h R.mi
   . exact h R.se
   . exact h R.sp
 intro hn
 have hL:a7y r:=by
  simp only [not_or,Classical.not_not] at hn
  obtain ⟨⟨⟨⟨⟨⟨⟨a,b⟩,c⟩,d⟩,e⟩,f⟩,g⟩,h⟩:=hn
  exact ⟨a,b,c,d,e,f,g,h⟩
 clear hn
 refine ⟨fun h24=>(o6 fun R=>by have:=R.few; omega).symm,fun h24=>?_⟩
 refine ⟨fun x=>x=if r.Freq=1 then 5 else 0,⟨fun h=>by rw [if_pos h],fun h=>by rw [if_neg h]⟩,?_⟩
 rintro m0 hm0
 refine ⟨fun x=>x=C7 r,⟨fun h=>?_,fun h=>?_⟩,?_⟩
 . unfold C7; rw [if_neg (by omega),if_pos h]
 . rw [hm0]
   unfold C7
   by_cases h1:r.Freq=1
   . rw [if_pos h1,if_pos h1]
   . rw [if_neg h1,if_neg h1,if_neg h]
 rintro m hm
 have hm1:0<=m/\m<=53:=by
  rw [hm]; unfold C7
  split
  . omega
  . split <;> omega
 refine ⟨fun x=>0<=x/\x<=r.Days.length/\M6 r.Days m x,fun x=>((r.Days.length:Int)-x).toNat,⟨Int.le_refl _,by omega,M6.nil⟩,?_⟩
 rintro x ⟨x0,x1,hd⟩
 refine ⟨fun hx=>⟨x0,hx,fun _ _=>⟨fun _=>⟨by omega,by omega⟩,fun h=>⟨by omega,by omega⟩,⟨fun h=>by omega,fun h=>by omega⟩,fun _ _=>⟨fun hb=>?_,fun hb=>?_⟩⟩⟩,fun hx=>?_⟩
 . refine (o6 fun R=>?_).symm
   have a:=R.days.ok x x0 hx
   rw [<- hm] at a
   obtain ⟨a1,a2,a3,a4⟩:=a
   rcases hb with (((h | h) | h) | h) | ⟨h0,h⟩
   . omega
   . omega
   . omega
   . omega
   . exact h (a6s.2 (R.days.up x h0 hx))
 . have hb':=fun h=>hb (.inl h)
   exact ⟨⟨by omega,by omega⟩,⟨by omega,by omega,hd.step ⟨by omega,by omega,by omega,by omega⟩ fun h0=>a6s.1 (Classical.not_not.1 fun hn=>hb (.inr ⟨h0,hn⟩))⟩,by dsimp only; omega⟩
 . refine ⟨fun hf=>(o6 fun R=>R.fit hf).symm,fun hf=>?_⟩
   have l1:=@O8 r.Hour
   have l2:=@O8 r.Minute
   have l3:=@O8 r.Second
   have k:=d03 (a:=D3 r.Hour) (b:=D3 r.Minute) (c:=D3 r.Second) (by omega) (by omega) (by omega)
   refine ⟨⟨by omega,by omega⟩,⟨by omega,by omega⟩,⟨by omega,by omega⟩,⟨by omega,by omega⟩,⟨by omega,by omega⟩,⟨by omega,by omega⟩,⟨by omega,by omega⟩,fun _=>k.1,fun _=>k.2,?_⟩
   by_cases hs:b7k r
   . rw [o0.2 ⟨hH,hU,hL,by omega,hm ▸ hd.done hx,hf,hs⟩]
     exact decide_eq_true hs
   . rw [o6 fun R=>hs R.some]
     exact decide_eq_false hs
noncomputable def e4j (r:Rl):Q1 U:=⟨[C1 r=true],[],blB (B6 r)⟩
noncomputable def cqR (a:List (SV U)):Option (Q1 U):=match a with | [.agg l_r]=>(y30.bk (.agg l_r)).bind fun r=>some (e4j r) | _=>none
theorem e1k (args:List (SV U)) (q:Q1 U) (h:cqR args=some q) (ho:m6 q.ob):l8 Nqf 44 args ⟨q.ob,q.hy,q.v,[]⟩:=by
 unfold cqR at h
 split at h
 . rename_i l_r
   obtain ⟨r,hb_r,h⟩:=Option.bind_eq_some_iff.1 h
   cases h
   refine l8.conv (E:=Nqf) (args':=[.agg [.int .i64 r.Freq,.int .i64 r.Interval,.int .i64 r.Count,.sl 25 r.Until,.sl 3 r.Month,.sl 3 r.WeekNo,.sl 3 r.YearDay,.sl 3 r.MonthDay,.sl 60 r.Days,.sl 3 r.Hour,.sl 3 r.Minute,.sl 3 r.Second,.sl 3 r.SetPos,.int .i64 r.Wkst]]) (s8 b6d (j8 b6d q8 c6w 2) Tryz.func44 (k:=.bool) trivial (d8b (pqR r ho.1)) 0) fun D w vs hr=>z8 [.agg l_r] [.agg [.int .i64 r.Freq,.int .i64 r.Interval,.int .i64 r.Count,.sl (N:=U) 25 r.Until,.sl (N:=U) 3 r.Month,.sl (N:=U) 3 r.WeekNo,.sl (N:=U) 3 r.YearDay,.sl (N:=U) 3 r.MonthDay,.sl (N:=U) 60 r.Days,.sl (N:=U) 3 r.Hour,.sl (N:=U) 3 r.Minute,.sl (N:=U) 3 r.Second,.sl (N:=U) 3 r.SetPos,.int .i64 r.Wkst]] _ ⟨fun _ h=>C6 hb_r h,trivial⟩ hr
 . cases h
noncomputable def NqR:Env:=Nqf.addL 44 cqR
theorem d5u:l5 NqR:=b6d.addL Tryz.call44 e1k
end Go.Proofs.YtdjfeninmbpflaaGreat
end
section
namespace Go.Proofs
open Go.Shelf
def Tryz.lays189_ren:Go.Shelf.Ren:=⟨fun | 189=>99 | 125=>112 | 257=>111 | 128=>124 | 129=>125 | 294=>115 | 295=>116 | 296=>117 | 297=>118 | 298=>119 | 299=>120 | 216=>121 | 300=>122 | 301=>123 | 328=>126 | 329=>127 | 330=>128 | 331=>129 | 332=>130 | 215=>113 | 343=>131 | n=>n,fun | 28=>27 | 3=>3 | 46=>137 | 0=>0 | 51=>147 | 53=>149 | 4=>4 | 183=>141 | 182=>140 | 131=>144 | 5=>5 | 9=>9 | 218=>150 | 222=>154 | 228=>156 | 229=>110 | n=>n,fun | n=>n⟩
theorem Tryz.lays189:Go.Proofs.Lays.n189 Tryz.prog Tryz.lays189_ren:={
 mixed:=by kernel_rfl
 f125:=Tryz.func112.trans (congrArg some (by kernel_rfl))
 f128:=Tryz.func124.trans (congrArg some (by kernel_rfl))
 f129:=Tryz.func125.trans (congrArg some (by kernel_rfl))
 f189:=Tryz.func99.trans (congrArg some (by kernel_rfl))
 f215:=Tryz.func113.trans (congrArg some (by kernel_rfl))
 f216:=Tryz.func121.trans (congrArg some (by kernel_rfl))
 f257:=Tryz.func111.trans (congrArg some (by kernel_rfl))
 f294:=Tryz.func115.trans (congrArg some (by kernel_rfl))
 f295:=Tryz.func116.trans (congrArg some (by kernel_rfl))
 f296:=Tryz.func117.trans (congrArg some (by kernel_rfl))
 f297:=Tryz.func118.trans (congrArg some (by kernel_rfl))
 f298:=Tryz.func119.trans (congrArg some (by kernel_rfl))
 f299:=Tryz.func120.trans (congrArg some (by kernel_rfl))
 f300:=Tryz.func122.trans (congrArg some (by kernel_rfl))
 f301:=Tryz.func123.trans (congrArg some (by kernel_rfl))
 f328:=Tryz.func126.trans (congrArg some (by kernel_rfl))
 f329:=Tryz.func127.trans (congrArg some (by kernel_rfl))
 f330:=Tryz.func128.trans (congrArg some (by kernel_rfl))
 f331:=Tryz.func129.trans (congrArg some (by kernel_rfl))
 f332:=Tryz.func130.trans (congrArg some (by kernel_rfl))
 f343:=Tryz.func131.trans (congrArg some (by kernel_rfl))
 t0:=Tryz.underlying0
 a0:=Tryz.isAgg0
 z0:=Tryz.sizeOf0
 v0:=Tryz.zeroValue0
 t3:=Tryz.underlying3
 a3:=Tryz.isAgg3
 z3:=Tryz.sizeOf3
 v3:=Tryz.zeroValue3
 t4:=Tryz.underlying4
 a4:=Tryz.isAgg4
 z4:=Tryz.sizeOf4
 v4:=Tryz.zeroValue4
 t5:=Tryz.underlying5
 a5:=Tryz.isAgg5
 z5:=Tryz.sizeOf5
 v5:=Tryz.zeroValue5
 t9:=Tryz.underlying9
 a9:=Tryz.isAgg9
 z9:=Tryz.sizeOf9
 v9:=Tryz.zeroValue9
 t28:=Tryz.underlying27
 a28:=Tryz.isAgg27
 z28:=Tryz.sizeOf27
 v28:=Tryz.zeroValue27
 t46:=Tryz.underlying137
 a46:=Tryz.isAgg137
 z46:=Tryz.sizeOf137
 v46:=Tryz.zeroValue137
 t51:=Tryz.underlying147
 a51:=Tryz.isAgg147
 z51:=Tryz.sizeOf147
 v51:=Tryz.zeroValue147
 t53:=Tryz.underlying149
 a53:=Tryz.isAgg149
 z53:=Tryz.sizeOf149
 v53:=Tryz.zeroValue149
 t131:=Tryz.underlying144
 a131:=Tryz.isAgg144
 z131:=Tryz.sizeOf144
 v131:=Tryz.zeroValue144
 t182:=Tryz.underlying140
 a182:=Tryz.isAgg140
 z182:=Tryz.sizeOf140
 v182:=Tryz.zeroValue140
 t183:=Tryz.underlying141
 a183:=Tryz.isAgg141
 z183:=Tryz.sizeOf141
 v183:=Tryz.zeroValue141
 t218:=Tryz.underlying150
 a218:=Tryz.isAgg150
 z218:=Tryz.sizeOf150
 v218:=Tryz.zeroValue150
 t222:=Tryz.underlying154
 a222:=Tryz.isAgg154
 z222:=Tryz.sizeOf154
 v222:=Tryz.zeroValue154
 t228:=Tryz.underlying156
 a228:=Tryz.isAgg156
 z228:=Tryz.sizeOf156
 v228:=Tryz.zeroValue156
 t229:=Tryz.underlying110
 a229:=Tryz.isAgg110
 z229:=Tryz.sizeOf110
 v229:=Tryz.zeroValue110 }
open Go.Sort Go.RowKit in
theorem Tryz.slices_Sort_int (blk off cap:Nat) (zs:List Int) (w:World) (hH:Holds (Value.int .i64) w blk off zs.toArray) (hblk:blk<w.heap.size) (hsz:zs.length<4611686018427387904) :
  Calls Tryz.prog 99 #[.slice (some ⟨blk,off,none⟩) zs.length cap] w fun e w' =>
   e=.returned (.tuple #[])/\∃ n os,w'=grow (putRow (Value.int .i64) (Sort.ahead w n) blk off (zs.mergeSort fun x y=>decide (x<=y)).toArray) os:=Any.slices_Sort_int Tryz.lays189 blk off cap zs w hH hblk hsz
def Tryz.laysNm215_ren:Go.Shelf.Ren:=⟨fun | 15=>98 | n=>n,fun | 22=>27 | 3=>3 | 4=>4 | n=>n,fun | n=>n⟩
theorem Tryz.laysNm215:Go.Proofs.Lays2.n15 Tryz.prog Tryz.laysNm215_ren:={
 mixed:=by kernel_rfl
 f15:=Tryz.func98.trans (congrArg some (by kernel_rfl))
 t3:=Tryz.underlying3
 a3:=Tryz.isAgg3
 z3:=Tryz.sizeOf3
 v3:=Tryz.zeroValue3
 t4:=Tryz.underlying4
 a4:=Tryz.isAgg4
 z4:=Tryz.sizeOf4
 v4:=Tryz.zeroValue4
 t22:=Tryz.underlying27
 a22:=Tryz.isAgg27
 z22:=Tryz.sizeOf27
 v22:=Tryz.zeroValue27
 i3:=by kernel_rfl }
open Go.RowKit Go.Lib in
theorem Tryz.slices_Clone_int (b off n c:Nat) (zs:List Int) (w:World) (hz:n<=zs.length) (hbig:n * 8<=140737488355328) (hc:∀ j,j<zs.length->w.cell? ⟨b,off+j,none⟩=some (.int .i64 (zs.getD j 0))) :
  Calls Tryz.prog 98 #[.slice (some ⟨b,off,none⟩) n c] w fun e w'=>∃ v',e=.returned v'/\w'.ownsRow w.heap.size 3 1 v' n ((zs.take n).map (Value.int .i64))/\v'≠.slice none 0 0/\Below w.heap.size w w':=Any.slices_Clone_int Tryz.laysNm215 b off n c zs w hz hbig hc
open Go.RowKit Go.Lib in
theorem Tryz.slices_Clone_int_nil (n c:Nat) (w:World) :
  Calls Tryz.prog 98 #[.slice none n c] w fun e w'=>e=.returned (.slice none 0 0)/\w'=w:=Any.slices_Clone_int_nil Tryz.laysNm215 n c w
open Go.RowKit Go.Lib in
theorem Tryz.slices_Clone_int_zero (a:Addr) (c:Nat) (w:World) :
  Calls Tryz.prog 98 #[.slice (some a) 0 c] w fun e w'=>∃ v',e=.returned v'/\w'.ownsRow w.heap.size 3 1 v' 0 []/\v'≠.slice none 0 0/\Below w.heap.size w w':=Any.slices_Clone_int_zero Tryz.laysNm215 a c w
def Tryz.laysNm220_ren:Go.Shelf.Ren:=⟨fun | 20=>100 | n=>n,fun | 22=>27 | 3=>3 | 4=>4 | 0=>0 | n=>n,fun | n=>n⟩
theorem Tryz.laysNm220:Go.Proofs.Lays2.n20 Tryz.prog Tryz.laysNm220_ren:={
 mixed:=by kernel_rfl
 f20:=Tryz.func100.trans (congrArg some (by kernel_rfl))
 t0:=Tryz.underlying0
 a0:=Tryz.isAgg0
 z0:=Tryz.sizeOf0
 v0:=Tryz.zeroValue0
 t3:=Tryz.underlying3
 a3:=Tryz.isAgg3
 z3:=Tryz.sizeOf3
 v3:=Tryz.zeroValue3
 t4:=Tryz.underlying4
 a4:=Tryz.isAgg4
 z4:=Tryz.sizeOf4
 v4:=Tryz.zeroValue4
 t22:=Tryz.underlying27
 a22:=Tryz.isAgg27
 z22:=Tryz.sizeOf27
 v22:=Tryz.zeroValue27
 i3:=by kernel_rfl }
open Go.RowKit Go.Lib Go.Sort in
theorem Tryz.slices_Compact_int (blk off cap:Nat) (zs:List Int) (w:World) (hH:Holds (Value.int .i64) w blk off zs.toArray) (hsz:zs.length<=9223372036854775807) (hcap:zs.length<=cap) :
  Calls Tryz.prog 100 #[.slice (some ⟨blk,off,none⟩) zs.length cap] w fun e w'=>e=.returned (.slice (some ⟨blk,off,none⟩) (Lib.compact zs).length cap)/\∃ q,w'=putRow (Value.int .i64) (Sort.ahead w q) blk off (Lib.compact zs++List.replicate (zs.length-(Lib.compact zs).length) 0).toArray:=Any.slices_Compact_int Tryz.laysNm220 blk off cap zs w hH hsz hcap
open Go.RowKit Go.Lib Go.Sort in
theorem Tryz.slices_Compact_int_empty (a:Option Addr) (cap:Nat) (w:World) :
  Calls Tryz.prog 100 #[.slice a 0 cap] w fun e w'=>e=.returned (.slice a 0 cap)/\w'=w:=Any.slices_Compact_int_empty Tryz.laysNm220 a cap w
open Go.RowKit Go.Sort in
theorem Tryz.slices_Sort_int_none (p:Option Addr) (cap:Nat) (w:World) :
  Calls Tryz.prog 99 #[.slice p 0 cap] w fun e w'=>e=.returned (.tuple #[])/\w'=w:=Any.slices_Sort_int_none Tryz.lays189 p cap w
end Go.Proofs
end
section
namespace Go.Proofs.YtdjfeninmbpflaaGreat
open Go Go.Wk Go.Wl Go.Rx Go.Re Go.Proofs Go.RowKit
theorem a7i {w w1 w':World} (hs:Sim w w1) (h:RowKit.Below w1.heap.size w1 w'):Ext [] w w':=by
 obtain ⟨k,rfl⟩:=hs
 exact ⟨h.os,h.tape,h.output,h.size,fun b hb _=>h.block b hb⟩
theorem Sim.cell {w w1:World} (h:Sim w w1) (a:Addr):w1.cell? a=w.cell? a:=by obtain ⟨k,rfl⟩:=h; rfl
theorem c2a {Z:Nat->Prop} {w w2:World} {v':Value} {n:Nat} {xs:List Value} {l:List Int} (hl:l.length=n) (hl63:∀ s∈l,InI s) (hx:xs=l.map (Value.int .i64)) (ho:w2.ownsRow w.heap.size 3 1 v' n xs):∃ bs,(∀ b∈bs,w.heap.size<=b)/\Ac A7 Z w2 v' l bs:=by
 subst hx
 rcases ho.2 with ⟨hv,hn⟩ | ⟨g,cap',cur,hv,hbg,hg,hn,hcm,hcs,hct⟩
 . exact ⟨[],fun _ h=>(by cases h),.inl ⟨hv,List.eq_nil_of_length_eq_zero (by omega),rfl⟩⟩
 . refine ⟨[g],fun b hb=>by rw [List.mem_singleton.1 hb]; exact hbg,.inr ⟨g,cap',cur.toList,3,by rw [hl]; exact hv,rfl,⟨(0,0),.inl rfl,hg⟩,by rw [Array.length_toList]; exact hcs,by omega,fun i hi=>?_⟩⟩
   refine ⟨[.int .i64 l[i]],rfl,fun j hj=>?_,⟨rfl,hl63 _ (List.getElem_mem _)⟩⟩
   have hj0:j=0:=by have hj:j<1:=hj; omega
   subst hj0
   have e3:i * A7.sz+0=i:=by show i * 1+0=i; omega
   rw [e3]
   have:=congrArg (fun x=>x[i]?) hct
   rw [Nat.mul_one,List.getElem?_take_of_lt (by omega),List.getElem?_map,List.getElem?_eq_getElem hi] at this
   simpa using this
theorem b97 (l:List Int) (D Z:Nat->Prop) (w w1:World) (hs:Sim w w1) (v:Value) (hv:(u5 A7).rd D w [v] l) (h1:l.length<=1000000) :
  Calls Tryz.prog 98 #[v] w1 fun e w2=>∃ v' bs,e=.returned v'/\Ext [] w w2/\(∀ b∈bs,w.heap.size<=b)/\Ac A7 Z w2 v' l bs:=by
 have hsz:w1.heap.size=w.heap.size:=by obtain ⟨k,rfl⟩:=hs; rfl
 obtain ⟨hl63,A,cap,e,⟨_,hcap⟩,hc⟩:=hv
 simp only [List.cons.injEq,and_true] at e
 subst e
 by_cases h0:l.length=0
 . have hl:=List.eq_nil_of_length_eq_zero h0
   rw [h0]
   cases A with
   | none=>exact Calls.mono (Tryz.slices_Clone_int_nil 0 cap w1) fun e w2 ⟨he,hw⟩=>⟨_,[],he,by subst hw; exact b75 hs (Ext.refl _ _),fun _ h=>(by cases h),.inl ⟨rfl,hl,rfl⟩⟩
   | some a =>
    refine Calls.mono (Tryz.slices_Clone_int_zero a cap w1) fun e w2 ⟨v',he,ho,_,hbl⟩=>?_
    rw [hsz] at ho
    obtain ⟨bs,hb,hac⟩:=c2a (Z:=Z) (l:=l) h0 (fun s hs=>by rw [hl] at hs; cases hs) (by rw [hl]; rfl) ho
    exact ⟨v',bs,he,a7i hs hbl,hb,hac⟩
 obtain ⟨b,o,c,eA,hb,hcell,hrd⟩:=hc 0 (by omega)
 subst eA
 have hcells:∀ (j:Nat),j<l.length->w1.cell? ⟨b,o+j,none⟩=some (.int .i64 (l.getD j 0)):=fun j hj=>by
  rw [Sim.cell hs,List.getD_eq_getElem?_getD,List.getElem?_eq_getElem hj]
  obtain ⟨b',o',c',eA',_,hcell',hrd'⟩:=hc j hj
  simp only [Option.some.injEq,Addr.mk.injEq] at eA'
  obtain ⟨rfl,rfl,-⟩:=eA'
  have hc1:=hrd'.1
  subst hc1
  obtain ⟨C,T,z,hh,hC⟩:=hcell'
  have:=hC 0 (by simp)
  have e1:o+j * A7.sz+0=o+j:=by show o+j * 1+0=o+j; omega
  rw [e1] at this
  unfold World.cell?
  simp only [hh]
  simpa using this
 refine Calls.mono (Tryz.slices_Clone_int b o l.length cap l w1 (Nat.le_refl _) (by omega) hcells) fun e w2 ⟨v',he,ho,hne,hbl⟩=>?_
 rw [hsz] at ho
 obtain ⟨bs,hb',hac⟩:=c2a (Z:=Z) (l:=l) rfl (fun s hs=>by
  obtain ⟨i,hi,rfl⟩:=List.getElem_of_mem hs
  obtain ⟨_,_,_,_,_,_,h⟩:=hc i hi
  exact h.2) (by rw [List.take_of_length_le (Nat.le_refl _)]) ho
 exact ⟨v',bs,he,a7i hs hbl,hb',hac⟩
theorem d8g {K nx:Nat} {args:List (SV U)} {l:List Int} {ob:List Prop} (hl:l.length<=1000000)
  (h:∀ (ρ:n9) (Z:Nat->Prop) (w:World) (vs:List Value),Rep U eT ρ Z w (.tuple vs.toArray) (.tup args)->∀ w1,Sim w w1->Calls Tryz.prog K vs.toArray w1 fun e w2=>∃ v' bs,e=.returned v'/\Ext [] w w2/\(∀ b∈bs,w.heap.size<=b)/\Ac A7 Z w2 v' l bs) :
  E7 Tryz.prog U eT Gl K args nx ⟨ob,[],.acc nx,[.ac (N:=U) 3 l]⟩:=⟨fun ρ Z w vs hfr hz _ ha w1 hs=>by
 refine Calls.mono (h ρ Z w vs ha w1 hs) fun e w2 ⟨v',bs,he,hx,hb,hac⟩=>?_
 obtain ⟨A,cap,rfl⟩:∃ A cap,v'=.slice A l.length cap:=by
  rcases hac with ⟨e1,e2,_⟩ | ⟨b,cap,C,T,e1,_⟩
  . subst e1; subst e2; exact ⟨_,_,rfl⟩
  . exact ⟨_,_,e1⟩
 have hsub:=w4 (L:=⟨0,A,l.length,cap,bs⟩) (hfr nx (Nat.le_refl _))
 refine ⟨_,w2,he,Sim.refl _,B5 ρ nx ⟨0,A,l.length,cap,bs⟩,Z,hsub,fun i hi=>by have hi:nx+1<=i:=hi; unfold B5; rw [if_neg (by omega)]; exact hfr i (by omega),fun _ h=>h,fun _ h=>.inl h,.acc j9,?_,trivial⟩
 refine (Sep.nil hz).add hx ⟨_,j9,rfl,(show l.length<=9223372036854775807 by omega),hac⟩ p9 (fun b hb'=>?_) rfl
 have hb':b∈o9 U (B5 ρ nx ⟨0,A,l.length,cap,bs⟩) nx (.ac (N:=U) 3 l):=hb'
 have hb':b∈bs:=Eq.mp (congrArg (b∈·) (s4 (N:=U) (id:=nx) (t:=3) (l:=(l:List (U.U 3))) (j9 (ρ:=ρ) (id:=nx)))) hb'
 exact ⟨hb b hb',hac.lt b hb'⟩⟩
def cCl (a:List (SV U)) (nx:Nat):Option (CR U):=match a with | [.sl 3 l]=>some ⟨[List.length (α:=Int) l<=1000000],[],.acc nx,[.ac (N:=U) 3 l]⟩ | _=>none
theorem e14 (args:List (SV U)) (nx:Nat) (c:CR U) (h:cCl args nx=some c) (hpu:args.all z7=true) (ho:m6 c.ob):E7 Tryz.prog U eT Gl 98 args nx c:=by
 unfold cCl at h
 split at h
 . rename_i l
   cases h
   exact d8g ho.1 fun ρ Z w vs ha w1 hs=>by
    obtain ⟨v1,r1,rfl,hv1,ha⟩:=Rep.tup_cons ha
    obtain rfl:=U8 ha
    cases hv1 with | sl hv=>exact b97 l Z Z w w1 hs v1 hv ho.1
 . cases h
theorem c81 {K:Nat} {l l':List Int} (hn:l'.length=l.length) (h:∀ (Z:Nat->Prop) (w:World) (v:Value) (bs:List Nat),Ac A7 Z w v l bs->B7 Tryz.prog K [v] w fun _ w'=>Ac A7 Z w' v l' bs/\Ext bs w w') :
  O0 Tryz.prog U eT Gl K [.acc 0] [(0,.ac (N:=U) 3 l)] 2 (fun k=>True->k .un [(0,.ac (N:=U) 3 l')] 2):=by
 intro kk hk ρ Z w vs B hfr hsep hg ha
 have ok:=hsep.ok 0 (u7 U eT ρ B 0 (.ac (N:=U) 3 l)) rfl
 obtain ⟨L,hL,hLn,hlen,hac⟩:=ok.holds
 have hF:(u7 U eT ρ B 0 (.ac (N:=U) 3 l)).F=L.bs:=by show o9 U ρ 0 (.ac (N:=U) 3 l)=_; exact s4 hL
 obtain ⟨v1,vr,hvs,hv1,hvr⟩:=Rep.tup_cons ha
 obtain rfl:=U8 hvr
 have hv1':v1=.slice L.A L.n L.cap:=by
  cases hv1 with | acc hL'=>rw [hL] at hL'; cases hL'; rfl
 subst hv1'
 rw [hvs]
 refine (h Z w _ L.bs hac).mono fun v w' ⟨hac',x1⟩=>?_
 have hs1:=Wl.Sep.upd hsep 0 (t:=u7 U eT ρ B 0 (.ac (N:=U) 3 l)) (t':=u7 U eT ρ B 0 (.ac (N:=U) 3 l')) rfl (by rw [hF]; exact x1) ⟨L,hL,by rw [hLn]; exact hn.symm,(show l'.length<=_ by rw [hn]; exact hlen),hac'⟩ p9 (fun b hb=>by
  have hb:b∈o9 U ρ 0 (.ac (N:=U) 3 l'):=hb
  have hb:b∈L.bs:=Eq.mp (congrArg (b∈·) (s4 (N:=U) (id:=0) (t:=3) (l:=(l':List (U.U 3))) hL)) hb
  exact ⟨by rw [hF]; exact .inl hb,hac'.lt b hb⟩) rfl
 exact ⟨ρ,Z,.un,[(0,.ac (N:=U) 3 l')],2,hs1,hfr,fun _ _ h=>h,fun _ h=>h,fun _ h=>.inl h,.un,hk trivial⟩
theorem c91 {K:Nat} {l l':List Int} (hn:l'.length<=9223372036854775807) (h:∀ (Z:Nat->Prop) (w:World) (v:Value) (bs:List Nat),Ac A7 Z w v l bs->B7 Tryz.prog K [v] w fun v' w'=>Ac A7 Z w' v' l' bs/\Ext bs w w') :
  O0 Tryz.prog U eT Gl K [.acc 0] [(0,.ac (N:=U) 3 l)] 2 (fun k=>True->k (.acc 2) [(2,.ac (N:=U) 3 l')] 3):=by
 intro kk hk ρ Z w vs B hfr hsep hg ha
 have ok:=hsep.ok 0 (u7 U eT ρ B 0 (.ac (N:=U) 3 l)) rfl
 obtain ⟨L,hL,hLn,hlen,hac⟩:=ok.holds
 have hF:(u7 U eT ρ B 0 (.ac (N:=U) 3 l)).F=L.bs:=by show o9 U ρ 0 (.ac (N:=U) 3 l)=_; exact s4 hL
 obtain ⟨v1,vr,hvs,hv1,hvr⟩:=Rep.tup_cons ha
 obtain rfl:=U8 hvr
 have hv1':v1=.slice L.A L.n L.cap:=by
  cases hv1 with | acc hL'=>rw [hL] at hL'; cases hL'; rfl
 subst hv1'
 rw [hvs]
 refine (h Z w _ L.bs hac).mono fun v w' ⟨hac',x1⟩=>?_
 obtain ⟨A,cap,rfl⟩:∃ A cap,v=.slice A l'.length cap:=by
  rcases hac' with ⟨e1,e2,_⟩ | ⟨b,cap,C,T,e1,_⟩
  . subst e1; subst e2; exact ⟨_,_,rfl⟩
  . exact ⟨_,_,e1⟩
 have hρ:=w4 (L:=⟨0,A,l'.length,cap,L.bs⟩) (hfr 2 (Nat.le_refl _))
 have hs1:=Wl.Sep.upd hsep 0 (t:=u7 U eT ρ B 0 (.ac (N:=U) 3 l)) (t':=u7 U eT (B5 ρ 2 ⟨0,A,l'.length,cap,L.bs⟩) B 2 (.ac (N:=U) 3 l')) rfl (by rw [hF]; exact x1) ⟨_,j9,rfl,hn,hac'⟩ p9 (fun b hb=>by
  have hb:b∈o9 U (B5 ρ 2 ⟨0,A,l'.length,cap,L.bs⟩) 2 (.ac (N:=U) 3 l'):=hb
  have hb:b∈L.bs:=Eq.mp (congrArg (b∈·) (s4 (N:=U) (id:=2) (t:=3) (l:=(l':List (U.U 3))) (j9 (ρ:=ρ) (id:=2)))) hb
  exact ⟨by rw [hF]; exact .inl hb,hac'.lt b hb⟩) rfl
 exact ⟨B5 ρ 2 ⟨0,A,l'.length,cap,L.bs⟩,Z,.acc 2,[(2,.ac (N:=U) 3 l')],3,hs1,fun i hi=>by unfold B5; rw [if_neg (by omega)]; exact hfr i (by omega),hρ,fun _ h=>h,fun _ h=>.inl h,.acc j9,hk trivial⟩
def fSo:FC U:=⟨[],[],fun a its=>match a,its with
 | [.acc 0],[(0,.ac 3 l)]=>some ⟨[List.length (α:=Int) l<=1000000],[],.un,[(0,.ac (N:=U) 3 (srt l))],2⟩
 | _,_=>none⟩
theorem d2j (args:List (SV U)) (its:b9 U) (r:FR U) (h:fSo.C args its=some r) (ho:m6 r.ob):O0 Tryz.prog U eT Gl 99 args its (2 * its.length) (fun k=>m6 r.hy->k r.v r.its r.n):=by
 unfold fSo at h
 simp only at h
 split at h
 . rename_i l
   cases h
   have ho1:List.length (α:=Int) l<=1000000:=ho.1
   exact c81 (X1 l) fun Z w v bs hac=>c8y Tryz.slices_Sort_int_none Tryz.slices_Sort_int hac (by omega)
 . cases h
theorem a2s (l:List Int):(Lib.compact l).length<=l.length:=by
 unfold Lib.compact Lib.compactUpTo
 rw [List.length_map]
 have:=List.length_filter_le (Lib.keeps l.toArray) (List.range l.length)
 rwa [List.length_range] at this
theorem b07 {l:List Int} {x:Int} (h:x∈Lib.compact l):x∈l:=by
 unfold Lib.compact Lib.compactUpTo at h
 obtain ⟨j,hj,rfl⟩:=List.mem_map.1 h
 have hj:=List.mem_range.1 (List.mem_filter.1 hj).1
 have e:l.toArray[j]! = l[j]:=by simp [hj]
 rw [e]
 exact List.getElem_mem hj
theorem b4b {Z:Nat->Prop} {bs:List Nat} {w:World} {v:Value} {l:List Int} (h:Ac A7 Z w v l bs) (hl:l.length<=1000000) :
  B7 Tryz.prog 100 [v] w fun v' w'=>Ac A7 Z w' v' (Lib.compact l) bs/\Ext bs w w':=by
 intro w1 hs
 obtain ⟨k,rfl⟩:=hs
 rcases h with ⟨rfl,rfl,rfl⟩ | ⟨b,cap,C,T,rfl,rfl,ho,hC,hle,hc⟩
 . refine Calls.mono (Tryz.slices_Compact_int_empty none 0 _) ?_
   rintro e w2 ⟨rfl,rfl⟩
   exact ⟨_,w,rfl,⟨k,rfl⟩,.inl ⟨rfl,rfl,rfl⟩,Ext.refl _ _⟩
 . obtain ⟨z,hz,ho⟩:=ho
   have hsz:C.length=cap:=by simpa [A7] using hC
   have hget:∀ i (h:i<l.length),C[i]?=some (.int .i64 l[i])/\InI l[i]:=by
    intro i hi
    obtain ⟨c,h1,h2,h3⟩:=hc i hi
    have:=h2 0 (by simp [A7])
    simp only [A7,Nat.mul_one,Nat.add_zero] at this h3
    rw [this,h3.1]; exact ⟨rfl,h3.2⟩
   refine Calls.mono (Tryz.slices_Compact_int b 0 cap l { w with drawn:=k } (fun j hj=>?_) (by omega) hle) ?_
   . have hj':j<l.length:=by simpa using hj
     constructor
     . simp only [World.cell?,show ({ w with drawn:=k }:World).heap[b]?=_ from ho]
       simp [(hget j hj').1,hj']
     . rcases hz with rfl | hz
       . simp [World.frozen?,show ({ w with drawn:=k }:World).heap[b]?=_ from ho]
       . simp [World.frozen?,show ({ w with drawn:=k }:World).heap[b]?=_ from ho]; omega
   . rintro e w2 ⟨rfl,n,rfl⟩
     have hcl:=a2s l
     have hmem:∀ x∈Lib.compact l,x∈l:=fun x=>b07
     generalize Lib.compact l=cl at hcl hmem
     obtain ⟨fl,hfl⟩:∃ fl,fl=(cl++List.replicate (l.length-cl.length) 0).toArray:=⟨_,rfl⟩
     rw [<- hfl]
     have hfs:fl.size=l.length:=by rw [hfl]; simp; omega
     have hfi:∀ i (h:i<cl.length) (h':i<fl.size),fl[i]=cl[i]:=by
      intro i h h'
      subst hfl
      simp [h]
     clear hfl
     have hh:(Sort.putRow (Value.int .i64) (Sort.ahead w n) b 0 fl).heap[b]?=some (.cells (Sort.putCells (Value.int .i64) 0 fl C.toArray) T z):=by
      simp only [Sort.putRow,Sort.mapBlock,Sort.ahead,Array.getElem?_modify,if_true]
      rw [show w.heap[b]?=_ from ho]; rfl
     have ho':J6 (Sort.putRow (Value.int .i64) (Sort.ahead w n) b 0 fl) b T (Sort.putCells (Value.int .i64) 0 fl C.toArray).toList:=by
      refine ⟨z,?_,by rw [hh]⟩
      simpa [Sort.putCells] using hz
     refine ⟨_,Sort.putRow (Value.int .i64) (Sort.ahead w n) b 0 fl,rfl,⟨k+n,rfl⟩,.inr ⟨b,cap,_,T,rfl,rfl,ho',?_,by omega,?_⟩,⟨rfl,rfl,rfl,?_,?_⟩⟩
     . simp [Sort.putCells,A7,hsz]
     . intro i hi
       refine ⟨[.int .i64 cl[i]],rfl,fun j hj=>?_,rfl,?_⟩
       . have:j=0:=by simp [A7] at hj; omega
         subst this
         have hci:i<C.length:=by omega
         have hil:i<fl.size:=by omega
         simp [Sort.putCells,A7,Array.getElem?_mapIdx,hci,hil,hfi i hi hil]
       . obtain ⟨j,hj,e⟩:=List.getElem_of_mem (hmem _ (List.getElem_mem hi))
         rw [<- e]; exact (hget j hj).2
     . simp [Sort.ahead,Sort.putRow,Sort.mapBlock]
     . intro x hx hn
       have hne:x≠b:=by simpa using hn
       simp only [Sort.putRow,Sort.mapBlock,Sort.ahead,Array.getElem?_modify]
       rw [if_neg (Ne.symm hne)]
def fCo:FC U:=⟨[],[],fun a its=>match a,its with
 | [.acc 0],[(0,.ac 3 l)]=>some ⟨[List.length (α:=Int) l<=1000000],[],.acc 2,[(2,.ac (N:=U) 3 (Lib.compact (α:=Int) l))],3⟩
 | _,_=>none⟩
theorem d4m (args:List (SV U)) (its:b9 U) (r:FR U) (h:fCo.C args its=some r) (ho:m6 r.ob):O0 Tryz.prog U eT Gl 100 args its (2 * its.length) (fun k=>m6 r.hy->k r.v r.its r.n):=by
 unfold fCo at h
 simp only at h
 split at h
 . rename_i l
   cases h
   have ho1:List.length (α:=Int) l<=1000000:=ho.1
   exact c91 (by have:=a2s l; omega) fun Z w v bs hac=>b4b hac ho1
 . cases h
end Go.Proofs.YtdjfeninmbpflaaGreat
end
section
namespace Go.Proofs.YtdjfeninmbpflaaGreat
open Go Go.Wk Go.Wl Go.Rx Go.Re 
noncomputable def N2:Env:=(((NqR.addC 98 cCl).addX 99 fSo).addX 100 fCo)
theorem c1c:l5 N2:=((d5u.addC Tryz.call98 e14).addX Tryz.call99 d2j).addX Tryz.call100 d4m
end Go.Proofs.YtdjfeninmbpflaaGreat
end
section
namespace Go.Re
open Go.Wl
open Go.Rx (b8)
def D5 (l:List Int) (n:Int):Bool:=decide (n∈l)
theorem M5 {l:List Int} {n:Int}:D5 l n=true↔n∈l:=by unfold D5; exact decide_eq_true_iff
theorem D9 {α:Type} [Inhabited α] {l:List α} {x:α} (h:x∈l):∃ i:Int,0<=i/\i<l.length/\ix l i=x:=by
 obtain ⟨k,hk,e⟩:=List.getElem_of_mem h
 refine ⟨k,by omega,by omega,?_⟩
 rw [A2 (by omega)]
 exact e
theorem b0y {l:List Int} {n i:Int} (h0:0<=i) (h1:i<l.length) (h:ix l i=n):D5 l n=true:=M5.2 (h ▸ a0k h0 h1)
theorem b7n {l:List Int} {n:Int} (h:∀ i:Int,0<=i->i<l.length->ix l i≠n):D5 l n=false:=decide_eq_false fun hm=>by
 obtain ⟨i,h0,h1,e⟩:=D9 hm
 exact h i h0 h1 e
def D8 (a b:List Int):Bool:=decide (a=b)
theorem c7n {a b:List Int} (hl:a.length=b.length) (h:∀ i:Int,0<=i->i<a.length->ix a i=ix b i):a=b:=List.ext_getElem hl fun i h1 h2=>by
 have:=h i (by omega) (by omega)
 rw [A2 (by omega),A2 (by omega)] at this
 exact this
def hasE (l:List Int) (n all:Int):Bool:=D5 l n || D5 l (n-all-1)
def Z7 (l:List Int) (n all:Int):Bool:=decide ((l.length:Int)=0) || hasE l n all
def a33 (x y:Int):Int:=if x<y then -1 else if y<x then 1 else 0
def V5 (a b:Nt):Int:=if a33 a.Day b.Day≠0 then a33 a.Day b.Day else a33 a.N b.N
theorem a3z {a b:Nt}:0<=V5 a b↔¬ Z8 a b:=by
 unfold V5 a33 Z8
 by_cases h1:a.Day<b.Day
 . simp [h1]
 . by_cases h2:b.Day<a.Day
   . simp [h1,h2]; omega
   . have e:a.Day=b.Day:=by omega
     by_cases h3:a.N<b.N
     . simp [e,h3]
     . by_cases h4:b.N<a.N
       . simp [e,h3,h4]
       . simp [e,h3,h4]
open Classical in
noncomputable def c4g (r:Rl):Bool:=decide (b01 r)
open Classical in
theorem d0x {r:Rl} (h:b01 r):true=c4g r:=(decide_eq_true h).symm
open Classical in
theorem d0f {r:Rl} (h:¬ b01 r):false=c4g r:=(decide_eq_false h).symm
def C9 (l:List Int):List Int:=Lib.compact (srt l)
def UpL (l:List Int):Prop:=∀ i:Int,0<i->i<l.length->ix l (i-1)<ix l i
theorem b06 {l:List Int} (h:UpL l):∀ (j i:Nat) (hi:i<j) (hj:j<l.length),l[i]'(by omega)<l[j]:=by
 intro j
 induction j with
 | zero=>intro i hi; omega
 | succ j ih =>
  intro i hi hj
  have h1:=h (j+1:Nat) (by omega) (by omega)
  have e:((j+1:Nat):Int)-1=(j:Int):=by omega
  rw [e,A2 (by omega),A2 (by omega)] at h1
  have h1:l[j]<l[j+1]:=h1
  by_cases e:i=j
  . subst e; exact h1
  . have:=ih i (by omega) (by omega)
    omega
theorem compact_all {l:List Int} (h:∀ j,j<l.length->Lib.keeps l.toArray j=true):Lib.compact l=l:=by
 unfold Lib.compact Lib.compactUpTo
 rw [List.filter_eq_self.2 fun j hj=>h j (List.mem_range.1 hj)]
 apply List.ext_getElem
 . simp
 . intro i h1 h2
   simp [h2]
theorem a9j {l:List Int} (h:(Lib.compact l).length=l.length):∀ j,j<l.length->Lib.keeps l.toArray j=true:=by
 unfold Lib.compact Lib.compactUpTo at h
 rw [List.length_map] at h
 have h2:((List.range l.length).filter (Lib.keeps l.toArray)).length=(List.range l.length).length:=by rw [h,List.length_range]
 have:=List.length_filter_eq_length_iff.1 h2
 exact fun j hj=>this j (List.mem_range.2 hj)
theorem a6m {l:List Int} {j:Nat} (hj:j<l.length):Lib.keeps l.toArray j=true↔(j=0 ∨ ix l ((j:Int)-1)≠ix l j):=by
 unfold Lib.keeps
 by_cases h0:j=0
 . subst h0; simp
 . have e1:l.toArray[j]! = ix l j:=by
     rw [A2 (by omega)]; simp [hj]
   have e2:l.toArray[j-1]! = ix l ((j:Int)-1):=by
    rw [A2 (by omega)]
    have:((j:Int)-1).toNat=j-1:=by omega
    simp only [this]
    have hj1:j-1<l.length:=by omega
    simp [hj1]
   rw [e1,e2,decide_eq_true_iff]
   exact ⟨fun h=>h.imp id fun h e=>h e.symm,fun h=>h.imp id fun h e=>h e.symm⟩
theorem c2j {l:List Int} (h:UpL l):srt l=l:=by
 unfold srt
 apply List.mergeSort_of_pairwise
 rw [List.pairwise_iff_getElem]
 intro i j hi hj hij
 have:=b06 h j i hij hj
 exact decide_eq_true (by omega)
theorem a4c {l:List Int}:l=C9 l↔UpL l:=by
 constructor
 . intro h
   have hlen:(Lib.compact (srt l)).length=(srt l).length:=by
    rw [X1]
    exact congrArg List.length h.symm
   have hk:=a9j hlen
   have hs:srt l=l:=by
    have:=compact_all hk
    unfold C9 at h
    rw [this] at h
    exact h.symm
   rw [hs] at hk
   have hp:=d1b l
   rw [hs] at hp
   intro i h0 h1
   have k1:=(a6m (l:=l) (j:=i.toNat) (by omega)).1 (hk i.toNat (by omega))
   have e:((i.toNat:Nat):Int)=i:=by omega
   rw [e] at k1
   have k2:ix l (i-1)<=ix l i:=by
    rw [A2 (by omega),A2 (by omega)]
    exact List.pairwise_iff_getElem.1 hp _ _ (by omega) (by omega) (by omega)
   rcases k1 with k1 | k1
   . omega
   . omega
 . intro h
   unfold C9
   rw [c2j h,compact_all]
   intro j hj
   refine (a6m hj).2 ?_
   by_cases h0:j=0
   . exact .inl h0
   . right
     have:=h j (by omega) (by omega)
     omega
end Go.Re
end
section
namespace Go.Proofs.YtdjfeninmbpflaaGreat
open Go Go.Wk Go.Wl Go.Rx Go.Re 
attribute [local irreducible] i6
def c3l:Nat->Ann:=fun | 68=>⟨9,fun _=>none,fun _=>none⟩ | _=>⟨0,fun _=>none,fun _=>none⟩
def VgS (l:List Int) (Q:List Int->Prop):Prop :=
l.length<=1000000/\l.length<=1000000/\(srt l).length<=1000000/\Q (Lib.compact (srt l))
theorem d5h {l:List Int} {Q:List Int->Prop}:@Eq Prop (VgS l Q) (i6 (E:=N2) (j7 N2 H0 c3l 2) (c3l 68) Tryz.f68 [.sl (N:=U) 3 l] [] [] 0 (n7 N2 [.acc 3] Q)):=by kernel_rfl
theorem d6o {l:List Int} {Q:List Int->Prop} (h:VgS l Q):i6 (E:=N2) (j7 N2 H0 c3l 2) (c3l 68) Tryz.f68 [.sl (N:=U) 3 l] [] [] 0 (n7 N2 [.acc 3] Q):=by rw [<- d5h]; exact h
theorem pgS (l:List Int) (h0:l.length<=1000000):VgS l (fun y0=>y0=C9 l):=by
 unfold VgS
 exact ⟨h0,h0,by rw [X1]; exact h0,rfl⟩
def cgS (a:List (SV U)) (nx:Nat):Option (CR U):=match a with | [.sl 3 l]=>some ⟨[List.length (α:=Int) l<=1000000],[],.acc nx,[.ac 3 (C9 l)]⟩ | _=>none
theorem d7j (args:List (SV U)) (nx:Nat) (c:CR U) (h:cgS args nx=some c) (hp:args.all z7=true) (ho:m6 c.ob):E7 N2.P N2.N N2.T N2.G 68 args nx c:=by
 unfold cgS at h
 split at h
 . rename_i l
   cases h
   exact e38 c1c (j8 c1c q8 c3l 2) Tryz.func68 (k:=.acc 3) (x:=C9 l) hp (d6o (pgS l ho.1))
 . cases h
noncomputable def NgS:Env:=N2.addC 68 cgS
theorem b39:l5 NgS:=c1c.addC Tryz.call68 d7j
def c4j:Nat->Ann:=fun | 67=>⟨26,fun | 4=>some ⟨[0,1,12],[.slot 13 (.int .i64)]⟩ | _=>none,fun _=>none⟩ | _=>⟨0,fun _=>none,fun _=>none⟩
def Veq (a:List Int) (b:List Int) (Q:Bool->Prop):Prop :=
((↑a.length:Int)≠(↑b.length:Int)->Q false)/\(¬(↑a.length:Int)≠(↑b.length:Int)->∃ (I:Int->Prop),∃ (m:Int->Nat),I (0:Int)/\∀ (x:Int),I x->(x<(↑a.length:Int)->(0:Int)<=x/\x<(↑a.length:Int)/\(b8 (ix a x)->(0:Int)<=x/\x<(↑b.length:Int)/\(b8 (ix b x)->(ix a x≠ix b x->Q false)/\(¬ix a x≠ix b x->b8 (x+1)/\I (x+1)/\m (x+1)<m x))))/\(¬x<(↑a.length:Int)->Q true))
theorem d1v {a:List Int} {b:List Int} {Q:Bool->Prop}:@Eq Prop (Veq a b Q) (i6 (E:=NgS) (j7 NgS H0 c4j 2) (c4j 67) Tryz.f67 [.sl (N:=U) 3 a,.sl (N:=U) 3 b] [] [] 0 (n7 NgS [.bool] Q)):=by kernel_rfl
theorem e15 {a:List Int} {b:List Int} {Q:Bool->Prop} (h:Veq a b Q):i6 (E:=NgS) (j7 NgS H0 c4j 2) (c4j 67) Tryz.f67 [.sl (N:=U) 3 a,.sl (N:=U) 3 b] [] [] 0 (n7 NgS [.bool] Q):=by rw [<- d1v]; exact h
theorem peq (a:List Int) (b:List Int) (ha:a.length<=1000000):Veq a b (fun y0=>y0=D8 a b):=by
 unfold Veq D8
 refine ⟨fun h=>(decide_eq_false (p:=(a:List Int)=b) fun e=>h (by rw [e])).symm,fun h=>?_⟩
 have hl:a.length=b.length:=by omega
 refine ⟨fun i=>0<=i/\∀ j:Int,0<=j->j<i->ix a j=ix b j,fun i=>((a.length:Int)-i).toNat,⟨by omega,fun j h0 h1=>absurd h1 (by omega)⟩,?_⟩
 rintro i ⟨i0,hi⟩
 refine ⟨fun h1=>⟨i0,h1,fun _=>⟨i0,by omega,fun _=>⟨fun hn=>(decide_eq_false (p:=(a:List Int)=b) fun e=>hn (by rw [e])).symm,fun he=>⟨⟨by omega,by omega⟩,⟨by omega,fun j j0 j1=>?_⟩,by dsimp only; omega⟩⟩⟩⟩,fun h1=>(decide_eq_true (p:=(a:List Int)=b) (c7n hl fun j j0 j1=>hi j j0 (by omega))).symm⟩
 by_cases e:j=i
 . subst e; exact Classical.not_not.1 he
 . exact hi j j0 (by omega)
def ceq (a:List (SV U)):Option (Q1 U):=match a with | [.sl 3 a,.sl 3 b]=>some ⟨[List.length (α:=Int) a<=1000000],[],blB (D8 a b)⟩ | _=>none
theorem d1h (args:List (SV U)) (q:Q1 U) (h:ceq args=some q) (ho:m6 q.ob):l8 NgS 67 args ⟨q.ob,q.hy,q.v,[]⟩:=by
 unfold ceq at h
 split at h
 . rename_i a b
   cases h
   exact s8 b39 (j8 b39 q8 c4j 2) Tryz.func67 (k:=.bool) (x:=D8 a b) trivial (e15 (peq a b ho.1)) 0
 . cases h
noncomputable def Neq:Env:=NgS.addL 67 ceq
theorem d4g:l5 Neq:=b39.addL Tryz.call67 d1h
noncomputable def a17:Env:=Neq.addI 103 Tryz.f103
theorem a3x:l5 a17:=d4g.addI Tryz.call103 Tryz.func103
def c5n:Nat->Ann:=fun | 78=>⟨9,fun _=>none,fun _=>none⟩ | 103=>⟨19,fun | 2=>some ⟨[0,1,7],[.slot 8 (.int .i64)]⟩ | _=>none,fun _=>none⟩ | _=>⟨0,fun _=>none,fun _=>none⟩
def VgC (l:List Int) (n:Int) (Q:Bool->Prop):Prop :=
∃ (I:Int->Prop),∃ (m:Int->Nat),I (0:Int)/\∀ (x:Int),I x->(x<(↑l.length:Int)->(0:Int)<=x/\x<(↑l.length:Int)/\(b8 (ix l x)->(n=ix l x->Q (decide ((0:Int)<=x)))/\(¬n=ix l x->b8 (x+1)/\I (x+1)/\m (x+1)<m x)))/\(¬x<(↑l.length:Int)->Q (decide ((0:Int)<=(-1:Int))))
theorem e06 {l:List Int} {n:Int} {Q:Bool->Prop}:@Eq Prop (VgC l n Q) (i6 (E:=a17) (j7 a17 H0 c5n 2) (c5n 78) Tryz.f78 [.sl (N:=U) 3 l,.int .i64 n] [] [] 0 (n7 a17 [.bool] Q)):=by kernel_rfl
theorem d7r {l:List Int} {n:Int} {Q:Bool->Prop} (h:VgC l n Q):i6 (E:=a17) (j7 a17 H0 c5n 2) (c5n 78) Tryz.f78 [.sl (N:=U) 3 l,.int .i64 n] [] [] 0 (n7 a17 [.bool] Q):=by rw [<- e06]; exact h
theorem pgC (l:List Int) (n:Int) (hl:l.length<=1000000):VgC l n (fun y0=>y0=D5 l n):=by
 unfold VgC
 refine ⟨fun x=>0<=x/\∀ j:Int,0<=j->j<x->ix l j≠n,fun x=>((l.length:Int)-x).toNat,⟨by omega,fun j h0 h1=>absurd h1 (by omega)⟩,?_⟩
 rintro x ⟨x0,hx⟩
 refine ⟨fun h=>⟨x0,h,fun _=>⟨fun e=>?_,fun e=>⟨⟨by omega,by omega⟩,⟨by omega,fun j j0 j1=>?_⟩,by dsimp only; omega⟩⟩⟩,fun h=>?_⟩
 . rw [decide_eq_true x0]; exact (b0y x0 h e.symm).symm
 . by_cases ej:j=x
   . subst ej; exact fun h=>e h.symm
   . exact hx j j0 (by omega)
 . exact (b7n fun j j0 j1=>hx j j0 (by omega)).symm
def cgC (a:List (SV U)):Option (Q1 U):=match a with | [.sl 3 l,.int .i64 n]=>some ⟨[List.length (α:=Int) l<=1000000],[],blB (D5 l n)⟩ | _=>none
theorem d9f (args:List (SV U)) (q:Q1 U) (h:cgC args=some q) (ho:m6 q.ob):l8 a17 78 args ⟨q.ob,q.hy,q.v,[]⟩:=by
 unfold cgC at h
 split at h
 . rename_i l n
   cases h
   exact s8 a3x (j8 a3x q8 c5n 2) Tryz.func78 (k:=.bool) (x:=D5 l n) trivial (d7r (pgC l n ho.1)) 0
 . cases h
noncomputable def NgC:Env:=a17.addL 78 cgC
theorem b3j:l5 NgC:=a3x.addL Tryz.call78 d9f
def c62:Nat->Ann:=fun | 50=>⟨18,fun | 2=>some ⟨[0,1],[.slot 5 (.int .i64)]⟩ | _=>none,fun _=>none⟩ | _=>⟨0,fun _=>none,fun _=>none⟩
def Vxi (l:List Int) (n:Int) (Q:Bool->Prop):Prop :=
∃ (I:Int->Prop),∃ (m:Int->Nat),I (0:Int)/\∀ (x:Int),I x->(x<(↑l.length:Int)->(0:Int)<=x/\x<(↑l.length:Int)/\(b8 (ix l x)->(ix l x=n->Q true)/\(¬ix l x=n->b8 (x+1)/\I (x+1)/\m (x+1)<m x)))/\(¬x<(↑l.length:Int)->Q false)
theorem d8r {l:List Int} {n:Int} {Q:Bool->Prop}:@Eq Prop (Vxi l n Q) (i6 (E:=NgC) (j7 NgC H0 c62 2) (c62 50) Tryz.f50 [.sl (N:=U) 3 l,.int .i64 n] [] [] 0 (n7 NgC [.bool] Q)):=by kernel_rfl
theorem d4e {l:List Int} {n:Int} {Q:Bool->Prop} (h:Vxi l n Q):i6 (E:=NgC) (j7 NgC H0 c62 2) (c62 50) Tryz.f50 [.sl (N:=U) 3 l,.int .i64 n] [] [] 0 (n7 NgC [.bool] Q):=by rw [<- d8r]; exact h
theorem pxi (l:List Int) (n:Int) (hl:l.length<=1000000):Vxi l n (fun y0=>y0=D5 l n):=by
 unfold Vxi
 refine ⟨fun x=>0<=x/\∀ j:Int,0<=j->j<x->ix l j≠n,fun x=>((l.length:Int)-x).toNat,⟨by omega,fun j h0 h1=>absurd h1 (by omega)⟩,?_⟩
 rintro x ⟨x0,hx⟩
 refine ⟨fun h=>⟨x0,h,fun _=>⟨fun e=>?_,fun e=>⟨⟨by omega,by omega⟩,⟨by omega,fun j j0 j1=>?_⟩,by dsimp only; omega⟩⟩⟩,fun h=>?_⟩
 . exact (b0y x0 h e).symm
 . by_cases ej:j=x
   . subst ej; exact e
   . exact hx j j0 (by omega)
 . exact (b7n fun j j0 j1=>hx j j0 (by omega)).symm
def cxi (a:List (SV U)):Option (Q1 U):=match a with | [.sl 3 l,.int .i64 n]=>some ⟨[List.length (α:=Int) l<=1000000],[],blB (D5 l n)⟩ | _=>none
theorem d3i (args:List (SV U)) (q:Q1 U) (h:cxi args=some q) (ho:m6 q.ob):l8 NgC 50 args ⟨q.ob,q.hy,q.v,[]⟩:=by
 unfold cxi at h
 split at h
 . rename_i l n
   cases h
   exact s8 b3j (j8 b3j q8 c62 2) Tryz.func50 (k:=.bool) (x:=D5 l n) trivial (d4e (pxi l n ho.1)) 0
 . cases h
noncomputable def Nxi:Env:=NgC.addL 50 cxi
theorem d7t:l5 Nxi:=b3j.addL Tryz.call50 d3i
noncomputable def a0m:Env:=Nxi.addI 113 Tryz.f113
theorem a4x:l5 a0m:=d7t.addI Tryz.call113 Tryz.func113
def c29:Nat->Ann:=fun | 102=>⟨20,fun _=>none,fun _=>none⟩ | 113=>⟨6,fun _=>none,fun _=>none⟩ | _=>⟨0,fun _=>none,fun _=>none⟩
def Vgp (x:Int) (y:Int) (Q:Int->Prop):Prop :=
(x≠x->(y≠y->Q (0:Int))/\(¬y≠y->Q (-1:Int)))/\(¬x≠x->(y≠y->Q (1:Int))/\(¬y≠y->(x<y->Q (-1:Int))/\(¬x<y->(y<x->Q (1:Int))/\(¬y<x->Q (0:Int)))))
theorem e0z {x:Int} {y:Int} {Q:Int->Prop}:@Eq Prop (Vgp x y Q) (i6 (E:=a0m) (j7 a0m H0 c29 2) (c29 102) Tryz.f102 [.int .i64 x,.int .i64 y] [] [] 0 (n7 a0m [.int .i64] Q)):=by kernel_rfl
theorem d5y {x:Int} {y:Int} {Q:Int->Prop} (h:Vgp x y Q):i6 (E:=a0m) (j7 a0m H0 c29 2) (c29 102) Tryz.f102 [.int .i64 x,.int .i64 y] [] [] 0 (n7 a0m [.int .i64] Q):=by rw [<- e0z]; exact h
theorem pgp (x:Int) (y:Int)  : Vgp x y (fun y0=>y0=a33 x y):=by
 unfold Vgp a33
 refine ⟨fun h=>absurd rfl h,fun _=>⟨fun h=>absurd rfl h,fun _=>⟨fun h=>by rw [if_pos h],fun h=>⟨fun h2=>by rw [if_neg h,if_pos h2],fun h2=>by rw [if_neg h,if_neg h2]⟩⟩⟩⟩
def cgp (a:List (SV U)):Option (Q1 U):=match a with | [.int .i64 x,.int .i64 y]=>some ⟨[],[],.int .i64 (a33 x y)⟩ | _=>none
theorem d9j (args:List (SV U)) (q:Q1 U) (h:cgp args=some q) (ho:m6 q.ob):l8 a0m 102 args ⟨q.ob,q.hy,q.v,[]⟩:=by
 unfold cgp at h
 split at h
 . rename_i x y
   cases h
   exact s8 a4x (j8 a4x q8 c29 2) Tryz.func102 (k:=.int .i64) (x:=a33 x y) trivial (d5y (pgp x y )) 0
 . cases h
noncomputable def Ngp:Env:=a0m.addL 102 cgp
theorem b3s:l5 Ngp:=a4x.addL Tryz.call102 d9j
def c46:Nat->Ann:=fun | 72=>⟨17,fun _=>none,fun _=>none⟩ | _=>⟨0,fun _=>none,fun _=>none⟩
def VgO (r:Rl) (Q:Int->Prop):Prop :=
(r.Freq=0/\(↑r.WeekNo.length:Int)=0->Q (53:Int))/\(¬(r.Freq=0/\(↑r.WeekNo.length:Int)=0)->(r.Freq=1->Q (5:Int))/\(¬r.Freq=1->Q (0:Int)))
theorem e0e {r:Rl} {Q:Int->Prop}:@Eq Prop (VgO r Q) (i6 (E:=Ngp) (j7 Ngp H0 c46 2) (c46 72) Tryz.f72 [.agg [.int .i64 r.Freq,.int .i64 r.Interval,.int .i64 r.Count,.sl (N:=U) 25 r.Until,.sl (N:=U) 3 r.Month,.sl (N:=U) 3 r.WeekNo,.sl (N:=U) 3 r.YearDay,.sl (N:=U) 3 r.MonthDay,.sl (N:=U) 60 r.Days,.sl (N:=U) 3 r.Hour,.sl (N:=U) 3 r.Minute,.sl (N:=U) 3 r.Second,.sl (N:=U) 3 r.SetPos,.int .i64 r.Wkst]] [] [] 0 (n7 Ngp [.int .i64] Q)):=by kernel_rfl
theorem d1y {r:Rl} {Q:Int->Prop} (h:VgO r Q):i6 (E:=Ngp) (j7 Ngp H0 c46 2) (c46 72) Tryz.f72 [.agg [.int .i64 r.Freq,.int .i64 r.Interval,.int .i64 r.Count,.sl (N:=U) 25 r.Until,.sl (N:=U) 3 r.Month,.sl (N:=U) 3 r.WeekNo,.sl (N:=U) 3 r.YearDay,.sl (N:=U) 3 r.MonthDay,.sl (N:=U) 60 r.Days,.sl (N:=U) 3 r.Hour,.sl (N:=U) 3 r.Minute,.sl (N:=U) 3 r.Second,.sl (N:=U) 3 r.SetPos,.int .i64 r.Wkst]] [] [] 0 (n7 Ngp [.int .i64] Q):=by rw [<- e0e]; exact h
theorem pgO (r:Rl)  : VgO r (fun y0=>y0=C7 r):=by
 unfold VgO C7
 refine ⟨fun h=>by rw [if_neg (by omega),if_pos h],fun h=>⟨fun h1=>by rw [if_pos h1],fun h1=>by rw [if_neg h1,if_neg h]⟩⟩
noncomputable def e48 (r:Rl):Q1 U:=⟨[],[],.int .i64 (C7 r)⟩
noncomputable def cgO (a:List (SV U)):Option (Q1 U):=match a with | [.agg l_r]=>(y30.bk (.agg l_r)).bind fun r=>some (e48 r) | _=>none
theorem d7d (args:List (SV U)) (q:Q1 U) (h:cgO args=some q) (ho:m6 q.ob):l8 Ngp 72 args ⟨q.ob,q.hy,q.v,[]⟩:=by
 unfold cgO at h
 split at h
 . rename_i l_r
   obtain ⟨r,hb_r,h⟩:=Option.bind_eq_some_iff.1 h
   cases h
   refine l8.conv (E:=Ngp) (args':=[.agg [.int .i64 r.Freq,.int .i64 r.Interval,.int .i64 r.Count,.sl 25 r.Until,.sl 3 r.Month,.sl 3 r.WeekNo,.sl 3 r.YearDay,.sl 3 r.MonthDay,.sl 60 r.Days,.sl 3 r.Hour,.sl 3 r.Minute,.sl 3 r.Second,.sl 3 r.SetPos,.int .i64 r.Wkst]]) (s8 b3s (j8 b3s q8 c46 2) Tryz.func72 (k:=.int .i64) trivial (d1y (pgO r )) 0) fun D w vs hr=>z8 [.agg l_r] [.agg [.int .i64 r.Freq,.int .i64 r.Interval,.int .i64 r.Count,.sl (N:=U) 25 r.Until,.sl (N:=U) 3 r.Month,.sl (N:=U) 3 r.WeekNo,.sl (N:=U) 3 r.YearDay,.sl (N:=U) 3 r.MonthDay,.sl (N:=U) 60 r.Days,.sl (N:=U) 3 r.Hour,.sl (N:=U) 3 r.Minute,.sl (N:=U) 3 r.Second,.sl (N:=U) 3 r.SetPos,.int .i64 r.Wkst]] _ ⟨fun _ h=>C6 hb_r h,trivial⟩ hr
 . cases h
noncomputable def NgO:Env:=Ngp.addL 72 cgO
theorem b44:l5 NgO:=b3s.addL Tryz.call72 d7d
def c1m:Nat->Ann:=fun | 74=>⟨24,fun _=>none,fun _=>none⟩ | _=>⟨0,fun _=>none,fun _=>none⟩
def VgF (r:Rl) (Q:Bool->Prop):Prop :=
(r.Freq=2->((0:Int)<(↑r.MonthDay.length:Int)->Q false)/\(¬(0:Int)<(↑r.MonthDay.length:Int)->((0:Int)<(↑r.YearDay.length:Int)->Q false)/\(¬(0:Int)<(↑r.YearDay.length:Int)->((0:Int)<(↑r.WeekNo.length:Int)->Q false)/\(¬(0:Int)<(↑r.WeekNo.length:Int)->Q true))))/\(¬r.Freq=2->(r.Freq=1->(r.Freq=1->((0:Int)<(↑r.YearDay.length:Int)->Q false)/\(¬(0:Int)<(↑r.YearDay.length:Int)->((0:Int)<(↑r.WeekNo.length:Int)->Q false)/\(¬(0:Int)<(↑r.WeekNo.length:Int)->Q true)))/\(¬r.Freq=1->(r.Freq=0->Q true)/\(¬r.Freq=0->((0:Int)<(↑r.WeekNo.length:Int)->Q false)/\(¬(0:Int)<(↑r.WeekNo.length:Int)->Q true))))/\(¬r.Freq=1->(r.Freq=3->((0:Int)<(↑r.YearDay.length:Int)->Q false)/\(¬(0:Int)<(↑r.YearDay.length:Int)->((0:Int)<(↑r.WeekNo.length:Int)->Q false)/\(¬(0:Int)<(↑r.WeekNo.length:Int)->Q true)))/\(¬r.Freq=3->(r.Freq=0->Q true)/\(¬r.Freq=0->((0:Int)<(↑r.WeekNo.length:Int)->Q false)/\(¬(0:Int)<(↑r.WeekNo.length:Int)->Q true)))))
theorem d3k {r:Rl} {Q:Bool->Prop}:@Eq Prop (VgF r Q) (i6 (E:=NgO) (j7 NgO H0 c1m 2) (c1m 74) Tryz.f74 [.agg [.int .i64 r.Freq,.int .i64 r.Interval,.int .i64 r.Count,.sl (N:=U) 25 r.Until,.sl (N:=U) 3 r.Month,.sl (N:=U) 3 r.WeekNo,.sl (N:=U) 3 r.YearDay,.sl (N:=U) 3 r.MonthDay,.sl (N:=U) 60 r.Days,.sl (N:=U) 3 r.Hour,.sl (N:=U) 3 r.Minute,.sl (N:=U) 3 r.Second,.sl (N:=U) 3 r.SetPos,.int .i64 r.Wkst]] [] [] 0 (n7 NgO [.bool] Q)):=by kernel_rfl
theorem d8y {r:Rl} {Q:Bool->Prop} (h:VgF r Q):i6 (E:=NgO) (j7 NgO H0 c1m 2) (c1m 74) Tryz.f74 [.agg [.int .i64 r.Freq,.int .i64 r.Interval,.int .i64 r.Count,.sl (N:=U) 25 r.Until,.sl (N:=U) 3 r.Month,.sl (N:=U) 3 r.WeekNo,.sl (N:=U) 3 r.YearDay,.sl (N:=U) 3 r.MonthDay,.sl (N:=U) 60 r.Days,.sl (N:=U) 3 r.Hour,.sl (N:=U) 3 r.Minute,.sl (N:=U) 3 r.Second,.sl (N:=U) 3 r.SetPos,.int .i64 r.Wkst]] [] [] 0 (n7 NgO [.bool] Q):=by rw [<- d3k]; exact h
theorem pgF (r:Rl)  : VgF r (fun y0=>y0=c4g r):=by
 unfold VgF
 repeat' (first | intro _ | apply And.intro)
 all_goals first | exact d0x (by unfold b01; omega) | exact d0f (by unfold b01; omega)
noncomputable def e4f (r:Rl):Q1 U:=⟨[],[],blB (c4g r)⟩
noncomputable def cgF (a:List (SV U)):Option (Q1 U):=match a with | [.agg l_r]=>(y30.bk (.agg l_r)).bind fun r=>some (e4f r) | _=>none
theorem e0w (args:List (SV U)) (q:Q1 U) (h:cgF args=some q) (ho:m6 q.ob):l8 NgO 74 args ⟨q.ob,q.hy,q.v,[]⟩:=by
 unfold cgF at h
 split at h
 . rename_i l_r
   obtain ⟨r,hb_r,h⟩:=Option.bind_eq_some_iff.1 h
   cases h
   refine l8.conv (E:=NgO) (args':=[.agg [.int .i64 r.Freq,.int .i64 r.Interval,.int .i64 r.Count,.sl 25 r.Until,.sl 3 r.Month,.sl 3 r.WeekNo,.sl 3 r.YearDay,.sl 3 r.MonthDay,.sl 60 r.Days,.sl 3 r.Hour,.sl 3 r.Minute,.sl 3 r.Second,.sl 3 r.SetPos,.int .i64 r.Wkst]]) (s8 b44 (j8 b44 q8 c1m 2) Tryz.func74 (k:=.bool) trivial (d8y (pgF r )) 0) fun D w vs hr=>z8 [.agg l_r] [.agg [.int .i64 r.Freq,.int .i64 r.Interval,.int .i64 r.Count,.sl (N:=U) 25 r.Until,.sl (N:=U) 3 r.Month,.sl (N:=U) 3 r.WeekNo,.sl (N:=U) 3 r.YearDay,.sl (N:=U) 3 r.MonthDay,.sl (N:=U) 60 r.Days,.sl (N:=U) 3 r.Hour,.sl (N:=U) 3 r.Minute,.sl (N:=U) 3 r.Second,.sl (N:=U) 3 r.SetPos,.int .i64 r.Wkst]] _ ⟨fun _ h=>C6 hb_r h,trivial⟩ hr
 . cases h
noncomputable def NgF:Env:=NgO.addL 74 cgF
theorem b4k:l5 NgF:=b44.addL Tryz.call74 e0w
def c4o:Nat->Ann:=fun | 73=>⟨19,fun _=>none,fun _=>none⟩ | _=>⟨0,fun _=>none,fun _=>none⟩
def VgB (a:Nt) (b:Nt) (Q:Int->Prop):Prop :=
(a33 a.Day b.Day≠0->Q (a33 a.Day b.Day))/\(¬a33 a.Day b.Day≠0->Q (a33 a.N b.N))
theorem e1n {a:Nt} {b:Nt} {Q:Int->Prop}:@Eq Prop (VgB a b Q) (i6 (E:=NgF) (j7 NgF H0 c4o 2) (c4o 73) Tryz.f73 [.agg [.int .i64 a.N,.int .i64 a.Day],.agg [.int .i64 b.N,.int .i64 b.Day]] [] [] 0 (n7 NgF [.int .i64] Q)):=by kernel_rfl
theorem e0a {a:Nt} {b:Nt} {Q:Int->Prop} (h:VgB a b Q):i6 (E:=NgF) (j7 NgF H0 c4o 2) (c4o 73) Tryz.f73 [.agg [.int .i64 a.N,.int .i64 a.Day],.agg [.int .i64 b.N,.int .i64 b.Day]] [] [] 0 (n7 NgF [.int .i64] Q):=by rw [<- e1n]; exact h
theorem pgB (a:Nt) (b:Nt)  : VgB a b (fun y0=>y0=V5 a b):=by
 unfold VgB V5
 exact ⟨fun h=>by rw [if_pos h],fun h=>by rw [if_neg h]⟩
def e44 (a:Nt) (b:Nt):Q1 U:=⟨[],[],.int .i64 (V5 a b)⟩
def cgB (a:List (SV U)):Option (Q1 U):=match a with | [.agg [.int .i64 a0,.int .i64 a1],.agg [.int .i64 b0,.int .i64 b1]]=>some (e44 (⟨a0,a1⟩) (⟨b0,b1⟩)) | _=>none
theorem e0v (args:List (SV U)) (q:Q1 U) (h:cgB args=some q) (ho:m6 q.ob):l8 NgF 73 args ⟨q.ob,q.hy,q.v,[]⟩:=by
 unfold cgB at h
 split at h
 . rename_i a0 a1 b0 b1
   cases h
   exact s8 b4k (j8 b4k q8 c4o 2) Tryz.func73 (k:=.int .i64) (x:=V5 (⟨a0,a1⟩:Nt) (⟨b0,b1⟩:Nt)) trivial (e0a (pgB (⟨a0,a1⟩) (⟨b0,b1⟩) )) 0
 . cases h
noncomputable def NgB:Env:=NgF.addL 73 cgB
theorem d9o:l5 NgB:=b4k.addL Tryz.call73 e0v
noncomputable def e2x:Env:=NgB.addI 66 Tryz.f66
theorem c8i:l5 e2x:=d9o.addI Tryz.call66 Tryz.func66
noncomputable def e2w:Env:=e2x.addI 71 Tryz.f71
theorem c8o:l5 e2w:=c8i.addI Tryz.call71 Tryz.func71
noncomputable def d0e:Env:=e2w.addI 101 Tryz.f101
theorem c55:l5 d0e:=c8o.addI Tryz.call101 Tryz.func101
noncomputable def a67:Env:=d0e.addI 70 Tryz.f70
theorem a98:l5 a67:=c55.addI Tryz.call70 Tryz.func70
end Go.Proofs.YtdjfeninmbpflaaGreat
end
section
namespace Go.Re
open Go Go.Wk Go.Wl Go.Rx
def b2d (lo hi:Int) (b:Bool) (n:Int):Prop:=(lo<=n/\n<=hi) ∨ (b=true/\n<=-lo)/\-hi<=n
instance (lo hi:Int) (b:Bool) (n:Int):Decidable (b2d lo hi b n):=by unfold b2d; infer_instance
def I6 (l:List Int) (lo hi:Int) (b:Bool):Bool:=l.any fun n=>decide (¬ b2d lo hi b n)
theorem b13 {l:List Int} {lo hi:Int} {b:Bool} {i:Int} (h0:0<=i) (h1:i<l.length) (h:¬ b2d lo hi b (ix l i)):I6 l lo hi b=true:=List.any_eq_true.2 ⟨_,a0k h0 h1,decide_eq_true h⟩
theorem b7s {l:List Int} {lo hi:Int} {b:Bool} (h:∀ i:Int,0<=i->i<l.length->b2d lo hi b (ix l i)):I6 l lo hi b=false:=by
 cases hb:I6 l lo hi b with
 | false=>rfl
 | true =>
  obtain ⟨n,hn,hd⟩:=List.any_eq_true.1 hb
  obtain ⟨i,h0,h1,rfl⟩:=D9 hn
  exact absurd (h i h0 h1) (of_decide_eq_true hd)
theorem c6p {lo hi:Int} {b:Bool} {n:Int} (h0:0<=lo):b2d lo hi b n↔OkN lo hi b n:=by
 unfold b2d OkN
 cases b with
 | false=>simp
 | true =>
  simp only [true_and]
  split <;> constructor <;> intro h <;> omega
theorem b1u {l:List Int} {lo hi:Int} {b:Bool} (h0:0<=lo):K2 l lo hi b↔((l.length:Int)<=24/\l=C9 l)/\I6 l lo hi b=false:=by
 constructor
 . intro h
   exact ⟨⟨h.few,a4c.2 h.up⟩,b7s fun i a c=>(c6p h0).2 (h.ok i a c)⟩
 . rintro ⟨⟨h1,h2⟩,h3⟩
   refine ⟨fun i a c=>(c6p h0).1 (Classical.not_not.1 fun hn=>?_),a4c.1 h2,h1⟩
   rw [b13 a c hn] at h3; cases h3
section
variable {l:List Int} {lo hi:Int} {b:Bool}
theorem a2u (h:24<(l.length:Int)):¬ K2 l lo hi b:=fun r=>by have:=r.few; omega
theorem a2r (h:False ∨ ¬ D8 l (C9 l)=true):¬ K2 l lo hi b:=fun r=>h.elim id fun h=>h (decide_eq_true (a4c.2 r.up))
theorem a2q (h0:0<=lo) (h:False ∨ I6 l lo hi b=true):¬ K2 l lo hi b:=fun r=>h.elim id fun h=>by rw [((b1u h0).1 r).2] at h; cases h
theorem a2h (h0:0<=lo) (h1:¬ 24<(l.length:Int)) (h2:¬ (False ∨ ¬ D8 l (C9 l)=true)) (h3:¬ (False ∨ I6 l lo hi b=true)):K2 l lo hi b :=
 (b1u h0).2 ⟨⟨by omega,of_decide_eq_true (Classical.not_not.1 fun hn=>h2 (.inr hn))⟩,by
  cases hb:I6 l lo hi b with
  | false=>rfl
  | true=>exact absurd (.inr hb) h3⟩
theorem a54 (l:List Int):max 1 (l.length:Int)=D3 l:=by unfold D3; split <;> omega
end
end Go.Re
end
section
namespace Go.Proofs.YtdjfeninmbpflaaGreat
open Go Go.Wk Go.Wl Go.Rx Go.Re 
attribute [local irreducible] i6
def c3w:Nat->Ann:=fun | 69=>⟨9,fun _=>none,fun _=>none⟩ | 101=>⟨19,fun | 2=>some ⟨[0,1,7],[.slot 8 (.int .i64)]⟩ | _=>none,fun _=>none⟩ | 70=>⟨8,fun _=>none,fun _=>none⟩ | 71=>⟨33,fun _=>none,fun _=>none⟩ | _=>⟨0,fun _=>none,fun _=>none⟩
def VgX (l:List Int) (x:Ls) (Q:Bool->Prop):Prop :=
∃ (I:Int->Prop),∃ (m:Int->Nat),I (0:Int)/\∀ (x_1:Int),I x_1->(x_1<(↑l.length:Int)->(0:Int)<=x_1/\x_1<(↑l.length:Int)/\(b8 (ix l x_1)->(¬((ix [x] (0:Int)).lo<=ix l x_1/\ix l x_1<=(ix [x] (0:Int)).hi)/\(ix [x] (0:Int)).both=true->b8 ((0:Int)-(ix [x] (0:Int)).lo))/\(¬((ix [x] (0:Int)).lo<=ix l x_1/\ix l x_1<=(ix [x] (0:Int)).hi)/\(ix [x] (0:Int)).both=true/\ix l x_1<=(0:Int)-(ix [x] (0:Int)).lo->b8 ((0:Int)-(ix [x] (0:Int)).hi))/\(¬((ix [x] (0:Int)).lo<=ix l x_1/\ix l x_1<=(ix [x] (0:Int)).hi ∨ ((ix [x] (0:Int)).both=true/\ix l x_1<=(0:Int)-(ix [x] (0:Int)).lo)/\(0:Int)-(ix [x] (0:Int)).hi<=ix l x_1)->Q (decide ((0:Int)<=x_1)))/\(¬¬((ix [x] (0:Int)).lo<=ix l x_1/\ix l x_1<=(ix [x] (0:Int)).hi ∨ ((ix [x] (0:Int)).both=true/\ix l x_1<=(0:Int)-(ix [x] (0:Int)).lo)/\(0:Int)-(ix [x] (0:Int)).hi<=ix l x_1)->b8 (x_1+1)/\I (x_1+1)/\m (x_1+1)<m x_1)))/\(¬x_1<(↑l.length:Int)->Q (decide ((0:Int)<=(-1:Int))))
theorem e1l {l:List Int} {x:Ls} {Q:Bool->Prop}:@Eq Prop (VgX l x Q) (i6 (E:=a67) (j7 a67 H0 c3w 4) (c3w 69) Tryz.f69 [.sl (N:=U) 3 l,.clo 70 [.fel (N:=U) 101 [x] 0 0]] [] [] 0 (n7 a67 [.bool] Q)):=by kernel_rfl
theorem d8o {l:List Int} {x:Ls} {Q:Bool->Prop} (h:VgX l x Q):i6 (E:=a67) (j7 a67 H0 c3w 4) (c3w 69) Tryz.f69 [.sl (N:=U) 3 l,.clo 70 [.fel (N:=U) 101 [x] 0 0]] [] [] 0 (n7 a67 [.bool] Q):=by rw [<- e1l]; exact h
theorem pgX (l:List Int) (x:Ls) (hl:l.length<=1000000) (l0:-1000<=x.lo) (l1:x.lo<=1000) (u0:-1000<=x.hi) (u1:x.hi<=1000):VgX l x (fun y0=>y0=I6 l x.lo x.hi x.both):=by
 unfold VgX
 have ex:ix [x] 0=x:=rfl
 rw [ex]
 have z:∀ n:Int,0-n=-n:=fun n=>by omega
 simp only [z]
 refine ⟨fun i=>0<=i/\∀ j:Int,0<=j->j<i->b2d x.lo x.hi x.both (ix l j),fun i=>((l.length:Int)-i).toNat,⟨by omega,fun j a b=>absurd b (by omega)⟩,?_⟩
 rintro i ⟨i0,hi⟩
 refine ⟨fun h=>⟨i0,h,fun _=>⟨fun _=>⟨by omega,by omega⟩,fun _=>⟨by omega,by omega⟩,fun hn=>?_,fun hn=>⟨⟨by omega,by omega⟩,⟨by omega,fun j j0 j1=>?_⟩,by dsimp only; omega⟩⟩⟩,fun h=>?_⟩
 . rw [decide_eq_true i0]; exact (b13 i0 h hn).symm
 . by_cases e:j=i
   . subst e; exact Classical.not_not.1 hn
   . exact hi j j0 (by omega)
 . exact (b7s fun j a b=>hi j a (by omega)).symm
def cgX (a:List (SV U)):Option (Q1 U):=match a with | [.sl 3 l,.clo 70 [.fel 101 [x] 0 0]]=>some ⟨[List.length (α:=Int) l<=1000000,-1000<=x.lo,x.lo<=1000,-1000<=x.hi,x.hi<=1000],[],blB (I6 l x.lo x.hi x.both)⟩ | _=>none
theorem d2c (args:List (SV U)) (q:Q1 U) (h:cgX args=some q) (ho:m6 q.ob):l8 a67 69 args ⟨q.ob,q.hy,q.v,[]⟩:=by
 unfold cgX at h
 split at h
 . rename_i l x
   cases h
   exact s8 a98 (j8 a98 q8 c3w 4) Tryz.func69 (k:=.bool) (x:=I6 l x.lo x.hi x.both) trivial (d8o (pgX l x ho.1 ho.2.1 ho.2.2.1 ho.2.2.2.1 ho.2.2.2.2.1)) 0
 . cases h
theorem d4k {w:World} {L:Rx.Loc} {D:Nat->Prop} {x:Ls} {c:Value} (ho:Own w L.b 101 [sv x.wd,c,.int .i64 x.lo,.int .i64 x.hi,.bool x.both]) (hD:D L.b) (hp:v6 c=true) (h1:x.wd.length<=9223372036854775807) (h2:InI x.lo) (h3:InI x.hi):(u5 (U.tb 101).r).rd D w [.slice (some ⟨L.b,0,none⟩) [x].length 1] [x] :=
 ⟨by show (1:Nat)<=9223372036854775807; omega,_,_,rfl,⟨fun h=>(by cases h),Nat.le_refl _⟩,fun i hi=>by
  have hi:i<1:=hi
  have e:i=0:=by omega
  subst e
  exact ⟨_,_,_,rfl,hD,Own.cells ho 0 _ [] rfl,c,rfl,hp,h1,h2,h3⟩⟩
def cXr (args:List (SV U)) (its:b9 U):Option (Q1 U):=match args with
 | [.sl 3 l,.clo 70 [.ref i 0]]=>(match lk its i with
  | some (.own 101 [.str wd,_,.int .i64 lo,.int .i64 hi,vb])=>(a9d vb).bind fun b=>some ⟨[List.length (α:=Int) l<=1000000,-1000<=lo,lo<=1000,-1000<=hi,hi<=1000],[],blB (I6 l lo hi b)⟩
  | _=>none)
 | _=>none
theorem e1v (args:List (SV U)) (its:b9 U) (q:Q1 U) (h:cXr args its=some q) (ho:m6 q.ob):c3h Tryz.prog U eT Gl 69 args its q:=by
 unfold cXr at h
 split at h
 . rename_i l i
   split at h
   . rename_i wd vc lo hi vb hi'
     obtain ⟨b,hb,h⟩:=Option.bind_eq_some_iff.1 h
     cases h
     intro ρ Z w vs _ hh ha
     obtain ⟨L,cs,hL,hbs,how,hr⟩:=hh _ _ hi'
     obtain ⟨v1,r1,rfl,h1,_,hr⟩:=i7.cons_inv hr
     obtain ⟨v2,r2,rfl,_,p2,hr⟩:=i7.cons_inv hr
     obtain ⟨v3,r3,rfl,h3,_,hr⟩:=i7.cons_inv hr
     obtain ⟨v4,r4,rfl,h4,_,hr⟩:=i7.cons_inv hr
     obtain ⟨v5,r5,rfl,h5,_,hr⟩:=i7.cons_inv hr
     obtain rfl:=i7.nil_inv hr
     have h5:=a03 (E:=a67) hb h5
     cases h1 with | str q1 =>
     cases h3 with | int q3 =>
     cases h4 with | int q4 =>
     cases h5 with | bl =>
     rw [Bool.decide_eq_true] at how
     obtain ⟨u1,rr,rfl,g1,ha⟩:=Rep.tup_cons ha
     obtain ⟨u2,rr2,rfl,g2,ha⟩:=Rep.tup_cons ha
     obtain rfl:=U8 ha
     obtain ⟨b1,b2,b3,b4,b5,_⟩:=ho
     have hrow:=d4k (L:=L) (D:=fun k=>(Z k/\k<w.heap.size) ∨ k=L.b) (x:=⟨wd,lo,hi,b⟩) how (.inr rfl) p2 q1 (q3 rfl) (q4 rfl)
     refine d2c [.sl 3 l,.clo 70 [.fel (N:=U) 101 [Ls.mk wd lo hi b] 0 0]] _ rfl ⟨b1,b2,b3,b4,b5,trivial⟩ (fun k=>(Z k/\k<w.heap.size) ∨ k=L.b) w _ (fun k hk=>hk.elim (fun h=>h.2) fun h=>by rw [h]; exact how.lt) trivial ?_
     refine .tup1 (cs:=[_]) ?_ (.tup1 (cs:=[]) ?_ .tup0)
     . cases g1 with
       | sl g=>exact .sl (Rd.mono _ g (Ext.refl [] w) (fun _ h=>by cases h) fun k hz hk=>.inl ⟨hz,hk⟩)
     . cases g2 with
       | clo g =>
        obtain ⟨c1,cr,e1,hc1,hp1,hcr⟩:=i7.cons_inv (cs:=_) g
        obtain rfl:=i7.nil_inv hcr
        cases hc1 with
        | ref hL' =>
         rw [hL] at hL'; cases hL'
         have:=Rep.fel (N:=U) (T:=eT) (ρ:=fun _=>none) (t:=101) (off:=0) hrow (i:=0) (by omega) (by show (0:Int)<1; omega)
         rw [show _=_ from e1]
         exact .clo (i7.cons this rfl i7.nil)
   . cases h
 . cases h
noncomputable def NXr:Env:=a67.addR 69 cXr
theorem b5o:l5 NXr:=a98.addR Tryz.call69 e1v
def c2r:Nat->Ann:=fun | 40=>⟨201,fun | 16=>some ⟨[1,3,6,127,128],[.slot 129 (.int .i64)]⟩ | 7=>some ⟨[1,3,80,81,82],[.unr 9]⟩ | _=>none,fun | 1000009=>some ⟨[6,19],[]⟩ | 2000007=>some ⟨[83],[]⟩ | 2000011=>some ⟨[115],[]⟩ | _=>none⟩ | 66=>⟨36,fun _=>none,fun _=>none⟩ | _=>⟨0,fun _=>none,fun _=>none⟩
def U3 (r:Rl):=Rl.mk r.Freq r.Interval r.Count r.Until r.Month r.WeekNo r.YearDay r.MonthDay r.Days r.Hour r.Minute r.Second r.SetPos r.Wkst
def c7q (r:Rl):=(bif true then max (1:Int) (↑r.Hour.length:Int) else min (1:Int) (↑r.Hour.length:Int)) * bif true then max (1:Int) (↑r.Minute.length:Int) else min (1:Int) (↑r.Minute.length:Int)
def VgR (r:Rl) (Q:Bool->Prop):Prop :=
(((((((r.Freq<0 ∨ (6:Int)<r.Freq) ∨ r.Interval<1) ∨ (9999:Int)<r.Interval) ∨ r.Count<0) ∨ (9999:Int)<r.Count) ∨ r.Wkst<0) ∨ (6:Int)<r.Wkst->Q false)/\(¬(((((((r.Freq<0 ∨ (6:Int)<r.Freq) ∨ r.Interval<1) ∨ (9999:Int)<r.Interval) ∨ r.Count<0) ∨ (9999:Int)<r.Count) ∨ r.Wkst<0) ∨ (6:Int)<r.Wkst)->((¬(1:Int)<(↑r.Until.length:Int)/\(↑r.Until.length:Int)=1)/\¬(0:Int)<r.Count->(0:Int)<=0)/\((¬(1:Int)<(↑r.Until.length:Int)/\(↑r.Until.length:Int)=1)/\¬(0:Int)<r.Count->(0:Int)<(↑r.Until.length:Int))/\(((¬(1:Int)<(↑r.Until.length:Int)/\(↑r.Until.length:Int)=1)/\¬(0:Int)<r.Count->b8 (ix r.Until (0:Int)).Day.Year)->((¬(1:Int)<(↑r.Until.length:Int)/\(↑r.Until.length:Int)=1)/\¬(0:Int)<r.Count->b8 (ix r.Until (0:Int)).Day.Month)->((¬(1:Int)<(↑r.Until.length:Int)/\(↑r.Until.length:Int)=1)/\¬(0:Int)<r.Count->b8 (ix r.Until (0:Int)).Day.Date)->((¬(1:Int)<(↑r.Until.length:Int)/\(↑r.Until.length:Int)=1)/\¬(0:Int)<r.Count->b8 (ix r.Until (0:Int)).Hour)->((¬(1:Int)<(↑r.Until.length:Int)/\(↑r.Until.length:Int)=1)/\¬(0:Int)<r.Count->b8 (ix r.Until (0:Int)).Min)->((¬(1:Int)<(↑r.Until.length:Int)/\(↑r.Until.length:Int)=1)/\¬(0:Int)<r.Count->b8 (ix r.Until (0:Int)).Sec)->(((1:Int)<(↑r.Until.length:Int) ∨ (↑r.Until.length:Int)=1/\((0:Int)<r.Count ∨ ¬q7 (Tm.mk (Dy.mk (ix r.Until (0:Int)).Day.Year (ix r.Until (0:Int)).Day.Month (ix r.Until (0:Int)).Day.Date) (ix r.Until (0:Int)).Hour (ix r.Until (0:Int)).Min (ix r.Until (0:Int)).Sec (decide ((ix r.Until (0:Int)).Bare=true)) (decide ((ix r.Until (0:Int)).UTC=true)))=true)) ∨ (24:Int)<(↑r.Days.length:Int)->Q false)/\(¬(((1:Int)<(↑r.Until.length:Int) ∨ (↑r.Until.length:Int)=1/\((0:Int)<r.Count ∨ ¬q7 (Tm.mk (Dy.mk (ix r.Until (0:Int)).Day.Year (ix r.Until (0:Int)).Day.Month (ix r.Until (0:Int)).Day.Date) (ix r.Until (0:Int)).Hour (ix r.Until (0:Int)).Min (ix r.Until (0:Int)).Sec (decide ((ix r.Until (0:Int)).Bare=true)) (decide ((ix r.Until (0:Int)).UTC=true)))=true)) ∨ (24:Int)<(↑r.Days.length:Int))->(0:Int)<=0/\(0:Int)<(↑(8:Nat):Int)/\((24:Int)<(↑r.Month.length:Int)->((↑r.Month.length:Int)-((24:Int)+1)).NonNeg/\Q false)/\(¬(24:Int)<(↑r.Month.length:Int)->(False ∨ ¬D8 r.Month (C9 r.Month)=true->((24:Int)<(↑r.Month.length:Int)->False)/\(¬False/\r.Month.length<=1000000)/\(¬False->r.Month.length<=1000000)/\(False ∨ ¬D8 r.Month (C9 r.Month)=true)/\Q false)/\(¬(False ∨ ¬D8 r.Month (C9 r.Month)=true)->((24:Int)<(↑r.Month.length:Int)->False)/\(¬False/\r.Month.length<=1000000)/\(¬False->r.Month.length<=1000000)/\(False ∨ ¬D8 r.Month (C9 r.Month)=true->False)/\((¬False->r.Month.length<=1000000)/\(¬False->(-1000:Int)<=1)/\(¬False->(1:Int)<=1000)/\(¬False->(-1000:Int)<=12)/\(¬False->(12:Int)<=1000))/\(False ∨ I6 r.Month (1:Int) (12:Int) false=true->Q false)/\(¬(False ∨ I6 r.Month (1:Int) (12:Int) false=true)->b8 ((↑r.Days.length:Int)+(↑r.Month.length:Int))/\b8 ((0:Int)+1)/\(0:Int)<=(0:Int)+1/\(0:Int)+1<(↑(8:Nat):Int)/\((24:Int)<(↑r.WeekNo.length:Int)->((↑r.WeekNo.length:Int)-((24:Int)+1)).NonNeg/\Q false)/\(¬(24:Int)<(↑r.WeekNo.length:Int)->(False ∨ ¬D8 r.WeekNo (C9 r.WeekNo)=true->((24:Int)<(↑r.WeekNo.length:Int)->False)/\(¬False/\r.WeekNo.length<=1000000)/\(¬False->r.WeekNo.length<=1000000)/\(False ∨ ¬D8 r.WeekNo (C9 r.WeekNo)=true)/\Q false)/\(¬(False ∨ ¬D8 r.WeekNo (C9 r.WeekNo)=true)->((24:Int)<(↑r.WeekNo.length:Int)->False)/\(¬False/\r.WeekNo.length<=1000000)/\(¬False->r.WeekNo.length<=1000000)/\(False ∨ ¬D8 r.WeekNo (C9 r.WeekNo)=true->False)/\((¬False->r.WeekNo.length<=1000000)/\(¬False->(-1000:Int)<=1)/\(¬False->(1:Int)<=1000)/\(¬False->(-1000:Int)<=53)/\(¬False->(53:Int)<=1000))/\(False ∨ I6 r.WeekNo (1:Int) (53:Int) true=true->Q false)/\(¬(False ∨ I6 r.WeekNo (1:Int) (53:Int) true=true)->b8 ((↑r.Days.length:Int)+(↑r.Month.length:Int)+(↑r.WeekNo.length:Int))/\b8 ((0:Int)+1+1)/\(0:Int)<=(0:Int)+1+1/\(0:Int)+1+1<(↑(8:Nat):Int)/\((24:Int)<(↑r.YearDay.length:Int)->((↑r.YearDay.length:Int)-((24:Int)+1)).NonNeg/\Q false)/\(¬(24:Int)<(↑r.YearDay.length:Int)->(False ∨ ¬D8 r.YearDay (C9 r.YearDay)=true->((24:Int)<(↑r.YearDay.length:Int)->False)/\(¬False/\r.YearDay.length<=1000000)/\(¬False->r.YearDay.length<=1000000)/\(False ∨ ¬D8 r.YearDay (C9 r.YearDay)=true)/\Q false)/\(¬(False ∨ ¬D8 r.YearDay (C9 r.YearDay)=true)->((24:Int)<(↑r.YearDay.length:Int)->False)/\(¬False/\r.YearDay.length<=1000000)/\(¬False->r.YearDay.length<=1000000)/\(False ∨ ¬D8 r.YearDay (C9 r.YearDay)=true->False)/\((¬False->r.YearDay.length<=1000000)/\(¬False->(-1000:Int)<=1)/\(¬False->(1:Int)<=1000)/\(¬False->(-1000:Int)<=366)/\(¬False->(366:Int)<=1000))/\(False ∨ I6 r.YearDay (1:Int) (366:Int) true=true->Q false)/\(¬(False ∨ I6 r.YearDay (1:Int) (366:Int) true=true)->b8 ((↑r.Days.length:Int)+(↑r.Month.length:Int)+(↑r.WeekNo.length:Int)+(↑r.YearDay.length:Int))/\b8 ((0:Int)+1+1+1)/\(0:Int)<=(0:Int)+1+1+1/\(0:Int)+1+1+1<(↑(8:Nat):Int)/\((24:Int)<(↑r.MonthDay.length:Int)->((↑r.MonthDay.length:Int)-((24:Int)+1)).NonNeg/\Q false)/\(¬(24:Int)<(↑r.MonthDay.length:Int)->(False ∨ ¬D8 r.MonthDay (C9 r.MonthDay)=true->((24:Int)<(↑r.MonthDay.length:Int)->False)/\(¬False/\r.MonthDay.length<=1000000)/\(¬False->r.MonthDay.length<=1000000)/\(False ∨ ¬D8 r.MonthDay (C9 r.MonthDay)=true)/\Q false)/\(¬(False ∨ ¬D8 r.MonthDay (C9 r.MonthDay)=true)->((24:Int)<(↑r.MonthDay.length:Int)->False)/\(¬False/\r.MonthDay.length<=1000000)/\(¬False->r.MonthDay.length<=1000000)/\(False ∨ ¬D8 r.MonthDay (C9 r.MonthDay)=true->False)/\((¬False->r.MonthDay.length<=1000000)/\(¬False->(-1000:Int)<=1)/\(¬False->(1:Int)<=1000)/\(¬False->(-1000:Int)<=31)/\(¬False->(31:Int)<=1000))/\(False ∨ I6 r.MonthDay (1:Int) (31:Int) true=true->Q false)/\(¬(False ∨ I6 r.MonthDay (1:Int) (31:Int) true=true)->b8 ((↑r.Days.length:Int)+(↑r.Month.length:Int)+(↑r.WeekNo.length:Int)+(↑r.YearDay.length:Int)+(↑r.MonthDay.length:Int))/\b8 ((0:Int)+1+1+1+1)/\(0:Int)<=(0:Int)+1+1+1+1/\(0:Int)+1+1+1+1<(↑(8:Nat):Int)/\((24:Int)<(↑r.Hour.length:Int)->((↑r.Hour.length:Int)-((24:Int)+1)).NonNeg/\Q false)/\(¬(24:Int)<(↑r.Hour.length:Int)->(False ∨ ¬D8 r.Hour (C9 r.Hour)=true->((24:Int)<(↑r.Hour.length:Int)->False)/\(¬False/\r.Hour.length<=1000000)/\(¬False->r.Hour.length<=1000000)/\(False ∨ ¬D8 r.Hour (C9 r.Hour)=true)/\Q false)/\(¬(False ∨ ¬D8 r.Hour (C9 r.Hour)=true)->((24:Int)<(↑r.Hour.length:Int)->False)/\(¬False/\r.Hour.length<=1000000)/\(¬False->r.Hour.length<=1000000)/\(False ∨ ¬D8 r.Hour (C9 r.Hour)=true->False)/\((¬False->r.Hour.length<=1000000)/\(¬False->(-1000:Int)<=0)/\(¬False->(0:Int)<=1000)/\(¬False->(-1000:Int)<=23)/\(¬False->(23:Int)<=1000))/\(False ∨ I6 r.Hour (0:Int) (23:Int) false=true->Q false)/\(¬(False ∨ I6 r.Hour (0:Int) (23:Int) false=true)->b8 ((↑r.Days.length:Int)+(↑r.Month.length:Int)+(↑r.WeekNo.length:Int)+(↑r.YearDay.length:Int)+(↑r.MonthDay.length:Int)+(↑r.Hour.length:Int))/\b8 ((0:Int)+1+1+1+1+1)/\(0:Int)<=(0:Int)+1+1+1+1+1/\(0:Int)+1+1+1+1+1<(↑(8:Nat):Int)/\((24:Int)<(↑r.Minute.length:Int)->((↑r.Minute.length:Int)-((24:Int)+1)).NonNeg/\Q false)/\(¬(24:Int)<(↑r.Minute.length:Int)->(False ∨ ¬D8 r.Minute (C9 r.Minute)=true->((24:Int)<(↑r.Minute.length:Int)->False)/\(¬False/\r.Minute.length<=1000000)/\(¬False->r.Minute.length<=1000000)/\(False ∨ ¬D8 r.Minute (C9 r.Minute)=true)/\Q false)/\(¬(False ∨ ¬D8 r.Minute (C9 r.Minute)=true)->((24:Int)<(↑r.Minute.length:Int)->False)/\(¬False/\r.Minute.length<=1000000)/\(¬False->r.Minute.length<=1000000)/\(False ∨ ¬D8 r.Minute (C9 r.Minute)=true->False)/\((¬False->r.Minute.length<=1000000)/\(¬False->(-1000:Int)<=0)/\(¬False->(0:Int)<=1000)/\(¬False->(-1000:Int)<=59)/\(¬False->(59:Int)<=1000))/\(False ∨ I6 r.Minute (0:Int) (59:Int) false=true->Q false)/\(¬(False ∨ I6 r.Minute (0:Int) (59:Int) false=true)->b8 ((↑r.Days.length:Int)+(↑r.Month.length:Int)+(↑r.WeekNo.length:Int)+(↑r.YearDay.length:Int)+(↑r.MonthDay.length:Int)+(↑r.Hour.length:Int)+(↑r.Minute.length:Int))/\b8 ((0:Int)+1+1+1+1+1+1)/\(0:Int)<=(0:Int)+1+1+1+1+1+1/\(0:Int)+1+1+1+1+1+1<(↑(8:Nat):Int)/\((24:Int)<(↑r.Second.length:Int)->((↑r.Second.length:Int)-((24:Int)+1)).NonNeg/\Q false)/\(¬(24:Int)<(↑r.Second.length:Int)->(False ∨ ¬D8 r.Second (C9 r.Second)=true->((24:Int)<(↑r.Second.length:Int)->False)/\(¬False/\r.Second.length<=1000000)/\(¬False->r.Second.length<=1000000)/\(False ∨ ¬D8 r.Second (C9 r.Second)=true)/\Q false)/\(¬(False ∨ ¬D8 r.Second (C9 r.Second)=true)->((24:Int)<(↑r.Second.length:Int)->False)/\(¬False/\r.Second.length<=1000000)/\(¬False->r.Second.length<=1000000)/\(False ∨ ¬D8 r.Second (C9 r.Second)=true->False)/\((¬False->r.Second.length<=1000000)/\(¬False->(-1000:Int)<=0)/\(¬False->(0:Int)<=1000)/\(¬False->(-1000:Int)<=59)/\(¬False->(59:Int)<=1000))/\(False ∨ I6 r.Second (0:Int) (59:Int) false=true->Q false)/\(¬(False ∨ I6 r.Second (0:Int) (59:Int) false=true)->b8 ((↑r.Days.length:Int)+(↑r.Month.length:Int)+(↑r.WeekNo.length:Int)+(↑r.YearDay.length:Int)+(↑r.MonthDay.length:Int)+(↑r.Hour.length:Int)+(↑r.Minute.length:Int)+(↑r.Second.length:Int))/\b8 ((0:Int)+1+1+1+1+1+1+1)/\(0:Int)<=(0:Int)+1+1+1+1+1+1+1/\(0:Int)+1+1+1+1+1+1+1<(↑(8:Nat):Int)/\((24:Int)<(↑r.SetPos.length:Int)->((↑r.SetPos.length:Int)-((24:Int)+1)).NonNeg/\Q false)/\(¬(24:Int)<(↑r.SetPos.length:Int)->(False ∨ ¬D8 r.SetPos (C9 r.SetPos)=true->((24:Int)<(↑r.SetPos.length:Int)->False)/\(¬False/\r.SetPos.length<=1000000)/\(¬False->r.SetPos.length<=1000000)/\(False ∨ ¬D8 r.SetPos (C9 r.SetPos)=true)/\Q false)/\(¬(False ∨ ¬D8 r.SetPos (C9 r.SetPos)=true)->((24:Int)<(↑r.SetPos.length:Int)->False)/\(¬False/\r.SetPos.length<=1000000)/\(¬False->r.SetPos.length<=1000000)/\(False ∨ ¬D8 r.SetPos (C9 r.SetPos)=true->False)/\((¬False->r.SetPos.length<=1000000)/\(¬False->(-1000:Int)<=1)/\(¬False->(1:Int)<=1000)/\(¬False->(-1000:Int)<=366)/\(¬False->(366:Int)<=1000))/\(False ∨ I6 r.SetPos (1:Int) (366:Int) true=true->Q false)/\(¬(False ∨ I6 r.SetPos (1:Int) (366:Int) true=true)->b8 ((0:Int)+1+1+1+1+1+1+1+1)/\∃ (I:Int->Prop),∃ (m:Int->Nat),I (0:Int)/\∀ (x:Int),I x->(x<(↑r.Days.length:Int)->(0:Int)<=x/\x<(↑r.Days.length:Int)/\(b8 (ix r.Days x).N->b8 (ix r.Days x).Day->(¬(((ix r.Days x).Day<0 ∨ (6:Int)<(ix r.Days x).Day) ∨ C7 (U3 r)<(ix r.Days x).N)->b8 ((0:Int)-C7 (U3 r)))/\(¬((((ix r.Days x).Day<0 ∨ (6:Int)<(ix r.Days x).Day) ∨ C7 (U3 r)<(ix r.Days x).N) ∨ (ix r.Days x).N<(0:Int)-C7 (U3 r))/\(0:Int)<x->b8 (x-1))/\((¬((((ix r.Days x).Day<0 ∨ (6:Int)<(ix r.Days x).Day) ∨ C7 (U3 r)<(ix r.Days x).N) ∨ (ix r.Days x).N<(0:Int)-C7 (U3 r))/\(0:Int)<x->(0:Int)<=x-1)/\(¬((((ix r.Days x).Day<0 ∨ (6:Int)<(ix r.Days x).Day) ∨ C7 (U3 r)<(ix r.Days x).N) ∨ (ix r.Days x).N<(0:Int)-C7 (U3 r))/\(0:Int)<x->x-1<(↑r.Days.length:Int)))/\((¬((((ix r.Days x).Day<0 ∨ (6:Int)<(ix r.Days x).Day) ∨ C7 (U3 r)<(ix r.Days x).N) ∨ (ix r.Days x).N<(0:Int)-C7 (U3 r))/\(0:Int)<x->b8 (ix r.Days (x-1)).N)->(¬((((ix r.Days x).Day<0 ∨ (6:Int)<(ix r.Days x).Day) ∨ C7 (U3 r)<(ix r.Days x).N) ∨ (ix r.Days x).N<(0:Int)-C7 (U3 r))/\(0:Int)<x->b8 (ix r.Days (x-1)).Day)->(((((ix r.Days x).Day<0 ∨ (6:Int)<(ix r.Days x).Day) ∨ C7 (U3 r)<(ix r.Days x).N) ∨ (ix r.Days x).N<(0:Int)-C7 (U3 r)) ∨ (0:Int)<x/\(0:Int)<=V5 (Nt.mk (ix r.Days (x-1)).N (ix r.Days (x-1)).Day) (Nt.mk (ix r.Days x).N (ix r.Days x).Day)->Q false)/\(¬(((((ix r.Days x).Day<0 ∨ (6:Int)<(ix r.Days x).Day) ∨ C7 (U3 r)<(ix r.Days x).N) ∨ (ix r.Days x).N<(0:Int)-C7 (U3 r)) ∨ (0:Int)<x/\(0:Int)<=V5 (Nt.mk (ix r.Days (x-1)).N (ix r.Days (x-1)).Day) (Nt.mk (ix r.Days x).N (ix r.Days x).Day))->b8 (x+1)/\I (x+1)/\m (x+1)<m x))))/\(¬x<(↑r.Days.length:Int)->b8 (c7q r)/\b8 ((c7q r) * bif true then max (1:Int) (↑r.Second.length:Int) else min (1:Int) (↑r.Second.length:Int))/\Q (decide ((c4g (U3 r)=true/\((0:Int)<(↑r.Days.length:Int)+(↑r.Month.length:Int)+(↑r.WeekNo.length:Int)+(↑r.YearDay.length:Int)+(↑r.MonthDay.length:Int)+(↑r.Hour.length:Int)+(↑r.Minute.length:Int)+(↑r.Second.length:Int) ∨ (↑r.SetPos.length:Int)=0))/\((c7q r) * bif true then max (1:Int) (↑r.Second.length:Int) else min (1:Int) (↑r.Second.length:Int))<=48))))))))))))))))))))))))))))))
theorem d4r {r:Rl} {Q:Bool->Prop}:@Eq Prop (VgR r Q) (i6 (E:=NXr) (j7 NXr H0 c2r 4) (c2r 40) Tryz.f40 [.agg [.int .i64 r.Freq,.int .i64 r.Interval,.int .i64 r.Count,.sl (N:=U) 25 r.Until,.sl (N:=U) 3 r.Month,.sl (N:=U) 3 r.WeekNo,.sl (N:=U) 3 r.YearDay,.sl (N:=U) 3 r.MonthDay,.sl (N:=U) 60 r.Days,.sl (N:=U) 3 r.Hour,.sl (N:=U) 3 r.Minute,.sl (N:=U) 3 r.Second,.sl (N:=U) 3 r.SetPos,.int .i64 r.Wkst]] [] [] 0 (n7 NXr [.bool] Q)):=by kernel_rfl
theorem d8i {r:Rl} {Q:Bool->Prop} (h:VgR r Q):i6 (E:=NXr) (j7 NXr H0 c2r 4) (c2r 40) Tryz.f40 [.agg [.int .i64 r.Freq,.int .i64 r.Interval,.int .i64 r.Count,.sl (N:=U) 25 r.Until,.sl (N:=U) 3 r.Month,.sl (N:=U) 3 r.WeekNo,.sl (N:=U) 3 r.YearDay,.sl (N:=U) 3 r.MonthDay,.sl (N:=U) 60 r.Days,.sl (N:=U) 3 r.Hour,.sl (N:=U) 3 r.Minute,.sl (N:=U) 3 r.Second,.sl (N:=U) 3 r.SetPos,.int .i64 r.Wkst]] [] [] 0 (n7 NXr [.bool] Q):=by rw [<- d4r]; exact h
set_option maxHeartbeats 2000000 in
theorem pgR (r:Rl) (hfw:C1 r=true):VgR r (fun y0=>y0=B6 r):=by
 unfold VgR c7q U3
 obtain ⟨wmo,wwn,wyd,wmd,wdy,who,wmi,wse,wsp,wti⟩:=Y1 hfw
 rw [show (Rl.mk r.Freq r.Interval r.Count r.Until r.Month r.WeekNo r.YearDay r.MonthDay r.Days r.Hour r.Minute r.Second r.SetPos r.Wkst)=r from rfl]
 refine ⟨fun h=>(o6 fun R=>by obtain ⟨a1,a2,a3,a4,a5,a6,a7,a8⟩:=R.head; omega).symm,fun h=>?_⟩
 have hH:b0w r:=⟨by omega,by omega,by omega,by omega,by omega,by omega,by omega,by omega⟩
 clear h
 refine ⟨fun _=>by decide,fun h=>by omega,fun _ _ _ _ _ _=>?_⟩
 refine ⟨fun hu=>(o6 fun R=>?_).symm,fun hu=>?_⟩
 . simp only [Bool.decide_eq_true] at hu
   obtain ⟨a,b⟩:=R.til
   have c:=R.few
   rcases hu with (hu | ⟨h1,hu | hu⟩) | hu
   . omega
   . have:=(b h1).1; omega
   . exact hu (b h1).2
   . omega
 simp only [Bool.decide_eq_true] at hu
 have hU:b5r r:=by
  have u1:¬ 1<(r.Until.length:Int):=fun h=>hu (.inl (.inl h))
  exact ⟨by omega,fun h1=>⟨by have:¬ 0<r.Count:=fun h=>hu (.inl (.inr ⟨h1,.inl h⟩)); omega,Classical.not_not.1 fun hn=>hu (.inl (.inr ⟨h1,.inr hn⟩))⟩⟩
 have h24:(r.Days.length:Int)<=24:=by have:¬ 24<(r.Days.length:Int):=fun h=>hu (.inr h); omega
 clear hu
 refine ⟨by decide,by decide,fun a=>⟨a,(o6 fun R=>a2u a R.lists.mo).symm⟩,fun a=>⟨fun e=>⟨fun x=>a x,⟨not_false,by omega⟩,fun _=>by omega,e,(o6 fun R=>a2r e R.lists.mo).symm⟩,fun e=>⟨fun x=>a x,⟨not_false,by omega⟩,fun _=>by omega,fun x=>e x,⟨fun _=>by omega,fun _=>by decide,fun _=>by decide,fun _=>by decide,fun _=>by decide⟩,fun c=>(o6 fun R=>a2q (by decide) c R.lists.mo).symm,fun c=>?_⟩⟩⟩
 have r_mo:K2 r.Month 1 12 false:=a2h (by decide) a e c
 clear a e c
 refine ⟨⟨by omega,by omega⟩,⟨by omega,by omega⟩,?_⟩
 refine ⟨by decide,by decide,fun a=>⟨a,(o6 fun R=>a2u a R.lists.wn).symm⟩,fun a=>⟨fun e=>⟨fun x=>a x,⟨not_false,by omega⟩,fun _=>by omega,e,(o6 fun R=>a2r e R.lists.wn).symm⟩,fun e=>⟨fun x=>a x,⟨not_false,by omega⟩,fun _=>by omega,fun x=>e x,⟨fun _=>by omega,fun _=>by decide,fun _=>by decide,fun _=>by decide,fun _=>by decide⟩,fun c=>(o6 fun R=>a2q (by decide) c R.lists.wn).symm,fun c=>?_⟩⟩⟩
 have r_wn:K2 r.WeekNo 1 53 true:=a2h (by decide) a e c
 clear a e c
 refine ⟨⟨by omega,by omega⟩,⟨by omega,by omega⟩,?_⟩
 refine ⟨by decide,by decide,fun a=>⟨a,(o6 fun R=>a2u a R.lists.yd).symm⟩,fun a=>⟨fun e=>⟨fun x=>a x,⟨not_false,by omega⟩,fun _=>by omega,e,(o6 fun R=>a2r e R.lists.yd).symm⟩,fun e=>⟨fun x=>a x,⟨not_false,by omega⟩,fun _=>by omega,fun x=>e x,⟨fun _=>by omega,fun _=>by decide,fun _=>by decide,fun _=>by decide,fun _=>by decide⟩,fun c=>(o6 fun R=>a2q (by decide) c R.lists.yd).symm,fun c=>?_⟩⟩⟩
 have r_yd:K2 r.YearDay 1 366 true:=a2h (by decide) a e c
 clear a e c
 refine ⟨⟨by omega,by omega⟩,⟨by omega,by omega⟩,?_⟩
 refine ⟨by decide,by decide,fun a=>⟨a,(o6 fun R=>a2u a R.lists.md).symm⟩,fun a=>⟨fun e=>⟨fun x=>a x,⟨not_false,by omega⟩,fun _=>by omega,e,(o6 fun R=>a2r e R.lists.md).symm⟩,fun e=>⟨fun x=>a x,⟨not_false,by omega⟩,fun _=>by omega,fun x=>e x,⟨fun _=>by omega,fun _=>by decide,fun _=>by decide,fun _=>by decide,fun _=>by decide⟩,fun c=>(o6 fun R=>a2q (by decide) c R.lists.md).symm,fun c=>?_⟩⟩⟩
 have r_md:K2 r.MonthDay 1 31 true:=a2h (by decide) a e c
 clear a e c
 refine ⟨⟨by omega,by omega⟩,⟨by omega,by omega⟩,?_⟩
 refine ⟨by decide,by decide,fun a=>⟨a,(o6 fun R=>a2u a R.lists.ho).symm⟩,fun a=>⟨fun e=>⟨fun x=>a x,⟨not_false,by omega⟩,fun _=>by omega,e,(o6 fun R=>a2r e R.lists.ho).symm⟩,fun e=>⟨fun x=>a x,⟨not_false,by omega⟩,fun _=>by omega,fun x=>e x,⟨fun _=>by omega,fun _=>by decide,fun _=>by decide,fun _=>by decide,fun _=>by decide⟩,fun c=>(o6 fun R=>a2q (by decide) c R.lists.ho).symm,fun c=>?_⟩⟩⟩
 have r_ho:K2 r.Hour 0 23 false:=a2h (by decide) a e c
 clear a e c
 refine ⟨⟨by omega,by omega⟩,⟨by omega,by omega⟩,?_⟩
 refine ⟨by decide,by decide,fun a=>⟨a,(o6 fun R=>a2u a R.lists.mi).symm⟩,fun a=>⟨fun e=>⟨fun x=>a x,⟨not_false,by omega⟩,fun _=>by omega,e,(o6 fun R=>a2r e R.lists.mi).symm⟩,fun e=>⟨fun x=>a x,⟨not_false,by omega⟩,fun _=>by omega,fun x=>e x,⟨fun _=>by omega,fun _=>by decide,fun _=>by decide,fun _=>by decide,fun _=>by decide⟩,fun c=>(o6 fun R=>a2q (by decide) c R.lists.mi).symm,fun c=>?_⟩⟩⟩
 have r_mi:K2 r.Minute 0 59 false:=a2h (by decide) a e c
 clear a e c
 refine ⟨⟨by omega,by omega⟩,⟨by omega,by omega⟩,?_⟩
 refine ⟨by decide,by decide,fun a=>⟨a,(o6 fun R=>a2u a R.lists.se).symm⟩,fun a=>⟨fun e=>⟨fun x=>a x,⟨not_false,by omega⟩,fun _=>by omega,e,(o6 fun R=>a2r e R.lists.se).symm⟩,fun e=>⟨fun x=>a x,⟨not_false,by omega⟩,fun _=>by omega,fun x=>e x,⟨fun _=>by omega,fun _=>by decide,fun _=>by decide,fun _=>by decide,fun _=>by decide⟩,fun c=>(o6 fun R=>a2q (by decide) c R.lists.se).symm,fun c=>?_⟩⟩⟩
 have r_se:K2 r.Second 0 59 false:=a2h (by decide) a e c
 clear a e c
 refine ⟨⟨by omega,by omega⟩,⟨by omega,by omega⟩,?_⟩
 refine ⟨by decide,by decide,fun a=>⟨a,(o6 fun R=>a2u a R.lists.sp).symm⟩,fun a=>⟨fun e=>⟨fun x=>a x,⟨not_false,by omega⟩,fun _=>by omega,e,(o6 fun R=>a2r e R.lists.sp).symm⟩,fun e=>⟨fun x=>a x,⟨not_false,by omega⟩,fun _=>by omega,fun x=>e x,⟨fun _=>by omega,fun _=>by decide,fun _=>by decide,fun _=>by decide,fun _=>by decide⟩,fun c=>(o6 fun R=>a2q (by decide) c R.lists.sp).symm,fun c=>?_⟩⟩⟩
 have r_sp:K2 r.SetPos 1 366 true:=a2h (by decide) a e c
 clear a e c
 refine ⟨⟨by omega,by omega⟩,?_⟩
 have hL:a7y r:=⟨r_mo,r_wn,r_yd,r_md,r_ho,r_mi,r_se,r_sp⟩
 have m0:0<=C7 r/\C7 r<=53:=by
  unfold C7
  split
  . omega
  . split <;> omega
 refine ⟨fun x=>0<=x/\x<=r.Days.length/\M6 r.Days (C7 r) x,fun x=>((r.Days.length:Int)-x).toNat,⟨Int.le_refl _,by omega,M6.nil⟩,?_⟩
 rintro x ⟨x0,x1,hd⟩
 rw [show Nt.mk (ix r.Days (x-1)).N (ix r.Days (x-1)).Day=ix r.Days (x-1) from rfl,show Nt.mk (ix r.Days x).N (ix r.Days x).Day=ix r.Days x from rfl]
 refine ⟨fun hx=>⟨x0,hx,fun _ _=>⟨fun _=>⟨by omega,by omega⟩,fun h=>⟨by omega,by omega⟩,⟨fun h=>by omega,fun h=>by omega⟩,fun _ _=>⟨fun hb=>?_,fun hb=>?_⟩⟩⟩,fun hx=>?_⟩
 . refine (o6 fun R=>?_).symm
   obtain ⟨a1,a2,a3,a4⟩:=R.days.ok x x0 hx
   rcases hb with (((h | h) | h) | h) | ⟨h0,h⟩
   . omega
   . omega
   . omega
   . omega
   . exact a3z.1 h (R.days.up x h0 hx)
 . have hb':=fun h=>hb (.inl h)
   exact ⟨⟨by omega,by omega⟩,⟨by omega,by omega,hd.step ⟨by omega,by omega,by omega,by omega⟩ fun h0=>Classical.not_not.1 fun hn=>hb (.inr ⟨h0,a3z.2 hn⟩)⟩,by dsimp only; omega⟩
 . have b1:∀ a b:Int,(bif true then a else b)=a:=fun _ _=>rfl
   rw [b1,b1,b1,a54,a54,a54]
   have l1:=@O8 r.Hour
   have l2:=@O8 r.Minute
   have l3:=@O8 r.Second
   have k:=d03 (a:=D3 r.Hour) (b:=D3 r.Minute) (c:=D3 r.Second) (by omega) (by omega) (by omega)
   refine ⟨k.1,k.2,?_⟩
   refine Bool.eq_iff_iff.2 (Iff.trans decide_eq_true_iff (Iff.trans ?_ o0.symm))
   constructor
   . rintro ⟨⟨hf,hs⟩,hc⟩
     exact ⟨hH,hU,hL,h24,hd.done hx,Classical.not_not.1 fun hn=>(by rw [<- d0f hn] at hf; cases hf),⟨by omega,hc⟩⟩
   . intro R
     obtain ⟨s1,s2⟩:=R.some
     exact ⟨⟨(d0x R.fit).symm,by omega⟩,s2⟩
noncomputable def e46 (r:Rl):Q1 U:=⟨[C1 r=true],[],blB (B6 r)⟩
noncomputable def cgR (a:List (SV U)):Option (Q1 U):=match a with | [.agg l_r]=>(y30.bk (.agg l_r)).bind fun r=>some (e46 r) | _=>none
theorem e0t (args:List (SV U)) (q:Q1 U) (h:cgR args=some q) (ho:m6 q.ob):l8 NXr 40 args ⟨q.ob,q.hy,q.v,[]⟩:=by
 unfold cgR at h
 split at h
 . rename_i l_r
   obtain ⟨r,hb_r,h⟩:=Option.bind_eq_some_iff.1 h
   cases h
   refine l8.conv (E:=NXr) (args':=[.agg [.int .i64 r.Freq,.int .i64 r.Interval,.int .i64 r.Count,.sl 25 r.Until,.sl 3 r.Month,.sl 3 r.WeekNo,.sl 3 r.YearDay,.sl 3 r.MonthDay,.sl 60 r.Days,.sl 3 r.Hour,.sl 3 r.Minute,.sl 3 r.Second,.sl 3 r.SetPos,.int .i64 r.Wkst]]) (s8 b5o (j8 b5o q8 c2r 4) Tryz.func40 (k:=.bool) trivial (d8i (pgR r ho.1)) 0) fun D w vs hr=>z8 [.agg l_r] [.agg [.int .i64 r.Freq,.int .i64 r.Interval,.int .i64 r.Count,.sl (N:=U) 25 r.Until,.sl (N:=U) 3 r.Month,.sl (N:=U) 3 r.WeekNo,.sl (N:=U) 3 r.YearDay,.sl (N:=U) 3 r.MonthDay,.sl (N:=U) 60 r.Days,.sl (N:=U) 3 r.Hour,.sl (N:=U) 3 r.Minute,.sl (N:=U) 3 r.Second,.sl (N:=U) 3 r.SetPos,.int .i64 r.Wkst]] _ ⟨fun _ h=>C6 hb_r h,trivial⟩ hr
 . cases h
noncomputable def NgR:Env:=NXr.addL 40 cgR
theorem b3u:l5 NgR:=b5o.addL Tryz.call40 e0t
end Go.Proofs.YtdjfeninmbpflaaGreat
end
section
namespace Go.Re
open Go Go.Wk Go.Wl Go.Rx
theorem c60 {p:Prop} [Decidable p] {b:Bool} (h:p↔b=true):decide p=b:=Bool.eq_iff_iff.2 (decide_eq_true_iff.trans h)
structure u6 (s:Tm) (r:Rl):Prop where
 rt:q7 s=true
 rr:B6 r=true
 un:0<(r.Until.length:Int)->(((ix r.Until 0).Bare=true↔s.Bare=true)/\((ix r.Until 0).UTC=true↔s.UTC=true))
 ba:s.Bare=true->r.Freq<=3/\(r.Hour.length:Int)=0/\(r.Minute.length:Int)=0/\(r.Second.length:Int)=0
open Classical in
noncomputable def E4 (s:Tm) (r:Rl):Bool:=decide (u6 s r)
open Classical in
theorem E9 {s:Tm} {r:Rl}:E4 s r=true↔u6 s r:=by unfold E4; exact decide_eq_true_iff
theorem a3f {s:Tm} {r:Rl} (h:¬ u6 s r):false=E4 s r:=by
 cases e:E4 s r with
 | true=>exact absurd (E9.1 e) h
 | false=>rfl
def a35 (r:Rl) (t:Int):Int :=
 if r.Freq=0 then (ofS (t / 86400+1)).Year else if r.Freq=1 then 12 * (ofS (t / 86400+1)).Year+(ofS (t / 86400+1)).Month
 else if r.Freq=2 then (t / 86400+1+6-r.Wkst) / 7 else if r.Freq=3 then t / 86400+1 else if r.Freq=4 then t / 3600 else if r.Freq=5 then t / 60 else t
def q9 (r:Rl) (t:Int):Int:=a35 r t-(if r.Freq=1 then 1 else 0)
def nbP (n:Int):Int:=if n=0 ∨ 3652059<n then 315537897600 else (n-1) * 86400
def s6 (r:Rl) (i:Int):Int :=
 if r.Freq=0 then nbP (p7 ⟨i,1,1⟩) else if r.Freq=1 then nbP (p7 ⟨i / 12,i % 12+1,1⟩) else if r.Freq=2 then nbP (max 1 (7 * i-6+r.Wkst))
 else if r.Freq=3 then nbP i else if r.Freq=4 then min i 87649416 * 3600 else if r.Freq=5 then min i 5258964960 * 60 else min i 315537897600
theorem a3c (d:Dy):0<=p7 d/\p7 d<=3652059:=by
 unfold p7
 split
 . rename_i h; have:=S5 h; omega
 . omega
theorem b71 (n:Int):(0<=(ofS n).Year/\(ofS n).Year<=9999)/\(0<=(ofS n).Month/\(ofS n).Month<=12)/\0<=(ofS n).Date/\(ofS n).Date<=31:=by
 by_cases h:n<1 ∨ 3652059<n
 . have e:ofS n=⟨0,0,0⟩:=by unfold ofS; rw [if_pos h]
   rw [e]
   exact ⟨by decide,by decide,by decide⟩
 . obtain ⟨h1,_⟩:=T0 (n:=n) (by omega) (by omega)
   obtain ⟨a,b,c,d,e,f⟩:=h1.ym
   exact ⟨⟨by omega,b⟩,⟨by omega,d⟩,by omega,f⟩
def V7 (y f:Int):Int:=if F9 y f=0 then 1 else F9 y f
def atW (r:Rl) (n:Int):Int:=if r.Freq=1 ∨ 0<(r.Month.length:Int) then (ofS n).Date else ydS (ofS n)
def a36 (r:Rl) (n:Int):Int:=if r.Freq=1 ∨ 0<(r.Month.length:Int) then u9 (ofS n).Year (ofS n).Month else ydS ⟨(ofS n).Year,12,31⟩
def WdP (r:Rl) (n:Int) (x:Nt):Prop:=x.Day=wdS n/\((x.N=0 ∨ x.N=1+(atW r n-1) / 7) ∨ -x.N=1+(a36 r n-atW r n) / 7)
instance (r:Rl) (n:Int) (x:Nt):Decidable (WdP r n x):=by unfold WdP; infer_instance
def wdB (r:Rl) (n:Int):Bool:=r.Days.any fun x=>decide (WdP r n x)
def P4 (s:Tm) (r:Rl) (dy n:Int):Prop :=
 if 0<(r.WeekNo.length:Int) then wdS n=wdS dy
 else ¬ (((r.Freq<=1/\(ofS n).Date≠s.Day.Date) ∨ ((r.Freq=0/\(r.Month.length:Int)=0)/\(ofS n).Month≠s.Day.Month)))/\(r.Freq≠2 ∨ wdS n=wdS dy)
instance (s:Tm) (r:Rl) (dy n:Int):Decidable (P4 s r dy n):=by unfold P4; infer_instance
def Y9 (s:Tm) (r:Rl) (dy n:Int):Bool :=
 (((decide ((r.Month.length:Int)=0) || D5 r.Month (ofS n).Month) && Z7 r.WeekNo (B9 n r.Wkst).2 (V7 (B9 n r.Wkst).1 r.Wkst)) && (Z7 r.YearDay (ydS (ofS n)) (ydS ⟨(ofS n).Year,12,31⟩) && Z7 r.MonthDay (ofS n).Date (u9 (ofS n).Year (ofS n).Month))) &&
 (if 0<(r.Days.length:Int) then wdB r n else if 0<(r.YearDay.length:Int) ∨ 0<(r.MonthDay.length:Int) then true else decide (P4 s r dy n))
theorem e27 (n f:Int):-1000000<=(B9 n f).2/\(B9 n f).2<=1000000:=by
 unfold B9
 split
 . exact ⟨by decide,by decide⟩
 . show -1000000<=(n-w5 (wkY n f) f) / 7+1/\_
   obtain ⟨⟨y0,y1⟩,_⟩:=b71 n
   have hy:0-1<=wkY n f/\wkY n f<=10000:=by unfold wkY; split; omega; split <;> omega
   have b:=K3 (wkY n f) f
   have a0:=w8 (show -1<=wkY n f by omega)
   have a1:=w8 (show wkY n f<=10000 by omega)
   have a2:j4 (-1)=-731:=by decide
   have a3:j4 10000=3652059:=by decide
   show -1000000<=(n-w5 (wkY n f) f) / 7+1/\(n-w5 (wkY n f) f) / 7+1<=1000000
   omega
theorem d6j (y f:Int):-1000000<=V7 y f/\V7 y f<=1000000:=by
 unfold V7
 have h:-1000000<=F9 y f/\F9 y f<=1000000:=by
  unfold F9
  split
  . omega
  . have b:=K3 y f
    have c:=K3 (y+1) f
    have a0:=A8 (y:=y) (by omega) (by omega)
    have a1:=A8 (y:=y+1) (by omega) (by omega)
    omega
 split <;> omega
theorem b87 (d:Dy):-5000000<=ydS d/\ydS d<=5000000:=by
 unfold ydS
 split
 . rename_i h
   obtain ⟨y0,y1,_⟩:=h.ym
   have a:=S5 h
   have b:=A8 (y:=d.Year) (by omega) (by omega)
   omega
 . omega
theorem b85 (y m:Int):0<=u9 y m/\u9 y m<=31:=by unfold u9; (repeat' split) <;> omega
theorem c84 {r:Rl} {n i:Int} (h0:0<=i) (h1:i<r.Days.length) (h:WdP r n (ix r.Days i)):true=wdB r n:=(List.any_eq_true.2 ⟨_,a0k h0 h1,decide_eq_true h⟩).symm
theorem d1g {r:Rl} {n:Int} (h:∀ i:Int,0<=i->i<r.Days.length->¬ WdP r n (ix r.Days i)):false=wdB r n:=by
 cases hb:wdB r n with
 | false=>rfl
 | true =>
  obtain ⟨x,hx,hd⟩:=List.any_eq_true.1 hb
  obtain ⟨i,h0,h1,rfl⟩:=D9 hx
  exact absurd (of_decide_eq_true hd) (h i h0 h1)
theorem d2e (r:Rl) (n:Int):0<=atW r n+5000000/\atW r n<=5000000/\0<=a36 r n+5000000/\a36 r n<=5000000:=by
 have a:=b87 (ofS n)
 have b:=b87 ⟨(ofS n).Year,12,31⟩
 have c:=b85 (ofS n).Year (ofS n).Month
 obtain ⟨_,_,d⟩:=b71 n
 unfold atW a36
 split <;> omega
theorem e25 {n:Int} (h0:1<=n) (h1:n<=3652059):1<=ydS (ofS n)/\ydS (ofS n)<=ydS ⟨(ofS n).Year,12,31⟩:=by
 obtain ⟨hr,hn⟩:=T0 h0 h1
 obtain ⟨y0,y1,m0,m1,_⟩:=hr.ym
 have i1:=V3 hr
 have hr2:A9 ⟨(ofS n).Year,12,31⟩:=by
  refine ⟨show (1:Int)<=31 by decide,?_⟩
  show (31:Int)<=u9 (ofS n).Year 12
  unfold u9
  rw [if_neg (by omega),if_neg (by decide)]
  decide
 have e1:ydS (ofS n)=F6 (ofS n)-j4 (ofS n).Year:=by unfold ydS; rw [if_pos hr]
 have e2:ydS ⟨(ofS n).Year,12,31⟩=G7 (ofS n).Year 12+31:=by
  unfold ydS; rw [if_pos hr2]
  show j4 (ofS n).Year+G7 (ofS n).Year 12+31-j4 (ofS n).Year=_
  omega
 have:=b22 (ofS n).Year
 omega
theorem e2n {r:Rl} {n:Int} (h0:1<=n) (h1:n<=3652059):1<=atW r n/\atW r n<=a36 r n:=by
 obtain ⟨hr,hn⟩:=T0 h0 h1
 have a:=e25 h0 h1
 unfold atW a36
 split
 . exact hr
 . exact a
end Go.Re
end
section
namespace Go.Proofs.YtdjfeninmbpflaaGreat
open Go Go.Wk Go.Wl Go.Rx Go.Re 
attribute [local irreducible] i6
def c4l:Nat->Ann:=fun | 18=>⟨57,fun | 4=>some ⟨[2,3,16,17],[.slot 18 (.int .i64)]⟩ | _=>none,fun _=>none⟩ | _=>⟨0,fun _=>none,fun _=>none⟩
def VcF (s:Tm) (r:Rl) (Q:Bool->Prop):Prop :=
(¬¬q7 (Tm.mk (Dy.mk s.Day.Year s.Day.Month s.Day.Date) s.Hour s.Min s.Sec (decide (s.Bare=true)) (decide (s.UTC=true)))=true->C1 (Rl.mk r.Freq r.Interval r.Count r.Until r.Month r.WeekNo r.YearDay r.MonthDay r.Days r.Hour r.Minute r.Second r.SetPos r.Wkst)=true)/\(¬q7 (Tm.mk (Dy.mk s.Day.Year s.Day.Month s.Day.Date) s.Hour s.Min s.Sec (decide (s.Bare=true)) (decide (s.UTC=true)))=true ∨ ¬B6 (Rl.mk r.Freq r.Interval r.Count r.Until r.Month r.WeekNo r.YearDay r.MonthDay r.Days r.Hour r.Minute r.Second r.SetPos r.Wkst)=true->Q false)/\(¬(¬q7 (Tm.mk (Dy.mk s.Day.Year s.Day.Month s.Day.Date) s.Hour s.Min s.Sec (decide (s.Bare=true)) (decide (s.UTC=true)))=true ∨ ¬B6 (Rl.mk r.Freq r.Interval r.Count r.Until r.Month r.WeekNo r.YearDay r.MonthDay r.Days r.Hour r.Minute r.Second r.SetPos r.Wkst)=true)->∃ (I:Int->Prop),∃ (m:Int->Nat),I (0:Int)/\∀ (x:Int),I x->(x<(↑r.Until.length:Int)->(0:Int)<=x/\x<(↑r.Until.length:Int)/\(b8 (ix r.Until x).Day.Year->b8 (ix r.Until x).Day.Month->b8 (ix r.Until x).Day.Date->b8 (ix r.Until x).Hour->b8 (ix r.Until x).Min->b8 (ix r.Until x).Sec->(¬((ix r.Until x).Bare=true↔s.Bare=true) ∨ ¬((ix r.Until x).UTC=true↔s.UTC=true)->Q false)/\(¬(¬((ix r.Until x).Bare=true↔s.Bare=true) ∨ ¬((ix r.Until x).UTC=true↔s.UTC=true))->b8 (x+1)/\I (x+1)/\m (x+1)<m x)))/\(¬x<(↑r.Until.length:Int)->(¬¬s.Bare=true/\r.Freq<=3->b8 ((↑r.Hour.length:Int)+(↑r.Minute.length:Int)))/\(¬¬s.Bare=true/\r.Freq<=3->b8 ((↑r.Hour.length:Int)+(↑r.Minute.length:Int)+(↑r.Second.length:Int)))/\Q (decide (¬s.Bare=true ∨ r.Freq<=3/\(↑r.Hour.length:Int)+(↑r.Minute.length:Int)+(↑r.Second.length:Int)=0))))
theorem d4p {s:Tm} {r:Rl} {Q:Bool->Prop}:@Eq Prop (VcF s r Q) (i6 (E:=NgR) (j7 NgR H0 c4l 2) (c4l 18) Tryz.f18 [.agg [.int .i64 s.Day.Year,.int .i64 s.Day.Month,.int .i64 s.Day.Date,.int .i64 s.Hour,.int .i64 s.Min,.int .i64 s.Sec,blB s.Bare,blB s.UTC],.agg [.int .i64 r.Freq,.int .i64 r.Interval,.int .i64 r.Count,.sl (N:=U) 25 r.Until,.sl (N:=U) 3 r.Month,.sl (N:=U) 3 r.WeekNo,.sl (N:=U) 3 r.YearDay,.sl (N:=U) 3 r.MonthDay,.sl (N:=U) 60 r.Days,.sl (N:=U) 3 r.Hour,.sl (N:=U) 3 r.Minute,.sl (N:=U) 3 r.Second,.sl (N:=U) 3 r.SetPos,.int .i64 r.Wkst]] [] [] 0 (n7 NgR [.bool] Q)):=by kernel_rfl
theorem d2y {s:Tm} {r:Rl} {Q:Bool->Prop} (h:VcF s r Q):i6 (E:=NgR) (j7 NgR H0 c4l 2) (c4l 18) Tryz.f18 [.agg [.int .i64 s.Day.Year,.int .i64 s.Day.Month,.int .i64 s.Day.Date,.int .i64 s.Hour,.int .i64 s.Min,.int .i64 s.Sec,blB s.Bare,blB s.UTC],.agg [.int .i64 r.Freq,.int .i64 r.Interval,.int .i64 r.Count,.sl (N:=U) 25 r.Until,.sl (N:=U) 3 r.Month,.sl (N:=U) 3 r.WeekNo,.sl (N:=U) 3 r.YearDay,.sl (N:=U) 3 r.MonthDay,.sl (N:=U) 60 r.Days,.sl (N:=U) 3 r.Hour,.sl (N:=U) 3 r.Minute,.sl (N:=U) 3 r.Second,.sl (N:=U) 3 r.SetPos,.int .i64 r.Wkst]] [] [] 0 (n7 NgR [.bool] Q):=by rw [<- d4p]; exact h
theorem pcF (s:Tm) (r:Rl) (hfw:C1 r=true):VcF s r (fun y0=>y0=E4 s r):=by
 unfold VcF
 rw [show (Rl.mk r.Freq r.Interval r.Count r.Until r.Month r.WeekNo r.YearDay r.MonthDay r.Days r.Hour r.Minute r.Second r.SetPos r.Wkst)=r from rfl]
 simp only [Bool.decide_eq_true]
 refine ⟨fun _=>hfw,fun h=>a3f fun F=>h.elim (fun h=>h F.rt) fun h=>h F.rr,fun h=>?_⟩
 have rt:q7 s=true:=Classical.not_not.1 fun hn=>h (.inl hn)
 have rr:B6 r=true:=Classical.not_not.1 fun hn=>h (.inr hn)
 obtain ⟨wmo,wwn,wyd,wmd,wdy,who,wmi,wse,wsp,wti⟩:=Y1 hfw
 have hl:(r.Until.length:Int)<=1:=(o0.1 rr).til.1
 refine ⟨fun x=>0<=x/\(0<x->(((ix r.Until 0).Bare=true↔s.Bare=true)/\((ix r.Until 0).UTC=true↔s.UTC=true))),fun x=>((r.Until.length:Int)-x).toNat,⟨Int.le_refl _,fun h=>by omega⟩,?_⟩
 rintro x ⟨x0,hx⟩
 refine ⟨fun h1=>?_,fun h1=>?_⟩
 . obtain rfl:x=0:=by omega
   refine ⟨x0,h1,fun _ _ _ _ _ _=>⟨fun hn=>a3f fun F=>?_,fun hn=>⟨by decide,⟨by decide,fun _=>⟨Classical.not_not.1 fun h=>hn (.inl h),Classical.not_not.1 fun h=>hn (.inr h)⟩⟩,by dsimp only; omega⟩⟩⟩
   obtain ⟨a,b⟩:=F.un h1
   exact hn.elim (fun h=>h a) fun h=>h b
 . refine ⟨fun _=>⟨by omega,by omega⟩,fun _=>⟨by omega,by omega⟩,?_⟩
   refine Bool.eq_iff_iff.2 (Iff.trans decide_eq_true_iff (Iff.trans ?_ E9.symm))
   constructor
   . intro hb
     exact ⟨rt,rr,fun h0=>hx (by omega),fun hs=>by rcases hb with hb | ⟨hb,hc⟩; exact absurd hs hb; exact ⟨hb,by omega,by omega,by omega⟩⟩
   . intro F
     by_cases hs:s.Bare=true
     . obtain ⟨a,b,c,d⟩:=F.ba hs
       exact .inr ⟨a,by omega⟩
     . exact .inl hs
noncomputable def e3j (s:Tm) (r:Rl):Q1 U:=⟨[C1 r=true],[],blB (E4 s r)⟩
noncomputable def ccF (a:List (SV U)):Option (Q1 U):=match a with | [.agg l_s,.agg l_r]=>(y25.bk (.agg l_s)).bind fun s=>(y30.bk (.agg l_r)).bind fun r=>some (e3j s r) | _=>none
theorem e1r (args:List (SV U)) (q:Q1 U) (h:ccF args=some q) (ho:m6 q.ob):l8 NgR 18 args ⟨q.ob,q.hy,q.v,[]⟩:=by
 unfold ccF at h
 split at h
 . rename_i l_s l_r
   obtain ⟨s,hb_s,h⟩:=Option.bind_eq_some_iff.1 h
   obtain ⟨r,hb_r,h⟩:=Option.bind_eq_some_iff.1 h
   cases h
   refine l8.conv (E:=NgR) (args':=[.agg [.int .i64 s.Day.Year,.int .i64 s.Day.Month,.int .i64 s.Day.Date,.int .i64 s.Hour,.int .i64 s.Min,.int .i64 s.Sec,blB s.Bare,blB s.UTC],.agg [.int .i64 r.Freq,.int .i64 r.Interval,.int .i64 r.Count,.sl 25 r.Until,.sl 3 r.Month,.sl 3 r.WeekNo,.sl 3 r.YearDay,.sl 3 r.MonthDay,.sl 60 r.Days,.sl 3 r.Hour,.sl 3 r.Minute,.sl 3 r.Second,.sl 3 r.SetPos,.int .i64 r.Wkst]]) (s8 b3u (j8 b3u q8 c4l 2) Tryz.func18 (k:=.bool) trivial (d2y (pcF s r ho.1)) 0) fun D w vs hr=>z8 [.agg l_s,.agg l_r] [.agg [.int .i64 s.Day.Year,.int .i64 s.Day.Month,.int .i64 s.Day.Date,.int .i64 s.Hour,.int .i64 s.Min,.int .i64 s.Sec,blB s.Bare,blB s.UTC],.agg [.int .i64 r.Freq,.int .i64 r.Interval,.int .i64 r.Count,.sl (N:=U) 25 r.Until,.sl (N:=U) 3 r.Month,.sl (N:=U) 3 r.WeekNo,.sl (N:=U) 3 r.YearDay,.sl (N:=U) 3 r.MonthDay,.sl (N:=U) 60 r.Days,.sl (N:=U) 3 r.Hour,.sl (N:=U) 3 r.Minute,.sl (N:=U) 3 r.Second,.sl (N:=U) 3 r.SetPos,.int .i64 r.Wkst]] _ ⟨fun _ h=>A0 hb_s h,fun _ h=>C6 hb_r h,trivial⟩ hr
 . cases h
noncomputable def NcF:Env:=NgR.addL 18 ccF
theorem b46:l5 NcF:=b3u.addL Tryz.call18 e1r
def c6d:Nat->Ann:=fun | 21=>⟨63,fun _=>none,fun _=>none⟩ | _=>⟨0,fun _=>none,fun _=>none⟩
def VxF (s:Tm) (r:Rl) (Q:Bool->Prop):Prop :=
(¬¬q7 (Tm.mk (Dy.mk s.Day.Year s.Day.Month s.Day.Date) s.Hour s.Min s.Sec (decide (s.Bare=true)) (decide (s.UTC=true)))=true->C1 (Rl.mk r.Freq r.Interval r.Count r.Until r.Month r.WeekNo r.YearDay r.MonthDay r.Days r.Hour r.Minute r.Second r.SetPos r.Wkst)=true)/\(¬q7 (Tm.mk (Dy.mk s.Day.Year s.Day.Month s.Day.Date) s.Hour s.Min s.Sec (decide (s.Bare=true)) (decide (s.UTC=true)))=true ∨ ¬B6 (Rl.mk r.Freq r.Interval r.Count r.Until r.Month r.WeekNo r.YearDay r.MonthDay r.Days r.Hour r.Minute r.Second r.SetPos r.Wkst)=true->Q false)/\(¬(¬q7 (Tm.mk (Dy.mk s.Day.Year s.Day.Month s.Day.Date) s.Hour s.Min s.Sec (decide (s.Bare=true)) (decide (s.UTC=true)))=true ∨ ¬B6 (Rl.mk r.Freq r.Interval r.Count r.Until r.Month r.WeekNo r.YearDay r.MonthDay r.Days r.Hour r.Minute r.Second r.SetPos r.Wkst)=true)->((0:Int)<(↑r.Until.length:Int)->(0:Int)<=0)/\((0:Int)<(↑r.Until.length:Int)->(0:Int)<(↑r.Until.length:Int))/\(((0:Int)<(↑r.Until.length:Int)->b8 (ix r.Until (0:Int)).Day.Year)->((0:Int)<(↑r.Until.length:Int)->b8 (ix r.Until (0:Int)).Day.Month)->((0:Int)<(↑r.Until.length:Int)->b8 (ix r.Until (0:Int)).Day.Date)->((0:Int)<(↑r.Until.length:Int)->b8 (ix r.Until (0:Int)).Hour)->((0:Int)<(↑r.Until.length:Int)->b8 (ix r.Until (0:Int)).Min)->((0:Int)<(↑r.Until.length:Int)->b8 (ix r.Until (0:Int)).Sec)->((0:Int)<(↑r.Until.length:Int)/\¬¬((ix r.Until (0:Int)).Bare=true↔s.Bare=true)->(0:Int)<=0)/\((0:Int)<(↑r.Until.length:Int)/\¬¬((ix r.Until (0:Int)).Bare=true↔s.Bare=true)->(0:Int)<(↑r.Until.length:Int))/\(((0:Int)<(↑r.Until.length:Int)/\¬¬((ix r.Until (0:Int)).Bare=true↔s.Bare=true)->b8 (ix r.Until (0:Int)).Day.Year)->((0:Int)<(↑r.Until.length:Int)/\¬¬((ix r.Until (0:Int)).Bare=true↔s.Bare=true)->b8 (ix r.Until (0:Int)).Day.Month)->((0:Int)<(↑r.Until.length:Int)/\¬¬((ix r.Until (0:Int)).Bare=true↔s.Bare=true)->b8 (ix r.Until (0:Int)).Day.Date)->((0:Int)<(↑r.Until.length:Int)/\¬¬((ix r.Until (0:Int)).Bare=true↔s.Bare=true)->b8 (ix r.Until (0:Int)).Hour)->((0:Int)<(↑r.Until.length:Int)/\¬¬((ix r.Until (0:Int)).Bare=true↔s.Bare=true)->b8 (ix r.Until (0:Int)).Min)->((0:Int)<(↑r.Until.length:Int)/\¬¬((ix r.Until (0:Int)).Bare=true↔s.Bare=true)->b8 (ix r.Until (0:Int)).Sec)->((0:Int)<(↑r.Until.length:Int)/\(¬((ix r.Until (0:Int)).Bare=true↔s.Bare=true) ∨ ¬((ix r.Until (0:Int)).UTC=true↔s.UTC=true))->Q false)/\(¬((0:Int)<(↑r.Until.length:Int)/\(¬((ix r.Until (0:Int)).Bare=true↔s.Bare=true) ∨ ¬((ix r.Until (0:Int)).UTC=true↔s.UTC=true)))->Q (decide (¬s.Bare=true ∨ ((r.Freq<=3/\(↑r.Hour.length:Int)=0)/\(↑r.Minute.length:Int)=0)/\(↑r.Second.length:Int)=0))))))
theorem e00 {s:Tm} {r:Rl} {Q:Bool->Prop}:@Eq Prop (VxF s r Q) (i6 (E:=NcF) (j7 NcF H0 c6d 2) (c6d 21) Tryz.f21 [.agg [.int .i64 s.Day.Year,.int .i64 s.Day.Month,.int .i64 s.Day.Date,.int .i64 s.Hour,.int .i64 s.Min,.int .i64 s.Sec,blB s.Bare,blB s.UTC],.agg [.int .i64 r.Freq,.int .i64 r.Interval,.int .i64 r.Count,.sl (N:=U) 25 r.Until,.sl (N:=U) 3 r.Month,.sl (N:=U) 3 r.WeekNo,.sl (N:=U) 3 r.YearDay,.sl (N:=U) 3 r.MonthDay,.sl (N:=U) 60 r.Days,.sl (N:=U) 3 r.Hour,.sl (N:=U) 3 r.Minute,.sl (N:=U) 3 r.Second,.sl (N:=U) 3 r.SetPos,.int .i64 r.Wkst]] [] [] 0 (n7 NcF [.bool] Q)):=by kernel_rfl
theorem d1x {s:Tm} {r:Rl} {Q:Bool->Prop} (h:VxF s r Q):i6 (E:=NcF) (j7 NcF H0 c6d 2) (c6d 21) Tryz.f21 [.agg [.int .i64 s.Day.Year,.int .i64 s.Day.Month,.int .i64 s.Day.Date,.int .i64 s.Hour,.int .i64 s.Min,.int .i64 s.Sec,blB s.Bare,blB s.UTC],.agg [.int .i64 r.Freq,.int .i64 r.Interval,.int .i64 r.Count,.sl (N:=U) 25 r.Until,.sl (N:=U) 3 r.Month,.sl (N:=U) 3 r.WeekNo,.sl (N:=U) 3 r.YearDay,.sl (N:=U) 3 r.MonthDay,.sl (N:=U) 60 r.Days,.sl (N:=U) 3 r.Hour,.sl (N:=U) 3 r.Minute,.sl (N:=U) 3 r.Second,.sl (N:=U) 3 r.SetPos,.int .i64 r.Wkst]] [] [] 0 (n7 NcF [.bool] Q):=by rw [<- e00]; exact h
theorem pxF (s:Tm) (r:Rl) (hfw:C1 r=true):VxF s r (fun y0=>y0=E4 s r):=by
 unfold VxF
 rw [show (Rl.mk r.Freq r.Interval r.Count r.Until r.Month r.WeekNo r.YearDay r.MonthDay r.Days r.Hour r.Minute r.Second r.SetPos r.Wkst)=r from rfl]
 simp only [Bool.decide_eq_true]
 refine ⟨fun _=>hfw,fun h=>a3f fun F=>h.elim (fun h=>h F.rt) fun h=>h F.rr,fun h=>?_⟩
 have rt:q7 s=true:=Classical.not_not.1 fun hn=>h (.inl hn)
 have rr:B6 r=true:=Classical.not_not.1 fun hn=>h (.inr hn)
 refine ⟨fun _=>by decide,fun h=>h,fun _ _ _ _ _ _=>⟨fun _=>by decide,fun h=>h.1,fun _ _ _ _ _ _=>⟨fun hn=>a3f fun F=>?_,fun hn=>?_⟩⟩⟩
 . obtain ⟨a,b⟩:=F.un hn.1
   exact hn.2.elim (fun h=>h a) fun h=>h b
 . refine Bool.eq_iff_iff.2 (Iff.trans decide_eq_true_iff (Iff.trans ?_ E9.symm))
   constructor
   . intro hb
     exact ⟨rt,rr,fun h0=>⟨Classical.not_not.1 fun h=>hn ⟨h0,.inl h⟩,Classical.not_not.1 fun h=>hn ⟨h0,.inr h⟩⟩,fun hs=>by rcases hb with hb | ⟨⟨⟨h1,h2⟩,h3⟩,h4⟩; exact absurd hs hb; exact ⟨h1,h2,h3,h4⟩⟩
   . intro F
     by_cases hs:s.Bare=true
     . obtain ⟨a,b,c,d⟩:=F.ba hs
       exact .inr ⟨⟨⟨a,b⟩,c⟩,d⟩
     . exact .inl hs
noncomputable def e4l (s:Tm) (r:Rl):Q1 U:=⟨[C1 r=true],[],blB (E4 s r)⟩
noncomputable def cxF (a:List (SV U)):Option (Q1 U):=match a with | [.agg l_s,.agg l_r]=>(y25.bk (.agg l_s)).bind fun s=>(y30.bk (.agg l_r)).bind fun r=>some (e4l s r) | _=>none
theorem d6z (args:List (SV U)) (q:Q1 U) (h:cxF args=some q) (ho:m6 q.ob):l8 NcF 21 args ⟨q.ob,q.hy,q.v,[]⟩:=by
 unfold cxF at h
 split at h
 . rename_i l_s l_r
   obtain ⟨s,hb_s,h⟩:=Option.bind_eq_some_iff.1 h
   obtain ⟨r,hb_r,h⟩:=Option.bind_eq_some_iff.1 h
   cases h
   refine l8.conv (E:=NcF) (args':=[.agg [.int .i64 s.Day.Year,.int .i64 s.Day.Month,.int .i64 s.Day.Date,.int .i64 s.Hour,.int .i64 s.Min,.int .i64 s.Sec,blB s.Bare,blB s.UTC],.agg [.int .i64 r.Freq,.int .i64 r.Interval,.int .i64 r.Count,.sl 25 r.Until,.sl 3 r.Month,.sl 3 r.WeekNo,.sl 3 r.YearDay,.sl 3 r.MonthDay,.sl 60 r.Days,.sl 3 r.Hour,.sl 3 r.Minute,.sl 3 r.Second,.sl 3 r.SetPos,.int .i64 r.Wkst]]) (s8 b46 (j8 b46 q8 c6d 2) Tryz.func21 (k:=.bool) trivial (d1x (pxF s r ho.1)) 0) fun D w vs hr=>z8 [.agg l_s,.agg l_r] [.agg [.int .i64 s.Day.Year,.int .i64 s.Day.Month,.int .i64 s.Day.Date,.int .i64 s.Hour,.int .i64 s.Min,.int .i64 s.Sec,blB s.Bare,blB s.UTC],.agg [.int .i64 r.Freq,.int .i64 r.Interval,.int .i64 r.Count,.sl (N:=U) 25 r.Until,.sl (N:=U) 3 r.Month,.sl (N:=U) 3 r.WeekNo,.sl (N:=U) 3 r.YearDay,.sl (N:=U) 3 r.MonthDay,.sl (N:=U) 60 r.Days,.sl (N:=U) 3 r.Hour,.sl (N:=U) 3 r.Minute,.sl (N:=U) 3 r.Second,.sl (N:=U) 3 r.SetPos,.int .i64 r.Wkst]] _ ⟨fun _ h=>A0 hb_s h,fun _ h=>C6 hb_r h,trivial⟩ hr
 . cases h
noncomputable def NxF:Env:=NcF.addL 21 cxF
theorem b4x:l5 NxF:=b46.addL Tryz.call21 d6z
def c3e:Nat->Ann:=fun | 81=>⟨18,fun _=>none,fun _=>none⟩ | _=>⟨0,fun _=>none,fun _=>none⟩
def Vch (l:List Int) (n:Int) (a:Int) (Q:Bool->Prop):Prop :=
l.length<=1000000/\(¬D5 l n=true->b8 (n-a))/\(¬D5 l n=true->b8 (n-a-1))/\(¬D5 l n=true->l.length<=1000000)/\Q (decide (D5 l n=true ∨ D5 l (n-a-1)=true))
theorem e0i {l:List Int} {n:Int} {a:Int} {Q:Bool->Prop}:@Eq Prop (Vch l n a Q) (i6 (E:=NxF) (j7 NxF H0 c3e 2) (c3e 81) Tryz.f81 [.sl (N:=U) 3 l,.int .i64 n,.int .i64 a] [] [] 0 (n7 NxF [.bool] Q)):=by kernel_rfl
theorem d9c {l:List Int} {n:Int} {a:Int} {Q:Bool->Prop} (h:Vch l n a Q):i6 (E:=NxF) (j7 NxF H0 c3e 2) (c3e 81) Tryz.f81 [.sl (N:=U) 3 l,.int .i64 n,.int .i64 a] [] [] 0 (n7 NxF [.bool] Q):=by rw [<- e0i]; exact h
theorem pch (l:List Int) (n:Int) (a:Int) (hl:l.length<=1000000) (n0:-10000000<=n) (n1:n<=10000000) (a0:-10000000<=a) (a1:a<=10000000):Vch l n a (fun y0=>y0=Re.hasE l n a):=by
 unfold Vch Re.hasE
 refine ⟨hl,fun _=>⟨by omega,by omega⟩,fun _=>⟨by omega,by omega⟩,fun _=>hl,c60 ?_⟩
 rw [Bool.or_eq_true]
def cch (a:List (SV U)):Option (Q1 U):=match a with | [.sl 3 l,.int .i64 n,.int .i64 a]=>some ⟨[List.length (α:=Int) l<=1000000,-10000000<=n,n<=10000000,-10000000<=a,a<=10000000],[],blB (Re.hasE l n a)⟩ | _=>none
theorem d5q (args:List (SV U)) (q:Q1 U) (h:cch args=some q) (ho:m6 q.ob):l8 NxF 81 args ⟨q.ob,q.hy,q.v,[]⟩:=by
 unfold cch at h
 split at h
 . rename_i l n a
   cases h
   exact s8 b4x (j8 b4x q8 c3e 2) Tryz.func81 (k:=.bool) (x:=Re.hasE l n a) trivial (d9c (pch l n a ho.1 ho.2.1 ho.2.2.1 ho.2.2.2.1 ho.2.2.2.2.1)) 0
 . cases h
noncomputable def Nch:Env:=NxF.addL 81 cch
theorem b4w:l5 Nch:=b4x.addL Tryz.call81 d5q
end Go.Proofs.YtdjfeninmbpflaaGreat
end
