/- 64 texts, one behind the other. -/
import Derived.Test.YtdjfeninmbpflaaGreatQ4
import Derived.Test.YtdjfeninmbpflaaGreatQEr
import Derived.Test.YtdjfeninmbpflaaGreatQ1
import Derived.Shelf.Sort.Plain
import Derived.Ground.Names2Prog
import Derived.Shelf.Slices.Clone
import Derived.Shelf.Slices.CompactI
import Derived.Shelf.Slices.Cells
import Derived.Shelf.Slices.In.SortNone
import Derived.Test.YtdjfeninmbpflaaGreatProg
import Derived.Lib.SlicesCompact
set_option linter.unusedVariables false
set_option linter.unusedSimpArgs false
set_option maxRecDepth 100000
section
namespace Go.Proofs.YtdjfeninmbpflaaGreat
open Go Go.Wk Go.Wl Go.Rx Go.Re 
def Gl:Glob:=⟨fun _ _=>True,fun _ _ _ _=>trivial⟩
noncomputable def yoF (x:ClX Tryz.prog) (a:List (SV U)):Option (OR U 0):=match a with | [.int .i64 t]=>some ⟨[ClX.pre x t],[],blB (ClX.res x t),ClX.put x t⟩ | _=>none
noncomputable def yoC:OC U:=⟨0,yoF⟩
theorem yoF_ok (x:ClX Tryz.prog) (args:List (SV U)) (r:OR U 0) (hr:yoF x args=some r) (ho:allP r.ob) (D:Nat->Prop) (Z:Nat->Prop) (w:World) (vs:List Value) (b:Nat) (F:List Nat) (hz:∀ b,Z b->b<w.heap.size) (hF:∀ b∈F,¬ Z b) (hob:(obY Tryz.prog b).is Z w x F) (ha:Rep U eT (fun _=>none) D w (.tuple vs.toArray) (.tup args)) :
  YieldR Tryz.prog b vs w (fun v w'=>∃ F',(obY Tryz.prog b).is Z w' r.x F'/\Turn w w' F F'/\Rep U eT (fun _=>none) (fun _=>False) w' v r.r/\allP r.hy):=by
 unfold yoF at hr
 split at hr
 . rename_i t
   cases hr
   obtain ⟨v1,vr,rfl,h1,ha⟩:=Rep.tup_cons ha
   obtain rfl:=tupNil ha
   cases h1 with | int hi =>
   exact (x.1.step Z w b F x.2 t hz hF hob ho.1 (hi rfl)).mono fun v w' ⟨e,F',h1,h2⟩=>⟨F',h1,h2,by subst e; exact ClX.bl,trivial⟩
 . cases hr
noncomputable def E0:Env:=⟨Tryz.prog,U,eT,tyU,fun _=>none,fun _=>none,fun _=>false,fun _=>none,fun _=>none,Gl,fun _=>none,fun t=>Nat.beq t 101,fun _=>none,fun _=>none,some yoC⟩
theorem E0_ok:EnvOK E0:=by
 refine ⟨by kernel_rfl,fun t k x h=>?_,fun K h=>?_,fun K fn h=>?_,fun K f args nx c h=>?_,fun K f args nx c h=>?_,fun K o x args r h=>?_,fun K o a x r h=>?_,fun K h=>?_,fun K o args its r h=>?_,fun K h=>?_,fun K C args its q h=>?_,fun o x args r h hr ho=>?_⟩ <;> first | (cases h; done) | skip
 cases h
 exact fun Z D w vs b F hz _ hF hob _ ha=>yoF_ok x args r hr ho D Z w vs b F hz (fun b hb=>(hF b hb).1) hob ha
theorem tup0_inv {ρ:Env1} {Z:Nat->Prop} {w:World} {cs:List Value} (h:Rep U eT ρ Z w (.tuple cs.toArray) (.tup [])):cs=[]:=by
 generalize e:Value.tuple cs.toArray=u at h
 cases h with | tup0=>simpa using e
theorem sim_ext {w w1 w2:World} {B:List Nat} (hs:Sim w w1) (h:Ext B w1 w2):Ext B w w2:=by
 obtain ⟨k,rfl⟩:=hs
 exact ⟨h.os,h.tape,h.output,h.size,h.block⟩
theorem lend_ext {K:Nat} {args:List (SV U)} {q:Q1 U} (h:∀ (D:Nat->Prop) (w:World) (vs:List Value),Rep U eT (fun _=>none) D w (.tuple vs.toArray) (.tup args)->∃ v,(∀ w',Rep U eT (fun _=>none) (fun _=>False) w' v q.v)/\allP q.hy/\∀ w1,Sim w w1->Calls Tryz.prog K vs.toArray w1 fun e w'=>e=.returned v/\Ext [] w1 w'):LendOK E0 K args ⟨q.ob,q.hy,q.v,[]⟩ :=
 fun D w vs _ _ ha w1 hs=>by
  obtain ⟨v,hr,hy,hc⟩:=h D w vs ha
  exact (hc w1 hs).mono fun e w2 ⟨h1,h2⟩=>⟨v,w2,h1,Sim.refl _,sim_ext hs h2,hr w2,hy⟩
theorem alloc_old' (w:World) (o:Obj) (k:Nat) (hk:k<w.heap.size):(w.alloc o).heap[k]?=w.heap[k]? := by
 show (w.heap.push o)[k]?=_
 rw [Array.getElem?_push,if_neg (by omega)]
theorem ext_alloc {w:World} {B:List Nat} (o:Obj):Ext B w (w.alloc o):=⟨rfl,rfl,rfl,(by show w.heap.size<=(w.heap.push o).size; rw [Array.size_push]; omega),fun k hk _=>alloc_old' w o k hk⟩
def CvL (ρ:Env1) (Z:Nat->Prop) (w:World):List (SV U)->List (SV U)->Prop
 | [],[]=>True
 | s::r,s'::r'=>(∀ v,Rep U eT ρ Z w v s->Rep U eT ρ Z w v s')/\CvL ρ Z w r r'
 | _,_=>False
theorem tup_conv {ρ:Env1} {Z:Nat->Prop} {w:World}:∀ (a b:List (SV U)) (v:Value),CvL ρ Z w a b->Rep U eT ρ Z w v (.tup a)->Rep U eT ρ Z w v (.tup b)
 | [],[],_,_,h=>h
 | [],_::_,_,hc,_=>hc.elim
 | _::_,[],_,hc,_=>hc.elim
 | s::r,s'::r',v,hc,h=>by
  generalize e:SV.tup (s::r)=q at h
  cases h with
  | tup1 ha hr=>cases e; exact .tup1 (hc.1 _ ha) (tup_conv r r' _ hc.2 hr)
  | _=>cases e
theorem agg_conv25 {ρ:Env1} {Z:Nat->Prop} {w:World} {v:Value} {ls:List (SV U)} {x:Tm} (e:y25.bk (.agg ls)=some x) (h:Rep U eT ρ Z w v (.agg ls)):Rep U eT ρ Z w v (.agg [.int .i64 x.Day.Year,.int .i64 x.Day.Month,.int .i64 x.Day.Date,.int .i64 x.Hour,.int .i64 x.Min,.int .i64 x.Sec,blB x.Bare,blB x.UTC]):=by
 obtain ⟨cs,rfl,hl⟩:=h.agg_inv
 exact y25.sv_ok (y25.bk_ok (s:=.agg ls) hl e)
theorem agg_conv30 {ρ:Env1} {Z:Nat->Prop} {w:World} {v:Value} {ls:List (SV U)} {x:Rl} (e:y30.bk (.agg ls)=some x) (h:Rep U eT ρ Z w v (.agg ls)):Rep U eT ρ Z w v (.agg [.int .i64 x.Freq,.int .i64 x.Interval,.int .i64 x.Count,.sl (N:=U) 25 x.Until,.sl (N:=U) 3 x.Month,.sl (N:=U) 3 x.WeekNo,.sl (N:=U) 3 x.YearDay,.sl (N:=U) 3 x.MonthDay,.sl (N:=U) 60 x.Days,.sl (N:=U) 3 x.Hour,.sl (N:=U) 3 x.Minute,.sl (N:=U) 3 x.Second,.sl (N:=U) 3 x.SetPos,.int .i64 x.Wkst]):=by
 obtain ⟨cs,rfl,hl⟩:=h.agg_inv
 exact y30.sv_ok (y30.bk_ok (s:=.agg ls) hl e)
def cIs (a:List (SV U)):Option (Q1 U):=match a with | [.err e,.err (.no n)]=>some ⟨[],[],.bl (e.is n) inferInstance⟩ | _=>none
theorem cIs_ok (args:List (SV U)) (q:Q1 U) (h:cIs args=some q) (_:allP q.ob):LendOK E0 38 args ⟨q.ob,q.hy,q.v,[]⟩:=by
 unfold cIs at h
 split at h
 . rename_i e n
   cases h
   refine lend_ext fun D w vs ha=>⟨.bool (decide (e.is n)),fun _=>.bl,trivial,fun w1 hs=>?_⟩
   have same:∀ {b:Bool},(Calls Tryz.prog 38 vs.toArray w1 fun e w'=>e=.returned (.bool b)/\w'=w1)->Calls Tryz.prog 38 vs.toArray w1 fun e w'=>e=.returned (.bool b)/\Ext [] w1 w':=fun h=>h.mono fun _ _ ⟨a,b⟩=>⟨a,by subst b; exact Ext.refl _ _⟩
   obtain ⟨v1,r1,rfl,h1,ha⟩:=Rep.tup_cons ha
   obtain ⟨v2,r2,rfl,h2,ha⟩:=Rep.tup_cons ha
   obtain rfl:=tup0_inv ha
   cases h1 with | err h1 =>
   cases h2 with | err h2 =>
   cases h2 with | no hn =>
   cases h1 with
   | nil =>
    have e:decide (Err.is .nil n)=false:=decide_eq_false (by simp [Err.is,Err.num])
    rw [e]; exact same (is_nil n w1)
   | @no a ha' =>
    have e:decide (Err.is (.no a) n)=decide (a=n):=decide_eq_decide.2 (by simp [Err.is,Err.num])
    rw [e]; exact same (is_errno a n w1)
   | @fault b a m hz ho ha' hm h0=>exact absurd rfl h0
   | @w t k s m ht hm hk =>
    obtain ⟨rfl,rfl⟩:=wr_inv ht
    have e:decide (Err.is (.w 87 s (.no m)) n)=decide (m=n):=decide_eq_decide.2 (by simp [Err.is,Err.num])
    rw [e]; exact (is_w87 (sv s) m n w1).mono fun _ _ ⟨a,o,b⟩=>⟨a,by subst b; exact ext_alloc _⟩
   | @p t S b s m ht hz ho hm=>exact absurd ht (by unfold eT; simp)
 . cases h
noncomputable def N0:Env:=E0.addL 38 cIs
theorem N0_ok:EnvOK N0:=E0_ok.addL Tryz.call38 cIs_ok
def H0:Nat->Option (GD U):=noH
theorem H0_ok:∀ K o args its S,H0 K=some o->o.C args its=some S->GenOK Tryz.prog U eT Gl K args its (2 * its.length) S:=noH_ok
end Go.Proofs.YtdjfeninmbpflaaGreat
end
section
namespace Go.Proofs.YtdjfeninmbpflaaGreat
open Go Go.Wk Go.Wl Go.Rx Go.Re 
attribute [local irreducible] vcFun
def angl:Nat->Ann:=fun | 83=>⟨42,fun _=>none,fun _=>none⟩ | _=>⟨0,fun _=>none,fun _=>none⟩
def Vgl (y:Int) (m:Int) (Q:Int->Prop):Prop :=
(y<1 ∨ (9999:Int)<y->Q (0:Int))/\(¬(y<1 ∨ (9999:Int)<y)->(m=2->(4:Int)≠0/\(y.tmod (4:Int)=0->(100:Int)≠0)/\(y.tmod (4:Int)=0/\¬y.tmod (100:Int)≠0->(400:Int)≠0)/\(y.tmod (4:Int)=0/\(y.tmod (100:Int)≠0 ∨ y.tmod (400:Int)=0)->Q (29:Int))/\(¬(y.tmod (4:Int)=0/\(y.tmod (100:Int)≠0 ∨ y.tmod (400:Int)=0))->Q (28:Int)))/\(¬m=2->(m=1->(m=1->Q (31:Int))/\(¬m=1->(m=4->Q (30:Int))/\(¬m=4->(m=6->Q (30:Int))/\(¬m=6->(m=9->(m=9->Q (30:Int))/\(¬m=9->Q (0:Int)))/\(¬m=9->(m=11->Q (30:Int))/\(¬m=11->Q (0:Int)))))))/\(¬m=1->(m=3->(m=3->Q (31:Int))/\(¬m=3->(m=4->Q (30:Int))/\(¬m=4->(m=6->Q (30:Int))/\(¬m=6->(m=9->(m=9->Q (30:Int))/\(¬m=9->Q (0:Int)))/\(¬m=9->(m=11->Q (30:Int))/\(¬m=11->Q (0:Int)))))))/\(¬m=3->(m=5->(m=5->Q (31:Int))/\(¬m=5->(m=4->Q (30:Int))/\(¬m=4->(m=6->Q (30:Int))/\(¬m=6->(m=9->(m=9->Q (30:Int))/\(¬m=9->Q (0:Int)))/\(¬m=9->(m=11->Q (30:Int))/\(¬m=11->Q (0:Int)))))))/\(¬m=5->(m=7->(m=7->Q (31:Int))/\(¬m=7->(m=4->Q (30:Int))/\(¬m=4->(m=6->Q (30:Int))/\(¬m=6->(m=9->(m=9->Q (30:Int))/\(¬m=9->Q (0:Int)))/\(¬m=9->(m=11->Q (30:Int))/\(¬m=11->Q (0:Int)))))))/\(¬m=7->(m=8->(m=8->Q (31:Int))/\(¬m=8->(m=4->Q (30:Int))/\(¬m=4->(m=6->Q (30:Int))/\(¬m=6->(m=9->(m=9->Q (30:Int))/\(¬m=9->Q (0:Int)))/\(¬m=9->(m=11->Q (30:Int))/\(¬m=11->Q (0:Int)))))))/\(¬m=8->(m=10->(m=10->Q (31:Int))/\(¬m=10->(m=4->Q (30:Int))/\(¬m=4->(m=6->Q (30:Int))/\(¬m=6->(m=9->(m=9->Q (30:Int))/\(¬m=9->Q (0:Int)))/\(¬m=9->(m=11->Q (30:Int))/\(¬m=11->Q (0:Int)))))))/\(¬m=10->(m=12->Q (31:Int))/\(¬m=12->(m=4->Q (30:Int))/\(¬m=4->(m=6->Q (30:Int))/\(¬m=6->(m=9->(m=9->Q (30:Int))/\(¬m=9->Q (0:Int)))/\(¬m=9->(m=11->Q (30:Int))/\(¬m=11->Q (0:Int))))))))))))))
theorem Vgl_eq {y:Int} {m:Int} {Q:Int->Prop}:@Eq Prop (Vgl y m Q) (vcFun (E:=N0) (inlHN N0 H0 angl 2) (angl 83) Tryz.f83 [.int .i64 y,.int .i64 m] [] [] 0 (resP N0 [.int .i64] Q)):=by kernel_rfl
theorem Vgl_ok {y:Int} {m:Int} {Q:Int->Prop} (h:Vgl y m Q):vcFun (E:=N0) (inlHN N0 H0 angl 2) (angl 83) Tryz.f83 [.int .i64 y,.int .i64 m] [] [] 0 (resP N0 [.int .i64] Q):=by rw [<- Vgl_eq]; exact h
set_option maxHeartbeats 2000000 in
theorem pgl (y:Int) (m:Int)  : Vgl y m (fun y0=>y0=longS y m):=by
 unfold Vgl
 refine ⟨fun h=>by unfold longS; rw [if_pos h],fun h=>?_⟩
 have e4:y.tmod 4=y % 4:=Int.tmod_eq_emod_of_nonneg (by omega)
 have e100:y.tmod 100=y % 100:=Int.tmod_eq_emod_of_nonneg (by omega)
 have e400:y.tmod 400=y % 400:=Int.tmod_eq_emod_of_nonneg (by omega)
 rw [e4,e100,e400]
 repeat' (first | intro _ | apply And.intro)
 all_goals (first | omega | (unfold longS; (repeat' split) <;> omega))
def cgl (a:List (SV U)):Option (Q1 U):=match a with | [.int .i64 y,.int .i64 m]=>some ⟨[],[],.int .i64 (longS y m)⟩ | _=>none
theorem cgl_ok (args:List (SV U)) (q:Q1 U) (h:cgl args=some q) (ho:allP q.ob):LendOK N0 83 args ⟨q.ob,q.hy,q.v,[]⟩:=by
 unfold cgl at h
 split at h
 . rename_i y m
   cases h
   exact lend1 N0_ok (inlHN_ok N0_ok H0_ok angl 2) Tryz.func83 (k:=.int .i64) (x:=longS y m) trivial (Vgl_ok (pgl y m )) 0
 . cases h
noncomputable def Ngl:Env:=N0.addL 83 cgl
theorem Ngl_ok:EnvOK Ngl:=N0_ok.addL Tryz.call83 cgl_ok
end Go.Proofs.YtdjfeninmbpflaaGreat
end
section
namespace Go.Proofs.YtdjfeninmbpflaaGreat
open Go Go.Wk Go.Wl Go.Rx Go.Re 
attribute [local irreducible] vcFun
def angf:Nat->Ann:=fun | 110=>⟨16,fun _=>none,fun _=>none⟩ | _=>⟨0,fun _=>none,fun _=>none⟩
def Vgf (a:Int) (b:Int) (Q:Int->Prop):Prop :=
b≠0/\in64 (a.tdiv b)/\b≠0/\(a.tmod b<0->in64 (a.tdiv b-1)/\Q (a.tdiv b-1))/\(¬a.tmod b<0->Q (a.tdiv b))
theorem Vgf_eq {a:Int} {b:Int} {Q:Int->Prop}:@Eq Prop (Vgf a b Q) (vcFun (E:=Ngl) (inlHN Ngl H0 angf 2) (angf 110) Tryz.f110 [.int .i64 a,.int .i64 b] [] [] 0 (resP Ngl [.int .i64] Q)):=by kernel_rfl
theorem Vgf_ok {a:Int} {b:Int} {Q:Int->Prop} (h:Vgf a b Q):vcFun (E:=Ngl) (inlHN Ngl H0 angf 2) (angf 110) Tryz.f110 [.int .i64 a,.int .i64 b] [] [] 0 (resP Ngl [.int .i64] Q):=by rw [<- Vgf_eq]; exact h
theorem tdiv_ediv (a:Int) {b:Int} (h:0<b):a.tdiv b=a / b+(if a.tmod b<0 then 1 else 0)/\True:=by
 refine ⟨?_,trivial⟩
 have h1:=Int.tdiv_mul_add_tmod a b
 have h2:=Int.ediv_mul_add_emod a b
 have h3:=Int.emod_nonneg a (show b≠0 by omega)
 have h4:=Int.emod_lt_of_pos a h
 have h5:a.tmod b<b:=Int.tmod_lt_of_pos a h
 have h6:-b<a.tmod b:=Int.lt_tmod_of_pos a h
 by_cases hc:a.tmod b<0
 . rw [if_pos hc]
   have e:(a.tdiv b-a / b) * b=a % b-a.tmod b:=by rw [Int.sub_mul]; omega
   have g1:0<(a.tdiv b-a / b) * b:=by omega
   have g2:(a.tdiv b-a / b) * b<2 * b:=by omega
   have g3:0<a.tdiv b-a / b:=Int.pos_of_mul_pos_left g1 (by omega)
   have g4:a.tdiv b-a / b<2:=Int.lt_of_mul_lt_mul_right g2 (by omega)
   omega
 . rw [if_neg hc]
   have e:(a.tdiv b-a / b) * b=a % b-a.tmod b:=by rw [Int.sub_mul]; omega
   have g1:-b<(a.tdiv b-a / b) * b:=by omega
   have g2:(a.tdiv b-a / b) * b<b:=by omega
   have g3:-1<a.tdiv b-a / b:=Int.lt_of_mul_lt_mul_right (a:=b) (by omega) (by omega)
   have g4:a.tdiv b-a / b<1:=Int.lt_of_mul_lt_mul_right (a:=b) (by omega) (by omega)
   omega
theorem pgf (a:Int) (b:Int) (h0:0<b) (h1:b<=100000) (h2:in64 (a / b)) (h3:in64 (a / b+1)):Vgf a b (fun y0=>y0=a / b):=by
 unfold Vgf
 obtain ⟨q0,q1⟩:=tdiv_ediv a h0
 have i1:in64 (a.tdiv b):=by
  rw [q0]; split
  . exact h3
  . rw [Int.add_zero]; exact h2
 refine ⟨by omega,i1,by omega,fun h=>?_,fun h=>?_⟩
 . have e:a.tdiv b-1=a / b:=by rw [q0,if_pos h]; omega
   rw [e]; exact ⟨h2,rfl⟩
 . rw [q0,if_neg h]; omega
def cgf (a:List (SV U)):Option (Q1 U):=match a with | [.int .i64 a,.int .i64 b]=>some ⟨[0<b,b<=100000,in64 (a / b),in64 (a / b+1)],[],.int .i64 (a / b)⟩ | _=>none
theorem cgf_ok (args:List (SV U)) (q:Q1 U) (h:cgf args=some q) (ho:allP q.ob):LendOK Ngl 110 args ⟨q.ob,q.hy,q.v,[]⟩:=by
 unfold cgf at h
 split at h
 . rename_i a b
   cases h
   exact lend1 Ngl_ok (inlHN_ok Ngl_ok H0_ok angf 2) Tryz.func110 (k:=.int .i64) (x:=a / b) trivial (Vgf_ok (pgf a b ho.1 ho.2.1 ho.2.2.1 ho.2.2.2.1)) 0
 . cases h
noncomputable def Ngf:Env:=Ngl.addL 110 cgf
theorem Ngf_ok:EnvOK Ngf:=Ngl_ok.addL Tryz.call110 cgf_ok
end Go.Proofs.YtdjfeninmbpflaaGreat
end
section
namespace Go.Proofs.YtdjfeninmbpflaaGreat
open Go Go.Wk Go.Wl Go.Rx Go.Re 
attribute [local irreducible] vcFun
def angw:Nat->Ann:=fun | 107=>⟨9,fun _=>none,fun _=>none⟩ | _=>⟨0,fun _=>none,fun _=>none⟩
def Vgw (n:Int) (Q:Int->Prop):Prop :=
(7:Int)≠0/\in64 (n.tmod (7:Int)+7)/\(7:Int)≠0/\in64 ((n.tmod (7:Int)+7).tmod (7:Int)+6)/\(7:Int)≠0/\Q (((n.tmod (7:Int)+7).tmod (7:Int)+6).tmod (7:Int))
theorem Vgw_eq {n:Int} {Q:Int->Prop}:@Eq Prop (Vgw n Q) (vcFun (E:=Ngf) (inlHN Ngf H0 angw 2) (angw 107) Tryz.f107 [.int .i64 n] [] [] 0 (resP Ngf [.int .i64] Q)):=by kernel_rfl
theorem Vgw_ok {n:Int} {Q:Int->Prop} (h:Vgw n Q):vcFun (E:=Ngf) (inlHN Ngf H0 angw 2) (angw 107) Tryz.f107 [.int .i64 n] [] [] 0 (resP Ngf [.int .i64] Q):=by rw [<- Vgw_eq]; exact h
theorem pgw (n:Int)  : Vgw n (fun y0=>y0=wdS n):=by
 unfold Vgw wdS
 have h1:n.tmod 7=n % 7 ∨ n.tmod 7=n % 7-7/\n % 7≠0:=by
  have h1:=Int.tdiv_mul_add_tmod n 7
  have h5:n.tmod 7<7:=Int.tmod_lt_of_pos n (by decide)
  have h6:-7<n.tmod 7:=Int.lt_tmod_of_pos n (by decide)
  omega
 have e1:(n.tmod 7+7).tmod 7=(n.tmod 7+7) % 7:=Int.tmod_eq_emod_of_nonneg (by omega)
 have e2:((n.tmod 7+7).tmod 7+6).tmod 7=((n.tmod 7+7).tmod 7+6) % 7:=Int.tmod_eq_emod_of_nonneg (by omega)
 rw [e2,e1]
 exact ⟨by decide,⟨by omega,by omega⟩,by decide,⟨by omega,by omega⟩,by decide,by omega⟩
def cgw (a:List (SV U)):Option (Q1 U):=match a with | [.int .i64 n]=>some ⟨[],[],.int .i64 (wdS n)⟩ | _=>none
theorem cgw_ok (args:List (SV U)) (q:Q1 U) (h:cgw args=some q) (ho:allP q.ob):LendOK Ngf 107 args ⟨q.ob,q.hy,q.v,[]⟩:=by
 unfold cgw at h
 split at h
 . rename_i n
   cases h
   exact lend1 Ngf_ok (inlHN_ok Ngf_ok H0_ok angw 2) Tryz.func107 (k:=.int .i64) (x:=wdS n) trivial (Vgw_ok (pgw n )) 0
 . cases h
noncomputable def Ngw:Env:=Ngf.addL 107 cgw
theorem Ngw_ok:EnvOK Ngw:=Ngf_ok.addL Tryz.call107 cgw_ok
end Go.Proofs.YtdjfeninmbpflaaGreat
end
section
namespace Go.Proofs.YtdjfeninmbpflaaGreat
open Go Go.Wk Go.Wl Go.Rx Go.Re 
attribute [local irreducible] vcFun
def ango:Nat->Ann:=fun | 59=>⟨74,fun _=>none,fun | 8=>some ⟨[2],[.slot 0 (.int .i64),.slot 3 (.int .i64),.slot 4 (.int .i64)]⟩ | 12=>some ⟨[2],[.slot 0 (.int .i64),.slot 3 (.int .i64),.slot 4 (.int .i64),.slot 5 (.int .i64),.slot 6 (.int .i64)]⟩ | 14=>some ⟨[2],[.slot 0 (.int .i64),.slot 7 (.int .i64),.slot 8 (.int .i64)]⟩ | _=>none⟩ | _=>⟨0,fun _=>none,fun _=>none⟩
def Vgo (n:Int) (Q:Dy->Prop):Prop :=
(n<1 ∨ (3652059:Int)<n->Q (Dy.mk (0:Int) (0:Int) (0:Int)))/\(¬(n<1 ∨ (3652059:Int)<n)->in64 (n+305)/\(146097:Int)≠0/\in64 ((n+305).tdiv (146097:Int))/\(146097:Int)≠0/\(36524:Int)≠0/\in64 (((n+305).tmod (146097:Int)).tdiv (36524:Int))/\∃ (J:Int->Int->Int->Prop),(in64 ((bif false then max (((n+305).tmod (146097:Int)).tdiv (36524:Int)) (3:Int) else min (((n+305).tmod (146097:Int)).tdiv (36524:Int)) (3:Int)) * 36524)/\in64 ((n+305).tmod (146097:Int)-(bif false then max (((n+305).tmod (146097:Int)).tdiv (36524:Int)) (3:Int) else min (((n+305).tmod (146097:Int)).tdiv (36524:Int)) (3:Int)) * 36524)/\J ((n+305).tmod (146097:Int)-(bif false then max (((n+305).tmod (146097:Int)).tdiv (36524:Int)) (3:Int) else min (((n+305).tmod (146097:Int)).tdiv (36524:Int)) (3:Int)) * 36524) ((n+305).tdiv (146097:Int)) (bif false then max (((n+305).tmod (146097:Int)).tdiv (36524:Int)) (3:Int) else min (((n+305).tmod (146097:Int)).tdiv (36524:Int)) (3:Int)))/\∀ (x x_1 x_2:Int),J x x_1 x_2->(1461:Int)≠0/\in64 (x.tdiv (1461:Int))/\(1461:Int)≠0/\(365:Int)≠0/\in64 ((x.tmod (1461:Int)).tdiv (365:Int))/\∃ (J:Int->Int->Int->Int->Int->Prop),(in64 ((bif false then max ((x.tmod (1461:Int)).tdiv (365:Int)) (3:Int) else min ((x.tmod (1461:Int)).tdiv (365:Int)) (3:Int)) * 365)/\in64 (x.tmod (1461:Int)-(bif false then max ((x.tmod (1461:Int)).tdiv (365:Int)) (3:Int) else min ((x.tmod (1461:Int)).tdiv (365:Int)) (3:Int)) * 365)/\J (x.tmod (1461:Int)-(bif false then max ((x.tmod (1461:Int)).tdiv (365:Int)) (3:Int) else min ((x.tmod (1461:Int)).tdiv (365:Int)) (3:Int)) * 365) x_1 x_2 (x.tdiv (1461:Int)) (bif false then max ((x.tmod (1461:Int)).tdiv (365:Int)) (3:Int) else min ((x.tmod (1461:Int)).tdiv (365:Int)) (3:Int)))/\∀ (x x_3 x_4 x_5 x_6:Int),J x x_3 x_4 x_5 x_6->in64 ((400:Int) * x_3)/\in64 ((100:Int) * x_4)/\in64 ((400:Int) * x_3+100 * x_4)/\in64 ((4:Int) * x_5)/\in64 ((400:Int) * x_3+100 * x_4+4 * x_5)/\in64 ((400:Int) * x_3+100 * x_4+4 * x_5+x_6)/\∃ (J:Int->Int->Int->Prop),(in64 ((5:Int) * x)/\in64 ((5:Int) * x+2)/\(153:Int)≠0/\in64 (((5:Int) * x+2).tdiv (153:Int))/\J x ((400:Int) * x_3+100 * x_4+4 * x_5+x_6) (((5:Int) * x+2).tdiv (153:Int)))/\∀ (x x_7 x_8:Int),J x x_7 x_8->in64 ((153:Int) * x_8)/\in64 ((153:Int) * x_8+2)/\(5:Int)≠0/\in64 (((153:Int) * x_8+2).tdiv (5:Int))/\in64 (x-((153:Int) * x_8+2).tdiv (5:Int))/\in64 (x-((153:Int) * x_8+2).tdiv (5:Int)+1)/\in64 (x_8+3)/\((12:Int)<x_8+3->in64 (x_8+3-12)/\in64 (x_7+1)/\Q (Dy.mk (x_7+1) (x_8+3-12) (x-((153:Int) * x_8+2).tdiv (5:Int)+1)))/\(¬(12:Int)<x_8+3->Q (Dy.mk x_7 (x_8+3) (x-((153:Int) * x_8+2).tdiv (5:Int)+1))))
theorem Vgo_eq {n:Int} {Q:Dy->Prop}:@Eq Prop (Vgo n Q) (vcFun (E:=Ngw) (inlHN Ngw H0 ango 2) (ango 59) Tryz.f59 [.int .i64 n] [] [] 0 (resP Ngw [.val 23] Q)):=by kernel_rfl
theorem Vgo_ok {n:Int} {Q:Dy->Prop} (h:Vgo n Q):vcFun (E:=Ngw) (inlHN Ngw H0 ango 2) (ango 59) Tryz.f59 [.int .i64 n] [] [] 0 (resP Ngw [.val 23] Q):=by rw [<- Vgo_eq]; exact h
set_option maxHeartbeats 2000000 in
theorem pgo (n:Int)  : Vgo n (fun y0=>y0=ofS n):=by
 unfold Vgo
 have b0:∀ a b:Int,(bif false then max a b else min a b)=min a b:=fun _ _=>rfl
 refine ⟨fun h=>by unfold ofS; rw [if_pos h],fun h=>?_⟩
 have eo:ofS n=ofN (n+305):=by unfold ofS; rw [if_neg h]
 rw [eo]
 obtain ⟨⟨r1,r2⟩,⟨r3,r4⟩,⟨r5,r6⟩,⟨r7,r8⟩,r9,r10⟩:=o_rg (n+305)
 have hN:0<=n+305/\n+305<=3652364:=by omega
 generalize n+305=N at *
 have t1:N.tdiv 146097=N / 146097:=Int.tdiv_eq_ediv_of_nonneg (by omega)
 have t2:N.tmod 146097=N % 146097:=Int.tmod_eq_emod_of_nonneg (by omega)
 have t3:(N % 146097).tdiv 36524=N % 146097 / 36524:=Int.tdiv_eq_ediv_of_nonneg (by omega)
 have t4:(o2 N).tdiv 1461=o2 N / 1461:=Int.tdiv_eq_ediv_of_nonneg (by omega)
 have t5:(o2 N).tmod 1461=o2 N % 1461:=Int.tmod_eq_emod_of_nonneg (by omega)
 have t6:(o2 N % 1461).tdiv 365=o2 N % 1461 / 365:=Int.tdiv_eq_ediv_of_nonneg (by omega)
 have t7:(5 * o4 N+2).tdiv 153=(5 * o4 N+2) / 153:=Int.tdiv_eq_ediv_of_nonneg (by omega)
 have t8:(153 * om N+2).tdiv 5=(153 * om N+2) / 5:=Int.tdiv_eq_ediv_of_nonneg (by omega)
 rw [t1,t2,t3,b0]
 refine ⟨⟨by omega,by omega⟩,by decide,⟨by omega,by omega⟩,by decide,by decide,⟨by omega,by omega⟩,fun a b c=>a=o2 N/\b=N / 146097/\c=oh N,⟨⟨by omega,by omega⟩,⟨by omega,by omega⟩,rfl,rfl,rfl⟩,?_⟩
 rintro _ _ _ ⟨rfl,rfl,rfl⟩
 rw [t4,t5,t6,b0]
 refine ⟨by decide,⟨by omega,by omega⟩,by decide,by decide,⟨by omega,by omega⟩,fun a b c d e=>a=o4 N/\b=N / 146097/\c=oh N/\d=o2 N / 1461/\e=oo N,⟨⟨by omega,by omega⟩,⟨by omega,by omega⟩,rfl,rfl,rfl,rfl,rfl⟩,?_⟩
 rintro _ _ _ _ _ ⟨rfl,rfl,rfl,rfl,rfl⟩
 rw [t7]
 refine ⟨⟨by omega,by omega⟩,⟨by omega,by omega⟩,⟨by omega,by omega⟩,⟨by omega,by omega⟩,⟨by omega,by omega⟩,⟨by omega,by omega⟩,fun a b c=>a=o4 N/\b=oy N/\c=om N,⟨⟨by omega,by omega⟩,⟨by omega,by omega⟩,by decide,⟨by omega,by omega⟩,rfl,rfl,rfl⟩,?_⟩
 rintro _ _ _ ⟨rfl,rfl,rfl⟩
 have hy:0<=oy N/\oy N<=20000:=by unfold oy; omega
 rw [t8]
 refine ⟨⟨by omega,by omega⟩,⟨by omega,by omega⟩,by decide,⟨by omega,by omega⟩,⟨by omega,by omega⟩,⟨by omega,by omega⟩,⟨by omega,by omega⟩,fun h=>⟨⟨by omega,by omega⟩,⟨by omega,by omega⟩,?_⟩,fun h=>?_⟩
 . unfold ofN; rw [if_pos h]
 . unfold ofN; rw [if_neg h]
def cgo (a:List (SV U)):Option (Q1 U):=match a with | [.int .i64 n]=>some ⟨[],[],.agg [.int .i64 (ofS n).Year,.int .i64 (ofS n).Month,.int .i64 (ofS n).Date]⟩ | _=>none
theorem cgo_ok (args:List (SV U)) (q:Q1 U) (h:cgo args=some q) (ho:allP q.ob):LendOK Ngw 59 args ⟨q.ob,q.hy,q.v,[]⟩:=by
 unfold cgo at h
 split at h
 . rename_i n
   cases h
   exact lend1 Ngw_ok (inlHN_ok Ngw_ok H0_ok ango 2) Tryz.func59 (k:=.val 23) (x:=ofS n) ⟨_,_,rfl,rfl,rfl⟩ (Vgo_ok (pgo n )) 0
 . cases h
noncomputable def Ngo:Env:=Ngw.addL 59 cgo
theorem Ngo_ok:EnvOK Ngo:=Ngw_ok.addL Tryz.call59 cgo_ok
end Go.Proofs.YtdjfeninmbpflaaGreat
end
section
namespace Go.Proofs.YtdjfeninmbpflaaGreat
open Go Go.Wk Go.Wl Go.Rx Go.Re 
attribute [local irreducible] vcFun
def angr:Nat->Ann:=fun | 54=>⟨16,fun _=>none,fun _=>none⟩ | _=>⟨0,fun _=>none,fun _=>none⟩
def Vgr (d:Dy) (Q:Bool->Prop):Prop :=
Q (decide ((1:Int)<=d.Date/\d.Date<=longS d.Year d.Month))
theorem Vgr_eq {d:Dy} {Q:Bool->Prop}:@Eq Prop (Vgr d Q) (vcFun (E:=Ngo) (inlHN Ngo H0 angr 2) (angr 54) Tryz.f54 [.agg [.int .i64 d.Year,.int .i64 d.Month,.int .i64 d.Date]] [] [] 0 (resP Ngo [.bool] Q)):=by kernel_rfl
theorem Vgr_ok {d:Dy} {Q:Bool->Prop} (h:Vgr d Q):vcFun (E:=Ngo) (inlHN Ngo H0 angr 2) (angr 54) Tryz.f54 [.agg [.int .i64 d.Year,.int .i64 d.Month,.int .i64 d.Date]] [] [] 0 (resP Ngo [.bool] Q):=by rw [<- Vgr_eq]; exact h
theorem pgr (d:Dy)  : Vgr d (fun y0=>y0=rightB d):=by
 unfold Vgr
 rfl
def cgrs (d:Dy):Q1 U:=⟨[],[],blB (rightB d)⟩
def cgr (a:List (SV U)):Option (Q1 U):=match a with | [.agg [.int .i64 d0,.int .i64 d1,.int .i64 d2]]=>some (cgrs (⟨d0,d1,d2⟩)) | _=>none
theorem cgr_ok (args:List (SV U)) (q:Q1 U) (h:cgr args=some q) (ho:allP q.ob):LendOK Ngo 54 args ⟨q.ob,q.hy,q.v,[]⟩:=by
 unfold cgr at h
 split at h
 . rename_i d0 d1 d2
   cases h
   exact lend1 Ngo_ok (inlHN_ok Ngo_ok H0_ok angr 2) Tryz.func54 (k:=.bool) (x:=rightB (⟨d0,d1,d2⟩:Dy)) trivial (Vgr_ok (pgr (⟨d0,d1,d2⟩) )) 0
 . cases h
noncomputable def Ngr:Env:=Ngo.addL 54 cgr
theorem Ngr_ok:EnvOK Ngr:=Ngo_ok.addL Tryz.call54 cgr_ok
end Go.Proofs.YtdjfeninmbpflaaGreat
end
section
namespace Go.Proofs.YtdjfeninmbpflaaGreat
open Go Go.Wk Go.Wl Go.Rx Go.Re 
attribute [local irreducible] vcFun
def angc:Nat->Ann:=fun | 94=>⟨33,fun _=>none,fun _=>none⟩ | _=>⟨0,fun _=>none,fun _=>none⟩
def Vgc (y:Int) (m:Int) (d:Int) (Q:Int->Prop):Prop :=
(m<3->in64 (y-1)/\in64 (m+12)/\in64 ((365:Int) * (y-1))/\(0:Int)<4/\(4:Int)<=100000/\in64 ((y-1) / (4:Int))/\in64 ((y-1) / (4:Int)+1)/\in64 ((365:Int) * (y-1)+(y-1) / (4:Int))/\(0:Int)<100/\(100:Int)<=100000/\in64 ((y-1) / (100:Int))/\in64 ((y-1) / (100:Int)+1)/\in64 ((365:Int) * (y-1)+(y-1) / (4:Int)-(y-1) / (100:Int))/\(0:Int)<400/\(400:Int)<=100000/\in64 ((y-1) / (400:Int))/\in64 ((y-1) / (400:Int)+1)/\in64 ((365:Int) * (y-1)+(y-1) / (4:Int)-(y-1) / (100:Int)+(y-1) / (400:Int))/\in64 (m+12-3)/\in64 ((153:Int) * (m+12-3))/\in64 ((153:Int) * (m+12-3)+2)/\(5:Int)≠0/\in64 (((153:Int) * (m+12-3)+2).tdiv (5:Int))/\in64 ((365:Int) * (y-1)+(y-1) / (4:Int)-(y-1) / (100:Int)+(y-1) / (400:Int)+((153:Int) * (m+12-3)+2).tdiv (5:Int))/\in64 ((365:Int) * (y-1)+(y-1) / (4:Int)-(y-1) / (100:Int)+(y-1) / (400:Int)+((153:Int) * (m+12-3)+2).tdiv (5:Int)+d)/\in64 ((365:Int) * (y-1)+(y-1) / (4:Int)-(y-1) / (100:Int)+(y-1) / (400:Int)+((153:Int) * (m+12-3)+2).tdiv (5:Int)+d-306)/\Q ((365:Int) * (y-1)+(y-1) / (4:Int)-(y-1) / (100:Int)+(y-1) / (400:Int)+((153:Int) * (m+12-3)+2).tdiv (5:Int)+d-306))/\(¬m<3->in64 ((365:Int) * y)/\(0:Int)<4/\(4:Int)<=100000/\in64 (y / (4:Int))/\in64 (y / (4:Int)+1)/\in64 ((365:Int) * y+y / (4:Int))/\(0:Int)<100/\(100:Int)<=100000/\in64 (y / (100:Int))/\in64 (y / (100:Int)+1)/\in64 ((365:Int) * y+y / (4:Int)-y / (100:Int))/\(0:Int)<400/\(400:Int)<=100000/\in64 (y / (400:Int))/\in64 (y / (400:Int)+1)/\in64 ((365:Int) * y+y / (4:Int)-y / (100:Int)+y / (400:Int))/\in64 (m-3)/\in64 ((153:Int) * (m-3))/\in64 ((153:Int) * (m-3)+2)/\(5:Int)≠0/\in64 (((153:Int) * (m-3)+2).tdiv (5:Int))/\in64 ((365:Int) * y+y / (4:Int)-y / (100:Int)+y / (400:Int)+((153:Int) * (m-3)+2).tdiv (5:Int))/\in64 ((365:Int) * y+y / (4:Int)-y / (100:Int)+y / (400:Int)+((153:Int) * (m-3)+2).tdiv (5:Int)+d)/\in64 ((365:Int) * y+y / (4:Int)-y / (100:Int)+y / (400:Int)+((153:Int) * (m-3)+2).tdiv (5:Int)+d-306)/\Q ((365:Int) * y+y / (4:Int)-y / (100:Int)+y / (400:Int)+((153:Int) * (m-3)+2).tdiv (5:Int)+d-306))
theorem Vgc_eq {y:Int} {m:Int} {d:Int} {Q:Int->Prop}:@Eq Prop (Vgc y m d Q) (vcFun (E:=Ngr) (inlHN Ngr H0 angc 2) (angc 94) Tryz.f94 [.int .i64 y,.int .i64 m,.int .i64 d] [] [] 0 (resP Ngr [.int .i64] Q)):=by kernel_rfl
theorem Vgc_ok {y:Int} {m:Int} {d:Int} {Q:Int->Prop} (h:Vgc y m d Q):vcFun (E:=Ngr) (inlHN Ngr H0 angc 2) (angc 94) Tryz.f94 [.int .i64 y,.int .i64 m,.int .i64 d] [] [] 0 (resP Ngr [.int .i64] Q):=by rw [<- Vgc_eq]; exact h
set_option maxHeartbeats 2000000 in
theorem pgc (y:Int) (m:Int) (d:Int) (y0:-100000<=y) (y1:y<=100000) (m0:1<=m) (m1:m<=12) (d0:-100000<=d) (d1:d<=100000):Vgc y m d (fun y0=>y0=countS y m d):=by
 unfold Vgc countS
 have t1:(153 * (m+12-3)+2).tdiv 5=(153 * (m+12-3)+2) / 5:=Int.tdiv_eq_ediv_of_nonneg (by omega)
 refine ⟨fun h=>?_,fun h=>?_⟩
 . rw [t1,if_pos h]
   repeat' apply And.intro
   all_goals first | rfl | omega
 . have t2:(153 * (m-3)+2).tdiv 5=(153 * (m-3)+2) / 5:=Int.tdiv_eq_ediv_of_nonneg (by omega)
   rw [t2,if_neg h]
   repeat' apply And.intro
   all_goals first | rfl | omega
def cgc (a:List (SV U)):Option (Q1 U):=match a with | [.int .i64 y,.int .i64 m,.int .i64 d]=>some ⟨[-100000<=y,y<=100000,1<=m,m<=12,-100000<=d,d<=100000],[],.int .i64 (countS y m d)⟩ | _=>none
theorem cgc_ok (args:List (SV U)) (q:Q1 U) (h:cgc args=some q) (ho:allP q.ob):LendOK Ngr 94 args ⟨q.ob,q.hy,q.v,[]⟩:=by
 unfold cgc at h
 split at h
 . rename_i y m d
   cases h
   exact lend1 Ngr_ok (inlHN_ok Ngr_ok H0_ok angc 2) Tryz.func94 (k:=.int .i64) (x:=countS y m d) trivial (Vgc_ok (pgc y m d ho.1 ho.2.1 ho.2.2.1 ho.2.2.2.1 ho.2.2.2.2.1 ho.2.2.2.2.2.1)) 0
 . cases h
noncomputable def Ngc:Env:=Ngr.addL 94 cgc
theorem Ngc_ok:EnvOK Ngc:=Ngr_ok.addL Tryz.call94 cgc_ok
end Go.Proofs.YtdjfeninmbpflaaGreat
end
section
namespace Go.Proofs.YtdjfeninmbpflaaGreat
open Go Go.Wk Go.Wl Go.Rx Go.Re 
attribute [local irreducible] vcFun
def angt:Nat->Ann:=fun | 93=>⟨7,fun _=>none,fun _=>none⟩ | _=>⟨0,fun _=>none,fun _=>none⟩
def Vgt (d:Dy) (Q:Err->Prop):Prop :=
(¬rightB (Dy.mk d.Year d.Month d.Date)=true->Q (Err.no (3:Int)))/\(¬¬rightB (Dy.mk d.Year d.Month d.Date)=true->Q Err.nil)
theorem Vgt_eq {d:Dy} {Q:Err->Prop}:@Eq Prop (Vgt d Q) (vcFun (E:=Ngc) (inlHN Ngc H0 angt 2) (angt 93) Tryz.f93 [.agg [.int .i64 d.Year,.int .i64 d.Month,.int .i64 d.Date]] [] [] 0 (resP Ngc [.err] Q)):=by kernel_rfl
theorem Vgt_ok {d:Dy} {Q:Err->Prop} (h:Vgt d Q):vcFun (E:=Ngc) (inlHN Ngc H0 angt 2) (angt 93) Tryz.f93 [.agg [.int .i64 d.Year,.int .i64 d.Month,.int .i64 d.Date]] [] [] 0 (resP Ngc [.err] Q):=by rw [<- Vgt_eq]; exact h
def thereE (d:Dy):Err:=if RightD d then .nil else .no 3
theorem thereE_bare (d:Dy):thereE d=.nil ∨ ∃ n,thereE d=.no n:=by
 unfold thereE
 split
 . exact .inl rfl
 . exact .inr ⟨3,rfl⟩
theorem pgt (d:Dy)  : Vgt d (fun y0=>y0=thereE d):=by
 unfold Vgt thereE
 refine ⟨fun h=>?_,fun h=>?_⟩
 . rw [if_neg (fun hr=>h (rightB_iff.2 hr))]
 . rw [if_pos (rightB_iff.1 (Classical.not_not.1 h))]
def cgts (d:Dy):Q1 U:=⟨[],[],.err (thereE d)⟩
def cgt (a:List (SV U)):Option (Q1 U):=match a with | [.agg [.int .i64 d0,.int .i64 d1,.int .i64 d2]]=>some (cgts (⟨d0,d1,d2⟩)) | _=>none
theorem cgt_ok (args:List (SV U)) (q:Q1 U) (h:cgt args=some q) (ho:allP q.ob):LendOK Ngc 93 args ⟨q.ob,q.hy,q.v,[]⟩:=by
 unfold cgt at h
 split at h
 . rename_i d0 d1 d2
   cases h
   exact lend1 Ngc_ok (inlHN_ok Ngc_ok H0_ok angt 2) Tryz.func93 (k:=.err) (x:=thereE (⟨d0,d1,d2⟩:Dy)) (thereE_bare _) (Vgt_ok (pgt (⟨d0,d1,d2⟩) )) 0
 . cases h
noncomputable def Ngt:Env:=Ngc.addL 93 cgt
theorem Ngt_ok:EnvOK Ngt:=Ngc_ok.addL Tryz.call93 cgt_ok
end Go.Proofs.YtdjfeninmbpflaaGreat
end
section
namespace Go.Proofs.YtdjfeninmbpflaaGreat
open Go Go.Wk Go.Wl Go.Rx Go.Re 
attribute [local irreducible] vcFun
def angn:Nat->Ann:=fun | 56=>⟨14,fun _=>none,fun _=>none⟩ | _=>⟨0,fun _=>none,fun _=>none⟩
def Vgn (d:Dy) (Q:Int->Prop):Prop :=
((thereE (Dy.mk d.Year d.Month d.Date)).is (3:Int)->Q (0:Int))/\(¬(thereE (Dy.mk d.Year d.Month d.Date)).is (3:Int)->(-100000:Int)<=d.Year/\d.Year<=100000/\(1:Int)<=d.Month/\d.Month<=12/\(-100000:Int)<=d.Date/\d.Date<=100000/\Q (countS d.Year d.Month d.Date))
theorem Vgn_eq {d:Dy} {Q:Int->Prop}:@Eq Prop (Vgn d Q) (vcFun (E:=Ngt) (inlHN Ngt H0 angn 2) (angn 56) Tryz.f56 [.agg [.int .i64 d.Year,.int .i64 d.Month,.int .i64 d.Date]] [] [] 0 (resP Ngt [.int .i64] Q)):=by kernel_rfl
theorem Vgn_ok {d:Dy} {Q:Int->Prop} (h:Vgn d Q):vcFun (E:=Ngt) (inlHN Ngt H0 angn 2) (angn 56) Tryz.f56 [.agg [.int .i64 d.Year,.int .i64 d.Month,.int .i64 d.Date]] [] [] 0 (resP Ngt [.int .i64] Q):=by rw [<- Vgn_eq]; exact h
theorem there_is {d:Dy}:(thereE d).is 3↔¬ RightD d:=by
 unfold thereE
 split
 . rename_i h
   exact ⟨fun h'=>by simp [Err.is,Err.num] at h',fun h'=>absurd h h'⟩
 . rename_i h
   exact ⟨fun _=>h,fun _=>rfl⟩
theorem there_ne {d:Dy}:thereE d≠Err.nil↔¬ RightD d:=by
 unfold thereE
 split
 . rename_i h
   exact ⟨fun h'=>absurd rfl h',fun h'=>absurd h h'⟩
 . rename_i h
   exact ⟨fun _=>h,fun _ h'=>by cases h'⟩
theorem pgn (d:Dy)  : Vgn d (fun y0=>y0=numS d):=by
 unfold Vgn numS
 refine ⟨fun h=>?_,fun h=>?_⟩
 . rw [if_neg (there_is.1 h)]
 . have hr:RightD d:=Classical.not_not.1 fun hn=>h (there_is.2 hn)
   obtain ⟨y0,y1,m0,m1,d0,d1⟩:=hr.ym
   rw [if_pos hr]
   exact ⟨by omega,by omega,m0,m1,by omega,by omega,count_num m0 m1⟩
def cgns (d:Dy):Q1 U:=⟨[],[],.int .i64 (numS d)⟩
def cgn (a:List (SV U)):Option (Q1 U):=match a with | [.agg [.int .i64 d0,.int .i64 d1,.int .i64 d2]]=>some (cgns (⟨d0,d1,d2⟩)) | _=>none
theorem cgn_ok (args:List (SV U)) (q:Q1 U) (h:cgn args=some q) (ho:allP q.ob):LendOK Ngt 56 args ⟨q.ob,q.hy,q.v,[]⟩:=by
 unfold cgn at h
 split at h
 . rename_i d0 d1 d2
   cases h
   exact lend1 Ngt_ok (inlHN_ok Ngt_ok H0_ok angn 2) Tryz.func56 (k:=.int .i64) (x:=numS (⟨d0,d1,d2⟩:Dy)) trivial (Vgn_ok (pgn (⟨d0,d1,d2⟩) )) 0
 . cases h
noncomputable def Ngn:Env:=Ngt.addL 56 cgn
theorem Ngn_ok:EnvOK Ngn:=Ngt_ok.addL Tryz.call56 cgn_ok
end Go.Proofs.YtdjfeninmbpflaaGreat
end
section
namespace Go.Proofs.YtdjfeninmbpflaaGreat
open Go Go.Wk Go.Wl Go.Rx Go.Re 
attribute [local irreducible] vcFun
def angy:Nat->Ann:=fun | 82=>⟨13,fun _=>none,fun _=>none⟩ | _=>⟨0,fun _=>none,fun _=>none⟩
def Vgy (d:Dy) (Q:Int->Prop):Prop :=
(thereE (Dy.mk d.Year d.Month d.Date)≠Err.nil->Q (0:Int))/\(¬thereE (Dy.mk d.Year d.Month d.Date)≠Err.nil->((-100000:Int)<=d.Year/\d.Year<=100000/\(1:Int)<=1/\(1:Int)<=12/\(-100000:Int)<=1/\(1:Int)<=100000)/\in64 (numS (Dy.mk d.Year d.Month d.Date)-countS d.Year (1:Int) (1:Int))/\in64 (numS (Dy.mk d.Year d.Month d.Date)-countS d.Year (1:Int) (1:Int)+1)/\Q (numS (Dy.mk d.Year d.Month d.Date)-countS d.Year (1:Int) (1:Int)+1))
theorem Vgy_eq {d:Dy} {Q:Int->Prop}:@Eq Prop (Vgy d Q) (vcFun (E:=Ngn) (inlHN Ngn H0 angy 2) (angy 82) Tryz.f82 [.agg [.int .i64 d.Year,.int .i64 d.Month,.int .i64 d.Date]] [] [] 0 (resP Ngn [.int .i64] Q)):=by kernel_rfl
theorem Vgy_ok {d:Dy} {Q:Int->Prop} (h:Vgy d Q):vcFun (E:=Ngn) (inlHN Ngn H0 angy 2) (angy 82) Tryz.f82 [.agg [.int .i64 d.Year,.int .i64 d.Month,.int .i64 d.Date]] [] [] 0 (resP Ngn [.int .i64] Q):=by rw [<- Vgy_eq]; exact h
theorem pgy (d:Dy)  : Vgy d (fun y0=>y0=ydS d):=by
 unfold Vgy ydS
 refine ⟨fun h=>?_,fun h=>?_⟩
 . rw [if_neg (there_ne.1 h)]
 . have hr:RightD d:=Classical.not_not.1 fun hn=>h (there_ne.2 hn)
   obtain ⟨y0,y1,m0,m1,d0,d1⟩:=hr.ym
   obtain ⟨n0,n1⟩:=num_rg hr
   have a0:=ahead_mono (show (0:Int)<=d.Year by omega)
   have a1:=ahead_mono (show d.Year<=10000 by omega)
   have a2:aheadS 0=-366:=by decide
   have a3:aheadS 10000=3652059:=by decide
   have e:countS d.Year 1 1=aheadS d.Year+1:=by rw [count_num (by decide) (by decide)]; unfold cumS; rw [if_pos (by decide)]; omega
   have en:numS (Dy.mk d.Year d.Month d.Date)=numD d:=by
    show numS d=numD d
    unfold numS; rw [if_pos hr]
   rw [if_pos hr,e,en]
   exact ⟨⟨by omega,by omega,by decide,by decide,by decide,by decide⟩,⟨by omega,by omega⟩,⟨by omega,by omega⟩,by omega⟩
def cgys (d:Dy):Q1 U:=⟨[],[],.int .i64 (ydS d)⟩
def cgy (a:List (SV U)):Option (Q1 U):=match a with | [.agg [.int .i64 d0,.int .i64 d1,.int .i64 d2]]=>some (cgys (⟨d0,d1,d2⟩)) | _=>none
theorem cgy_ok (args:List (SV U)) (q:Q1 U) (h:cgy args=some q) (ho:allP q.ob):LendOK Ngn 82 args ⟨q.ob,q.hy,q.v,[]⟩:=by
 unfold cgy at h
 split at h
 . rename_i d0 d1 d2
   cases h
   exact lend1 Ngn_ok (inlHN_ok Ngn_ok H0_ok angy 2) Tryz.func82 (k:=.int .i64) (x:=ydS (⟨d0,d1,d2⟩:Dy)) trivial (Vgy_ok (pgy (⟨d0,d1,d2⟩) )) 0
 . cases h
noncomputable def Ngy:Env:=Ngn.addL 82 cgy
theorem Ngy_ok:EnvOK Ngy:=Ngn_ok.addL Tryz.call82 cgy_ok
end Go.Proofs.YtdjfeninmbpflaaGreat
end
section
namespace Go.Proofs.YtdjfeninmbpflaaGreat
open Go Go.Wk Go.Wl Go.Rx Go.Re 
attribute [local irreducible] vcFun
def angb:Nat->Ann:=fun | 104=>⟨16,fun _=>none,fun _=>none⟩ | _=>⟨0,fun _=>none,fun _=>none⟩
def Vgb (y:Int) (f:Int) (Q:Int->Prop):Prop :=
(-100000:Int)<=y/\y<=100000/\(1:Int)<=1/\(1:Int)<=12/\(-100000:Int)<=4/\(4:Int)<=100000/\in64 (wdS (countS y (1:Int) (4:Int))-f)/\in64 (wdS (countS y (1:Int) (4:Int))-f+7)/\(7:Int)≠0/\in64 (countS y (1:Int) (4:Int)-(wdS (countS y (1:Int) (4:Int))-f+7).tmod (7:Int))/\Q (countS y (1:Int) (4:Int)-(wdS (countS y (1:Int) (4:Int))-f+7).tmod (7:Int))
theorem Vgb_eq {y:Int} {f:Int} {Q:Int->Prop}:@Eq Prop (Vgb y f Q) (vcFun (E:=Ngy) (inlHN Ngy H0 angb 2) (angb 104) Tryz.f104 [.int .i64 y,.int .i64 f] [] [] 0 (resP Ngy [.int .i64] Q)):=by kernel_rfl
theorem Vgb_ok {y:Int} {f:Int} {Q:Int->Prop} (h:Vgb y f Q):vcFun (E:=Ngy) (inlHN Ngy H0 angb 2) (angb 104) Tryz.f104 [.int .i64 y,.int .i64 f] [] [] 0 (resP Ngy [.int .i64] Q):=by rw [<- Vgb_eq]; exact h
theorem pgb (y:Int) (f:Int) (y0:0<=y) (y1:y<=10000) (f0:0<=f) (f1:f<=6):Vgb y f (fun y0=>y0=begS y f):=by
 unfold Vgb begS
 have e:countS y 1 4=aheadS y+4:=by rw [count_num (by decide) (by decide)]; unfold cumS; rw [if_pos (by decide)]; omega
 have w0:0<=wdS (aheadS y+4)/\wdS (aheadS y+4)<=6:=by unfold wdS; omega
 have a0:=ahead_mono (show (0:Int)<=y by omega)
 have a1:=ahead_mono (show y<=10000 by omega)
 have a2:aheadS 0=-366:=by decide
 have a3:aheadS 10000=3652059:=by decide
 rw [e]
 generalize wdS (aheadS y+4)=w at w0 ⊢
 have t:(w-f+7).tmod 7=(w-f+7) % 7:=Int.tmod_eq_emod_of_nonneg (by omega)
 rw [t]
 refine ⟨by omega,by omega,by decide,by decide,by decide,by decide,⟨by omega,by omega⟩,⟨by omega,by omega⟩,by decide,⟨by omega,by omega⟩,rfl⟩
def cgb (a:List (SV U)):Option (Q1 U):=match a with | [.int .i64 y,.int .i64 f]=>some ⟨[0<=y,y<=10000,0<=f,f<=6],[],.int .i64 (begS y f)⟩ | _=>none
theorem cgb_ok (args:List (SV U)) (q:Q1 U) (h:cgb args=some q) (ho:allP q.ob):LendOK Ngy 104 args ⟨q.ob,q.hy,q.v,[]⟩:=by
 unfold cgb at h
 split at h
 . rename_i y f
   cases h
   exact lend1 Ngy_ok (inlHN_ok Ngy_ok H0_ok angb 2) Tryz.func104 (k:=.int .i64) (x:=begS y f) trivial (Vgb_ok (pgb y f ho.1 ho.2.1 ho.2.2.1 ho.2.2.2.1)) 0
 . cases h
noncomputable def Ngb:Env:=Ngy.addL 104 cgb
theorem Ngb_ok:EnvOK Ngb:=Ngy_ok.addL Tryz.call104 cgb_ok
end Go.Proofs.YtdjfeninmbpflaaGreat
end
section
namespace Go.Proofs.YtdjfeninmbpflaaGreat
open Go Go.Wk Go.Wl Go.Rx Go.Re 
attribute [local irreducible] vcFun
def angk:Nat->Ann:=fun | 79=>⟨49,fun _=>none,fun _=>none⟩ | _=>⟨0,fun _=>none,fun _=>none⟩
def Vgk (n:Int) (f:Int) (Q:Int->Int->Prop):Prop :=
(((n<1 ∨ (3652059:Int)<n) ∨ f<0) ∨ (6:Int)<f->Q (0:Int) (0:Int))/\(¬(((n<1 ∨ (3652059:Int)<n) ∨ f<0) ∨ (6:Int)<f)->in64 ((ofS n).Year+1)/\(0:Int)<=(ofS n).Year+1/\(ofS n).Year+1<=10000/\(0:Int)<=f/\f<=6/\(begS ((ofS n).Year+1) f<=n->in64 ((ofS n).Year+1)/\(0:Int)<=(ofS n).Year+1/\(ofS n).Year+1<=10000/\(0:Int)<=f/\f<=6/\in64 (n-begS ((ofS n).Year+1) f)/\(7:Int)≠0/\in64 ((n-begS ((ofS n).Year+1) f).tdiv (7:Int))/\in64 ((n-begS ((ofS n).Year+1) f).tdiv (7:Int)+1)/\Q ((ofS n).Year+1) ((n-begS ((ofS n).Year+1) f).tdiv (7:Int)+1))/\(¬begS ((ofS n).Year+1) f<=n->(0:Int)<=(ofS n).Year/\(ofS n).Year<=10000/\(0:Int)<=f/\f<=6/\(n<begS (ofS n).Year f->in64 ((ofS n).Year-1)/\(0:Int)<=(ofS n).Year-1/\(ofS n).Year-1<=10000/\(0:Int)<=f/\f<=6/\in64 (n-begS ((ofS n).Year-1) f)/\(7:Int)≠0/\in64 ((n-begS ((ofS n).Year-1) f).tdiv (7:Int))/\in64 ((n-begS ((ofS n).Year-1) f).tdiv (7:Int)+1)/\Q ((ofS n).Year-1) ((n-begS ((ofS n).Year-1) f).tdiv (7:Int)+1))/\(¬n<begS (ofS n).Year f->(0:Int)<=(ofS n).Year/\(ofS n).Year<=10000/\(0:Int)<=f/\f<=6/\in64 (n-begS (ofS n).Year f)/\(7:Int)≠0/\in64 ((n-begS (ofS n).Year f).tdiv (7:Int))/\in64 ((n-begS (ofS n).Year f).tdiv (7:Int)+1)/\Q (ofS n).Year ((n-begS (ofS n).Year f).tdiv (7:Int)+1))))
theorem Vgk_eq {n:Int} {f:Int} {Q:Int->Int->Prop}:@Eq Prop (Vgk n f Q) (vcFun (E:=Ngb) (inlHN Ngb H0 angk 2) (angk 79) Tryz.f79 [.int .i64 n,.int .i64 f] [] [] 0 (resP Ngb [.int .i64,.int .i64] Q)):=by kernel_rfl
theorem Vgk_ok {n:Int} {f:Int} {Q:Int->Int->Prop} (h:Vgk n f Q):vcFun (E:=Ngb) (inlHN Ngb H0 angk 2) (angk 79) Tryz.f79 [.int .i64 n,.int .i64 f] [] [] 0 (resP Ngb [.int .i64,.int .i64] Q):=by rw [<- Vgk_eq]; exact h
set_option maxHeartbeats 2000000 in
theorem pgk (n:Int) (f:Int)  : Vgk n f (fun y0 y1=>y0=(weekS n f).1/\y1=(weekS n f).2):=by
 unfold Vgk weekS
 refine ⟨fun h=>by rw [if_pos h]; exact ⟨rfl,rfl⟩,fun h=>?_⟩
 rw [if_neg h]
 obtain ⟨hr,hn⟩:=of_ok (n:=n) (by omega) (by omega)
 obtain ⟨y0,y1,_⟩:=hr.ym
 have hi:=num_in hr
 rw [hn] at hi
 unfold wkY
 generalize (ofS n).Year=y at *
 obtain ⟨q0,q1⟩:=beg_rg (y+1) f
 obtain ⟨q2,q3⟩:=beg_rg y f
 obtain ⟨q4,q5⟩:=beg_rg (y-1) f
 obtain ⟨r0,r1⟩:=ahead_rg (y:=y+1) (by omega) (by omega)
 obtain ⟨r2,r3⟩:=ahead_rg (y:=y) (by omega) (by omega)
 obtain ⟨r4,r5⟩:=ahead_rg (y:=y-1) (by omega) (by omega)
 have hs:=ahead_step (y-1)
 rw [show y-1+1=y by omega] at hs
 have hs2:aheadS (y-1)+365<=aheadS y:=by split at hs <;> omega
 refine ⟨⟨by omega,by omega⟩,by omega,by omega,by omega,by omega,fun h1=>?_,fun h1=>?_⟩
 . have t:(n-begS (y+1) f).tdiv 7=(n-begS (y+1) f) / 7:=Int.tdiv_eq_ediv_of_nonneg (by omega)
   rw [if_pos h1,t]
   exact ⟨⟨by omega,by omega⟩,by omega,by omega,by omega,by omega,⟨by omega,by omega⟩,by decide,⟨by omega,by omega⟩,⟨by omega,by omega⟩,rfl,rfl⟩
 . rw [if_neg h1]
   refine ⟨by omega,by omega,by omega,by omega,fun h2=>?_,fun h2=>?_⟩
   . have t:(n-begS (y-1) f).tdiv 7=(n-begS (y-1) f) / 7:=Int.tdiv_eq_ediv_of_nonneg (by omega)
     rw [if_pos h2,t]
     exact ⟨⟨by omega,by omega⟩,by omega,by omega,by omega,by omega,⟨by omega,by omega⟩,by decide,⟨by omega,by omega⟩,⟨by omega,by omega⟩,rfl,rfl⟩
   . have t:(n-begS y f).tdiv 7=(n-begS y f) / 7:=Int.tdiv_eq_ediv_of_nonneg (by omega)
     rw [if_neg h2,t]
     exact ⟨by omega,by omega,by omega,by omega,⟨by omega,by omega⟩,by decide,⟨by omega,by omega⟩,⟨by omega,by omega⟩,rfl,rfl⟩
def cgk (a:List (SV U)):Option (Q1 U):=match a with | [.int .i64 n,.int .i64 f]=>some ⟨[],[],.tup [.int .i64 ((weekS n f).1),.int .i64 ((weekS n f).2)]⟩ | _=>none
theorem cgk_ok (args:List (SV U)) (q:Q1 U) (h:cgk args=some q) (ho:allP q.ob):LendOK Ngb 79 args ⟨q.ob,q.hy,q.v,[]⟩:=by
 unfold cgk at h
 split at h
 . rename_i n f
   cases h
   exact lend2 Ngb_ok (inlHN_ok Ngb_ok H0_ok angk 2) Tryz.func79 (k1:=.int .i64) (k2:=.int .i64) (x1:=(weekS n f).1) (x2:=(weekS n f).2) trivial trivial (Vgk_ok (pgk n f )) 0
 . cases h
noncomputable def Ngk:Env:=Ngb.addL 79 cgk
theorem Ngk_ok:EnvOK Ngk:=Ngb_ok.addL Tryz.call79 cgk_ok
end Go.Proofs.YtdjfeninmbpflaaGreat
end
section
namespace Go.Proofs.YtdjfeninmbpflaaGreat
open Go Go.Wk Go.Wl Go.Rx Go.Re 
attribute [local irreducible] vcFun
def angm:Nat->Ann:=fun | 80=>⟨28,fun _=>none,fun _=>none⟩ | _=>⟨0,fun _=>none,fun _=>none⟩
def Vgm (y:Int) (f:Int) (Q:Int->Prop):Prop :=
(((y<1 ∨ (9999:Int)<y) ∨ f<0) ∨ (6:Int)<f->Q (0:Int))/\(¬(((y<1 ∨ (9999:Int)<y) ∨ f<0) ∨ (6:Int)<f)->in64 (y+1)/\(0:Int)<=y+1/\y+1<=10000/\(0:Int)<=f/\f<=6/\(0:Int)<=y/\y<=10000/\(0:Int)<=f/\f<=6/\in64 (begS (y+1) f-begS y f)/\(7:Int)≠0/\in64 ((begS (y+1) f-begS y f).tdiv (7:Int))/\Q ((begS (y+1) f-begS y f).tdiv (7:Int)))
theorem Vgm_eq {y:Int} {f:Int} {Q:Int->Prop}:@Eq Prop (Vgm y f Q) (vcFun (E:=Ngk) (inlHN Ngk H0 angm 2) (angm 80) Tryz.f80 [.int .i64 y,.int .i64 f] [] [] 0 (resP Ngk [.int .i64] Q)):=by kernel_rfl
theorem Vgm_ok {y:Int} {f:Int} {Q:Int->Prop} (h:Vgm y f Q):vcFun (E:=Ngk) (inlHN Ngk H0 angm 2) (angm 80) Tryz.f80 [.int .i64 y,.int .i64 f] [] [] 0 (resP Ngk [.int .i64] Q):=by rw [<- Vgm_eq]; exact h
theorem pgm (y:Int) (f:Int)  : Vgm y f (fun y0=>y0=weeksS y f):=by
 unfold Vgm weeksS
 refine ⟨fun h=>by rw [if_pos h],fun h=>?_⟩
 rw [if_neg h]
 obtain ⟨q0,q1⟩:=beg_rg (y+1) f
 obtain ⟨q2,q3⟩:=beg_rg y f
 obtain ⟨r0,r1⟩:=ahead_rg (y:=y+1) (by omega) (by omega)
 obtain ⟨r2,r3⟩:=ahead_rg (y:=y) (by omega) (by omega)
 have hs:=ahead_step y
 have hs2:aheadS y+365<=aheadS (y+1):=by split at hs <;> omega
 have t:(begS (y+1) f-begS y f).tdiv 7=(begS (y+1) f-begS y f) / 7:=Int.tdiv_eq_ediv_of_nonneg (by omega)
 rw [t]
 exact ⟨⟨by omega,by omega⟩,by omega,by omega,by omega,by omega,by omega,by omega,by omega,by omega,⟨by omega,by omega⟩,by decide,⟨by omega,by omega⟩,rfl⟩
def cgm (a:List (SV U)):Option (Q1 U):=match a with | [.int .i64 y,.int .i64 f]=>some ⟨[],[],.int .i64 (weeksS y f)⟩ | _=>none
theorem cgm_ok (args:List (SV U)) (q:Q1 U) (h:cgm args=some q) (ho:allP q.ob):LendOK Ngk 80 args ⟨q.ob,q.hy,q.v,[]⟩:=by
 unfold cgm at h
 split at h
 . rename_i y f
   cases h
   exact lend1 Ngk_ok (inlHN_ok Ngk_ok H0_ok angm 2) Tryz.func80 (k:=.int .i64) (x:=weeksS y f) trivial (Vgm_ok (pgm y f )) 0
 . cases h
noncomputable def Ngm:Env:=Ngk.addL 80 cgm
theorem Ngm_ok:EnvOK Ngm:=Ngk_ok.addL Tryz.call80 cgm_ok
end Go.Proofs.YtdjfeninmbpflaaGreat
end
section
namespace Go.Proofs.YtdjfeninmbpflaaGreat
open Go Go.Wk Go.Wl Go.Rx Go.Re 
noncomputable def NI55:Env:=Ngm.addI 55 Tryz.f55
theorem NI55_ok:EnvOK NI55:=Ngm_ok.addI Tryz.call55 Tryz.func55
end Go.Proofs.YtdjfeninmbpflaaGreat
end
section
namespace Go.Proofs.YtdjfeninmbpflaaGreat
open Go Go.Wk Go.Wl Go.Rx Go.Re 
attribute [local irreducible] vcFun
def anwr:Nat->Ann:=fun | 29=>⟨42,fun _=>none,fun _=>none⟩ | 55=>⟨12,fun _=>none,fun _=>none⟩ | _=>⟨0,fun _=>none,fun _=>none⟩
def Vwr (t:Tm) (Q:Bool->Prop):Prop :=
(t.Bare=true/\(((t.Hour≠0 ∨ t.Min≠0) ∨ t.Sec≠0) ∨ t.UTC=true)->Q false)/\(¬(t.Bare=true/\(((t.Hour≠0 ∨ t.Min≠0) ∨ t.Sec≠0) ∨ t.UTC=true))->(rightB (Dy.mk t.Day.Year t.Day.Month t.Day.Date)=true->((0:Int)<=t.Hour/\t.Hour<=23->((0:Int)<=t.Min/\t.Min<=59->Q (decide ((0:Int)<=t.Sec/\t.Sec<=59)))/\(¬((0:Int)<=t.Min/\t.Min<=59)->Q false))/\(¬((0:Int)<=t.Hour/\t.Hour<=23)->Q false))/\(¬rightB (Dy.mk t.Day.Year t.Day.Month t.Day.Date)=true->Q false))
theorem Vwr_eq {t:Tm} {Q:Bool->Prop}:@Eq Prop (Vwr t Q) (vcFun (E:=NI55) (inlHN NI55 H0 anwr 2) (anwr 29) Tryz.f29 [.agg [.int .i64 t.Day.Year,.int .i64 t.Day.Month,.int .i64 t.Day.Date,.int .i64 t.Hour,.int .i64 t.Min,.int .i64 t.Sec,blB t.Bare,blB t.UTC]] [] [] 0 (resP NI55 [.bool] Q)):=by kernel_rfl
theorem Vwr_ok {t:Tm} {Q:Bool->Prop} (h:Vwr t Q):vcFun (E:=NI55) (inlHN NI55 H0 anwr 2) (anwr 29) Tryz.f29 [.agg [.int .i64 t.Day.Year,.int .i64 t.Day.Month,.int .i64 t.Day.Date,.int .i64 t.Hour,.int .i64 t.Min,.int .i64 t.Sec,blB t.Bare,blB t.UTC]] [] [] 0 (resP NI55 [.bool] Q):=by rw [<- Vwr_eq]; exact h
theorem pwr (t:Tm)  : Vwr t (fun y0=>y0=rightT t):=by
 unfold Vwr
 have e:(Dy.mk t.Day.Year t.Day.Month t.Day.Date)=t.Day:=rfl
 rw [e]
 refine ⟨fun h=>?_,fun h=>⟨fun hd=>⟨fun hh=>⟨fun hm=>?_,fun hm=>?_⟩,fun hh=>?_⟩,fun hd=>?_⟩⟩
 . exact (decide_eq_false fun hr=>hr.2.2.2.2 h).symm
 . by_cases hs:0<=t.Sec/\t.Sec<=59
   . rw [decide_eq_true hs]; exact (decide_eq_true ⟨rightB_iff.1 hd,hh,hm,hs,h⟩).symm
   . rw [decide_eq_false hs]; exact (decide_eq_false fun hr=>hs hr.2.2.2.1).symm
 . exact (decide_eq_false fun hr=>hm hr.2.2.1).symm
 . exact (decide_eq_false fun hr=>hh hr.2.1).symm
 . exact (decide_eq_false fun hr=>hd (rightB_iff.2 hr.1)).symm
noncomputable def cwrs (t:Tm):Q1 U:=⟨[],[],blB (rightT t)⟩
noncomputable def cwr (a:List (SV U)):Option (Q1 U):=match a with | [.agg l_t]=>(y25.bk (.agg l_t)).bind fun t=>some (cwrs t) | _=>none
theorem cwr_ok (args:List (SV U)) (q:Q1 U) (h:cwr args=some q) (ho:allP q.ob):LendOK NI55 29 args ⟨q.ob,q.hy,q.v,[]⟩:=by
 unfold cwr at h
 split at h
 . rename_i l_t
   obtain ⟨t,hb_t,h⟩:=Option.bind_eq_some_iff.1 h
   cases h
   refine LendOK.conv (E:=NI55) (args':=[.agg [.int .i64 t.Day.Year,.int .i64 t.Day.Month,.int .i64 t.Day.Date,.int .i64 t.Hour,.int .i64 t.Min,.int .i64 t.Sec,blB t.Bare,blB t.UTC]]) (lend1 NI55_ok (inlHN_ok NI55_ok H0_ok anwr 2) Tryz.func29 (k:=.bool) trivial (Vwr_ok (pwr t )) 0) fun D w vs hr=>tup_conv [.agg l_t] [.agg [.int .i64 t.Day.Year,.int .i64 t.Day.Month,.int .i64 t.Day.Date,.int .i64 t.Hour,.int .i64 t.Min,.int .i64 t.Sec,blB t.Bare,blB t.UTC]] _ ⟨fun _ h=>agg_conv25 hb_t h,trivial⟩ hr
 . cases h
noncomputable def Nwr:Env:=NI55.addL 29 cwr
theorem Nwr_ok:EnvOK Nwr:=NI55_ok.addL Tryz.call29 cwr_ok
end Go.Proofs.YtdjfeninmbpflaaGreat
end
section
namespace Go.Proofs.YtdjfeninmbpflaaGreat
open Go Go.Wk Go.Wl Go.Rx Go.Re 
attribute [local irreducible] vcFun
def anws:Nat->Ann:=fun | 31=>⟨22,fun _=>none,fun _=>none⟩ | _=>⟨0,fun _=>none,fun _=>none⟩
def Vws (t:Tm) (Q:Int->Prop):Prop :=
(¬rightT (Tm.mk (Dy.mk t.Day.Year t.Day.Month t.Day.Date) t.Hour t.Min t.Sec (decide (t.Bare=true)) (decide (t.UTC=true)))=true->Q (-1:Int))/\(¬¬rightT (Tm.mk (Dy.mk t.Day.Year t.Day.Month t.Day.Date) t.Hour t.Min t.Sec (decide (t.Bare=true)) (decide (t.UTC=true)))=true->in64 (numS (Dy.mk t.Day.Year t.Day.Month t.Day.Date)-1)/\in64 ((numS (Dy.mk t.Day.Year t.Day.Month t.Day.Date)-1) * 86400)/\in64 (t.Hour * 3600)/\in64 ((numS (Dy.mk t.Day.Year t.Day.Month t.Day.Date)-1) * 86400+t.Hour * 3600)/\in64 (t.Min * 60)/\in64 ((numS (Dy.mk t.Day.Year t.Day.Month t.Day.Date)-1) * 86400+t.Hour * 3600+t.Min * 60)/\in64 ((numS (Dy.mk t.Day.Year t.Day.Month t.Day.Date)-1) * 86400+t.Hour * 3600+t.Min * 60+t.Sec)/\Q ((numS (Dy.mk t.Day.Year t.Day.Month t.Day.Date)-1) * 86400+t.Hour * 3600+t.Min * 60+t.Sec))
theorem Vws_eq {t:Tm} {Q:Int->Prop}:@Eq Prop (Vws t Q) (vcFun (E:=Nwr) (inlHN Nwr H0 anws 2) (anws 31) Tryz.f31 [.agg [.int .i64 t.Day.Year,.int .i64 t.Day.Month,.int .i64 t.Day.Date,.int .i64 t.Hour,.int .i64 t.Min,.int .i64 t.Sec,blB t.Bare,blB t.UTC]] [] [] 0 (resP Nwr [.int .i64] Q)):=by kernel_rfl
theorem Vws_ok {t:Tm} {Q:Int->Prop} (h:Vws t Q):vcFun (E:=Nwr) (inlHN Nwr H0 anws 2) (anws 31) Tryz.f31 [.agg [.int .i64 t.Day.Year,.int .i64 t.Day.Month,.int .i64 t.Day.Date,.int .i64 t.Hour,.int .i64 t.Min,.int .i64 t.Sec,blB t.Bare,blB t.UTC]] [] [] 0 (resP Nwr [.int .i64] Q):=by rw [<- Vws_eq]; exact h
theorem pws (t:Tm)  : Vws t (fun y0=>y0=secsT t):=by
 unfold Vws secsT
 simp only [Bool.decide_eq_true]
 refine ⟨fun h=>by rw [if_neg (fun hr=>h (rightT_iff.2 hr))],fun h=>?_⟩
 have hr:RightT t:=rightT_iff.1 (Classical.not_not.1 h)
 have hrg:=secsN_rg hr
 rw [if_pos hr]
 obtain ⟨hd,hh,hm,hs,_⟩:=hr
 obtain ⟨n0,n1⟩:=num_rg hd
 have en:numS (Dy.mk t.Day.Year t.Day.Month t.Day.Date)=numD t.Day:=by
  show numS t.Day=numD t.Day
  unfold numS; rw [if_pos hd]
 rw [en]
 unfold secsN at *
 exact ⟨⟨by omega,by omega⟩,⟨by omega,by omega⟩,⟨by omega,by omega⟩,⟨by omega,by omega⟩,⟨by omega,by omega⟩,⟨by omega,by omega⟩,⟨by omega,by omega⟩,rfl⟩
noncomputable def cwss (t:Tm):Q1 U:=⟨[],[],.int .i64 (secsT t)⟩
noncomputable def cws (a:List (SV U)):Option (Q1 U):=match a with | [.agg l_t]=>(y25.bk (.agg l_t)).bind fun t=>some (cwss t) | _=>none
theorem cws_ok (args:List (SV U)) (q:Q1 U) (h:cws args=some q) (ho:allP q.ob):LendOK Nwr 31 args ⟨q.ob,q.hy,q.v,[]⟩:=by
 unfold cws at h
 split at h
 . rename_i l_t
   obtain ⟨t,hb_t,h⟩:=Option.bind_eq_some_iff.1 h
   cases h
   refine LendOK.conv (E:=Nwr) (args':=[.agg [.int .i64 t.Day.Year,.int .i64 t.Day.Month,.int .i64 t.Day.Date,.int .i64 t.Hour,.int .i64 t.Min,.int .i64 t.Sec,blB t.Bare,blB t.UTC]]) (lend1 Nwr_ok (inlHN_ok Nwr_ok H0_ok anws 2) Tryz.func31 (k:=.int .i64) trivial (Vws_ok (pws t )) 0) fun D w vs hr=>tup_conv [.agg l_t] [.agg [.int .i64 t.Day.Year,.int .i64 t.Day.Month,.int .i64 t.Day.Date,.int .i64 t.Hour,.int .i64 t.Min,.int .i64 t.Sec,blB t.Bare,blB t.UTC]] _ ⟨fun _ h=>agg_conv25 hb_t h,trivial⟩ hr
 . cases h
noncomputable def Nws:Env:=Nwr.addL 31 cws
theorem Nws_ok:EnvOK Nws:=Nwr_ok.addL Tryz.call31 cws_ok
end Go.Proofs.YtdjfeninmbpflaaGreat
end
section
namespace Go.Proofs.YtdjfeninmbpflaaGreat
open Go Go.Wk Go.Wl Go.Rx Go.Re 
attribute [local irreducible] vcFun
def anwa:Nat->Ann:=fun | 36=>⟨46,fun _=>none,fun _=>none⟩ | _=>⟨0,fun _=>none,fun _=>none⟩
def Vwa (n:Int) (t:Tm) (Q:Tm->Prop):Prop :=
((¬n<0/\t.Bare=true)/\¬t.UTC=true->(86400:Int)≠0)/\(n<0 ∨ t.Bare=true/\(t.UTC=true ∨ n.tmod (86400:Int)≠0)->Q (Tm.mk (Dy.mk (0:Int) (0:Int) (0:Int)) (0:Int) (0:Int) (0:Int) false false))/\(¬(n<0 ∨ t.Bare=true/\(t.UTC=true ∨ n.tmod (86400:Int)≠0))->(86400:Int)≠0/\in64 (n.tdiv (86400:Int))/\in64 (n.tdiv (86400:Int)+1)/\((ofS (n.tdiv (86400:Int)+1)).Year=0/\(ofS (n.tdiv (86400:Int)+1)).Month=0/\(ofS (n.tdiv (86400:Int)+1)).Date=0/\True->Q (Tm.mk (Dy.mk (0:Int) (0:Int) (0:Int)) (0:Int) (0:Int) (0:Int) false false))/\(¬((ofS (n.tdiv (86400:Int)+1)).Year=0/\(ofS (n.tdiv (86400:Int)+1)).Month=0/\(ofS (n.tdiv (86400:Int)+1)).Date=0/\True)->(86400:Int)≠0/\(3600:Int)≠0/\in64 ((n.tmod (86400:Int)).tdiv (3600:Int))/\(60:Int)≠0/\in64 ((n.tmod (86400:Int)).tdiv (60:Int))/\(60:Int)≠0/\(60:Int)≠0/\Q (Tm.mk (Dy.mk (ofS (n.tdiv (86400:Int)+1)).Year (ofS (n.tdiv (86400:Int)+1)).Month (ofS (n.tdiv (86400:Int)+1)).Date) ((n.tmod (86400:Int)).tdiv (3600:Int)) (((n.tmod (86400:Int)).tdiv (60:Int)).tmod (60:Int)) ((n.tmod (86400:Int)).tmod (60:Int)) (decide (t.Bare=true)) (decide (t.UTC=true)))))
theorem Vwa_eq {n:Int} {t:Tm} {Q:Tm->Prop}:@Eq Prop (Vwa n t Q) (vcFun (E:=Nws) (inlHN Nws H0 anwa 2) (anwa 36) Tryz.f36 [.int .i64 n,.agg [.int .i64 t.Day.Year,.int .i64 t.Day.Month,.int .i64 t.Day.Date,.int .i64 t.Hour,.int .i64 t.Min,.int .i64 t.Sec,blB t.Bare,blB t.UTC]] [] [] 0 (resP Nws [.val 25] Q)):=by kernel_rfl
theorem Vwa_ok {n:Int} {t:Tm} {Q:Tm->Prop} (h:Vwa n t Q):vcFun (E:=Nws) (inlHN Nws H0 anwa 2) (anwa 36) Tryz.f36 [.int .i64 n,.agg [.int .i64 t.Day.Year,.int .i64 t.Day.Month,.int .i64 t.Day.Date,.int .i64 t.Hour,.int .i64 t.Min,.int .i64 t.Sec,blB t.Bare,blB t.UTC]] [] [] 0 (resP Nws [.val 25] Q):=by rw [<- Vwa_eq]; exact h
theorem pwa (n:Int) (t:Tm) (hn:n<=9000000000000000000):Vwa n t (fun y0=>y0=atS n t):=by
 unfold Vwa atS
 simp only [Bool.decide_eq_true]
 refine ⟨fun _=>by decide,fun h=>?_,fun h=>?_⟩
 . by_cases h0:n<0
   . rw [if_pos (.inl h0)]
   . have e:n.tmod 86400=n % 86400:=Int.tmod_eq_emod_of_nonneg (by omega)
     rw [e] at h
     rw [if_pos (.inr (.inl (h.resolve_left h0)))]
 . have h0:¬ n<0:=fun h'=>h (.inl h')
   have e1:n.tdiv 86400=n / 86400:=Int.tdiv_eq_ediv_of_nonneg (by omega)
   have e2:n.tmod 86400=n % 86400:=Int.tmod_eq_emod_of_nonneg (by omega)
   have e3:(n % 86400).tdiv 3600=n % 86400 / 3600:=Int.tdiv_eq_ediv_of_nonneg (by omega)
   have e4:(n % 86400).tdiv 60=n % 86400 / 60:=Int.tdiv_eq_ediv_of_nonneg (by omega)
   have e5:(n % 86400 / 60).tmod 60=n % 86400 / 60 % 60:=Int.tmod_eq_emod_of_nonneg (by omega)
   have e6:(n % 86400).tmod 60=n % 86400 % 60:=Int.tmod_eq_emod_of_nonneg (by omega)
   rw [e2] at h
   rw [e1,e2,e3,e4,e5,e6]
   by_cases hl:3652059<n / 86400+1
   . have eo:ofS (n / 86400+1)=⟨0,0,0⟩:=by unfold ofS; rw [if_pos (.inr hl)]
     rw [if_pos (.inr (.inr hl)),eo]
     exact ⟨by decide,⟨by omega,by omega⟩,⟨by omega,by omega⟩,fun _=>rfl,fun hh=>absurd ⟨rfl,rfl,rfl,trivial⟩ hh⟩
   . obtain ⟨hr,_⟩:=of_ok (n:=n / 86400+1) (by omega) (by omega)
     obtain ⟨y0,_⟩:=hr.ym
     rw [if_neg (by rintro (h' | h' | h')
                    . exact h0 h'
                    . exact h (.inr h')
                    . exact hl h')]
     exact ⟨by decide,⟨by omega,by omega⟩,⟨by omega,by omega⟩,fun hz=>absurd hz.1 (by omega),fun _=>⟨by decide,by decide,⟨by omega,by omega⟩,by decide,⟨by omega,by omega⟩,by decide,by decide,rfl⟩⟩
noncomputable def cwas (n:Int) (t:Tm):Q1 U:=⟨[n<=9000000000000000000],[],.agg [.int .i64 (atS n t).Day.Year,.int .i64 (atS n t).Day.Month,.int .i64 (atS n t).Day.Date,.int .i64 (atS n t).Hour,.int .i64 (atS n t).Min,.int .i64 (atS n t).Sec,blB (atS n t).Bare,blB (atS n t).UTC]⟩
noncomputable def cwa (a:List (SV U)):Option (Q1 U):=match a with | [.int .i64 n,.agg l_t]=>(y25.bk (.agg l_t)).bind fun t=>some (cwas n t) | _=>none
theorem cwa_ok (args:List (SV U)) (q:Q1 U) (h:cwa args=some q) (ho:allP q.ob):LendOK Nws 36 args ⟨q.ob,q.hy,q.v,[]⟩:=by
 unfold cwa at h
 split at h
 . rename_i n l_t
   obtain ⟨t,hb_t,h⟩:=Option.bind_eq_some_iff.1 h
   cases h
   refine LendOK.conv (E:=Nws) (args':=[.int .i64 n,.agg [.int .i64 t.Day.Year,.int .i64 t.Day.Month,.int .i64 t.Day.Date,.int .i64 t.Hour,.int .i64 t.Min,.int .i64 t.Sec,blB t.Bare,blB t.UTC]]) (lend1 Nws_ok (inlHN_ok Nws_ok H0_ok anwa 2) Tryz.func36 (k:=.val 25) ⟨_,_,rfl,rfl,rfl⟩ (Vwa_ok (pwa n t ho.1)) 0) fun D w vs hr=>tup_conv [.int .i64 n,.agg l_t] [.int .i64 n,.agg [.int .i64 t.Day.Year,.int .i64 t.Day.Month,.int .i64 t.Day.Date,.int .i64 t.Hour,.int .i64 t.Min,.int .i64 t.Sec,blB t.Bare,blB t.UTC]] _ ⟨fun _ h=>h,fun _ h=>agg_conv25 hb_t h,trivial⟩ hr
 . cases h
noncomputable def Nwa:Env:=Nws.addL 36 cwa
theorem Nwa_ok:EnvOK Nwa:=Nws_ok.addL Tryz.call36 cwa_ok
end Go.Proofs.YtdjfeninmbpflaaGreat
end
section
namespace Go.Proofs.YtdjfeninmbpflaaGreat
open Go Go.Wk Go.Wl Go.Rx Go.Re 
attribute [local irreducible] vcFun
def anry:Nat->Ann:=fun | 97=>⟨16,fun _=>none,fun _=>none⟩ | _=>⟨0,fun _=>none,fun _=>none⟩
def Vry (y:Int) (Q:Int->Prop):Prop :=
(400:Int)≠0/\(¬y.tmod (400:Int)=0->(4:Int)≠0)/\(¬y.tmod (400:Int)=0/\y.tmod (4:Int)=0->(100:Int)≠0)/\(y.tmod (400:Int)=0 ∨ y.tmod (4:Int)=0/\y.tmod (100:Int)≠0->Q (366:Int))/\(¬(y.tmod (400:Int)=0 ∨ y.tmod (4:Int)=0/\y.tmod (100:Int)≠0)->Q (365:Int))
theorem Vry_eq {y:Int} {Q:Int->Prop}:@Eq Prop (Vry y Q) (vcFun (E:=Nwa) (inlHN Nwa H0 anry 2) (anry 97) Tryz.f97 [.int .i64 y] [] [] 0 (resP Nwa [.int .i64] Q)):=by kernel_rfl
theorem Vry_ok {y:Int} {Q:Int->Prop} (h:Vry y Q):vcFun (E:=Nwa) (inlHN Nwa H0 anry 2) (anry 97) Tryz.f97 [.int .i64 y] [] [] 0 (resP Nwa [.int .i64] Q):=by rw [<- Vry_eq]; exact h
theorem pry (y:Int)  : Vry y (fun y0=>y0=ylongS y):=by
 unfold Vry ylongS
 refine ⟨by decide,fun _=>by decide,fun _=>by decide,fun h=>?_,fun h=>?_⟩
 . rw [tm0,tm0,ne_eq,tm0] at h
   rw [if_pos (by omega)]
 . rw [tm0,tm0,ne_eq,tm0] at h
   rw [if_neg (by omega)]
def cry (a:List (SV U)):Option (Q1 U):=match a with | [.int .i64 y]=>some ⟨[],[],.int .i64 (ylongS y)⟩ | _=>none
theorem cry_ok (args:List (SV U)) (q:Q1 U) (h:cry args=some q) (ho:allP q.ob):LendOK Nwa 97 args ⟨q.ob,q.hy,q.v,[]⟩:=by
 unfold cry at h
 split at h
 . rename_i y
   cases h
   exact lend1 Nwa_ok (inlHN_ok Nwa_ok H0_ok anry 2) Tryz.func97 (k:=.int .i64) (x:=ylongS y) trivial (Vry_ok (pry y )) 0
 . cases h
noncomputable def Nry:Env:=Nwa.addL 97 cry
theorem Nry_ok:EnvOK Nry:=Nwa_ok.addL Tryz.call97 cry_ok
end Go.Proofs.YtdjfeninmbpflaaGreat
end
section
namespace Go.Proofs.YtdjfeninmbpflaaGreat
open Go Go.Wk Go.Wl Go.Rx Go.Re 
attribute [local irreducible] vcFun
def anrl:Nat->Ann:=fun | 65=>⟨31,fun _=>none,fun _=>none⟩ | _=>⟨0,fun _=>none,fun _=>none⟩
def Vrl (y:Int) (m:Int) (Q:Int->Prop):Prop :=
(((y<1 ∨ (9999:Int)<y) ∨ m<1) ∨ (12:Int)<m->Q (0:Int))/\(¬(((y<1 ∨ (9999:Int)<y) ∨ m<1) ∨ (12:Int)<m)->(m=2->in64 (ylongS y-337)/\Q (ylongS y-337))/\(¬m=2->in64 (m-1)/\(0:Int)<=m-1/\m-1<(↑[(31:Int),(28:Int),(31:Int),(30:Int),(31:Int),(30:Int),(31:Int),(31:Int),(30:Int),(31:Int),(30:Int),(31:Int)].length:Int)/\(in64 (ix [(31:Int),(28:Int),(31:Int),(30:Int),(31:Int),(30:Int),(31:Int),(31:Int),(30:Int),(31:Int),(30:Int),(31:Int)] (m-1))->Q (ix [(31:Int),(28:Int),(31:Int),(30:Int),(31:Int),(30:Int),(31:Int),(31:Int),(30:Int),(31:Int),(30:Int),(31:Int)] (m-1)))))
theorem Vrl_eq {y:Int} {m:Int} {Q:Int->Prop}:@Eq Prop (Vrl y m Q) (vcFun (E:=Nry) (inlHN Nry H0 anrl 2) (anrl 65) Tryz.f65 [.int .i64 y,.int .i64 m] [] [] 0 (resP Nry [.int .i64] Q)):=by kernel_rfl
theorem Vrl_ok {y:Int} {m:Int} {Q:Int->Prop} (h:Vrl y m Q):vcFun (E:=Nry) (inlHN Nry H0 anrl 2) (anrl 65) Tryz.f65 [.int .i64 y,.int .i64 m] [] [] 0 (resP Nry [.int .i64] Q):=by rw [<- Vrl_eq]; exact h
theorem prl (y:Int) (m:Int)  : Vrl y m (fun y0=>y0=longS y m):=by
 unfold Vrl
 refine ⟨fun h=>?_,fun h=>⟨fun h2=>?_,fun h2=>⟨⟨by omega,by omega⟩,by omega,by show m-1<12; omega,fun _=>?_⟩⟩⟩
 . unfold longS
   by_cases hy:y<1 ∨ 9999<y
   . rw [if_pos hy]
   . rw [if_neg hy,if_neg (by omega),if_neg (by omega),if_neg (by omega)]
 . subst h2
   unfold longS
   rw [if_neg (show ¬ (y<1 ∨ 9999<y) by omega),if_pos rfl]
   unfold ylongS
   by_cases hl:y % 4=0/\(y % 100≠0 ∨ y % 400=0)
   . rw [if_pos hl,if_pos hl]; exact ⟨⟨by decide,by decide⟩,rfl⟩
   . rw [if_neg hl,if_neg hl]; exact ⟨⟨by decide,by decide⟩,rfl⟩
 . have hm:m=1 ∨ m=3 ∨ m=4 ∨ m=5 ∨ m=6 ∨ m=7 ∨ m=8 ∨ m=9 ∨ m=10 ∨ m=11 ∨ m=12:=by omega
   unfold longS
   rw [if_neg (by omega)]
   rcases hm with rfl | rfl | rfl | rfl | rfl | rfl | rfl | rfl | rfl | rfl | rfl <;> rfl
def crl (a:List (SV U)):Option (Q1 U):=match a with | [.int .i64 y,.int .i64 m]=>some ⟨[],[],.int .i64 (longS y m)⟩ | _=>none
theorem crl_ok (args:List (SV U)) (q:Q1 U) (h:crl args=some q) (ho:allP q.ob):LendOK Nry 65 args ⟨q.ob,q.hy,q.v,[]⟩:=by
 unfold crl at h
 split at h
 . rename_i y m
   cases h
   exact lend1 Nry_ok (inlHN_ok Nry_ok H0_ok anrl 2) Tryz.func65 (k:=.int .i64) (x:=longS y m) trivial (Vrl_ok (prl y m )) 0
 . cases h
noncomputable def Nrl:Env:=Nry.addL 65 crl
theorem Nrl_ok:EnvOK Nrl:=Nry_ok.addL Tryz.call65 crl_ok
end Go.Proofs.YtdjfeninmbpflaaGreat
end
section
namespace Go.Proofs.YtdjfeninmbpflaaGreat
open Go Go.Wk Go.Wl Go.Rx Go.Re 
attribute [local irreducible] vcFun
def anra:Nat->Ann:=fun | 64=>⟨18,fun _=>none,fun _=>none⟩ | _=>⟨0,fun _=>none,fun _=>none⟩
def Vra (y:Int) (Q:Int->Prop):Prop :=
in64 (y-1)/\in64 ((365:Int) * (y-1))/\in64 (y-1)/\(4:Int)≠0/\in64 ((y-1).tdiv (4:Int))/\in64 ((365:Int) * (y-1)+(y-1).tdiv (4:Int))/\in64 (y-1)/\(100:Int)≠0/\in64 ((y-1).tdiv (100:Int))/\in64 ((365:Int) * (y-1)+(y-1).tdiv (4:Int)-(y-1).tdiv (100:Int))/\in64 (y-1)/\(400:Int)≠0/\in64 ((y-1).tdiv (400:Int))/\in64 ((365:Int) * (y-1)+(y-1).tdiv (4:Int)-(y-1).tdiv (100:Int)+(y-1).tdiv (400:Int))/\Q ((365:Int) * (y-1)+(y-1).tdiv (4:Int)-(y-1).tdiv (100:Int)+(y-1).tdiv (400:Int))
theorem Vra_eq {y:Int} {Q:Int->Prop}:@Eq Prop (Vra y Q) (vcFun (E:=Nrl) (inlHN Nrl H0 anra 2) (anra 64) Tryz.f64 [.int .i64 y] [] [] 0 (resP Nrl [.int .i64] Q)):=by kernel_rfl
theorem Vra_ok {y:Int} {Q:Int->Prop} (h:Vra y Q):vcFun (E:=Nrl) (inlHN Nrl H0 anra 2) (anra 64) Tryz.f64 [.int .i64 y] [] [] 0 (resP Nrl [.int .i64] Q):=by rw [<- Vra_eq]; exact h
theorem pra (y:Int) (y0:1<=y) (y1:y<=100000):Vra y (fun y0=>y0=aheadS y):=by
 unfold Vra aheadS
 have e1:(y-1).tdiv 4=(y-1) / 4:=Int.tdiv_eq_ediv_of_nonneg (by omega)
 have e2:(y-1).tdiv 100=(y-1) / 100:=Int.tdiv_eq_ediv_of_nonneg (by omega)
 have e3:(y-1).tdiv 400=(y-1) / 400:=Int.tdiv_eq_ediv_of_nonneg (by omega)
 rw [e1,e2,e3]
 repeat' apply And.intro
 all_goals first | rfl | omega
def cra (a:List (SV U)):Option (Q1 U):=match a with | [.int .i64 y]=>some ⟨[1<=y,y<=100000],[],.int .i64 (aheadS y)⟩ | _=>none
theorem cra_ok (args:List (SV U)) (q:Q1 U) (h:cra args=some q) (ho:allP q.ob):LendOK Nrl 64 args ⟨q.ob,q.hy,q.v,[]⟩:=by
 unfold cra at h
 split at h
 . rename_i y
   cases h
   exact lend1 Nrl_ok (inlHN_ok Nrl_ok H0_ok anra 2) Tryz.func64 (k:=.int .i64) (x:=aheadS y) trivial (Vra_ok (pra y ho.1 ho.2.1)) 0
 . cases h
noncomputable def Nra:Env:=Nrl.addL 64 cra
theorem Nra_ok:EnvOK Nra:=Nrl_ok.addL Tryz.call64 cra_ok
end Go.Proofs.YtdjfeninmbpflaaGreat
end
section
namespace Go.Proofs.YtdjfeninmbpflaaGreat
open Go Go.Wk Go.Wl Go.Rx Go.Re 
attribute [local irreducible] vcFun
def anrw:Nat->Ann:=fun | 92=>⟨14,fun _=>none,fun _=>none⟩ | _=>⟨0,fun _=>none,fun _=>none⟩
def Vrw (n:Int) (Q:Int->Prop):Prop :=
(7:Int)≠0/\(n.tmod (7:Int)<0->in64 (n.tmod (7:Int)+7)/\(n.tmod (7:Int)+7=0->Q (6:Int))/\(¬n.tmod (7:Int)+7=0->in64 (n.tmod (7:Int)+7-1)/\Q (n.tmod (7:Int)+7-1)))/\(¬n.tmod (7:Int)<0->(n.tmod (7:Int)=0->Q (6:Int))/\(¬n.tmod (7:Int)=0->in64 (n.tmod (7:Int)-1)/\Q (n.tmod (7:Int)-1)))
theorem Vrw_eq {n:Int} {Q:Int->Prop}:@Eq Prop (Vrw n Q) (vcFun (E:=Nra) (inlHN Nra H0 anrw 2) (anrw 92) Tryz.f92 [.int .i64 n] [] [] 0 (resP Nra [.int .i64] Q)):=by kernel_rfl
theorem Vrw_ok {n:Int} {Q:Int->Prop} (h:Vrw n Q):vcFun (E:=Nra) (inlHN Nra H0 anrw 2) (anrw 92) Tryz.f92 [.int .i64 n] [] [] 0 (resP Nra [.int .i64] Q):=by rw [<- Vrw_eq]; exact h
theorem prw (n:Int)  : Vrw n (fun y0=>y0=wdS n):=by
 unfold Vrw wdS
 have h1:n.tmod 7=n % 7 ∨ n.tmod 7=n % 7-7/\n % 7≠0:=by
  have h1:=Int.tdiv_mul_add_tmod n 7
  have h5:n.tmod 7<7:=Int.tmod_lt_of_pos n (by decide)
  have h6:-7<n.tmod 7:=Int.lt_tmod_of_pos n (by decide)
  omega
 generalize n.tmod 7=r at h1 ⊢
 refine ⟨by decide,fun h=>⟨⟨by omega,by omega⟩,fun _=>by omega,fun _=>⟨⟨by omega,by omega⟩,by omega⟩⟩,fun h=>⟨fun _=>by omega,fun _=>⟨⟨by omega,by omega⟩,by omega⟩⟩⟩
def crw (a:List (SV U)):Option (Q1 U):=match a with | [.int .i64 n]=>some ⟨[],[],.int .i64 (wdS n)⟩ | _=>none
theorem crw_ok (args:List (SV U)) (q:Q1 U) (h:crw args=some q) (ho:allP q.ob):LendOK Nra 92 args ⟨q.ob,q.hy,q.v,[]⟩:=by
 unfold crw at h
 split at h
 . rename_i n
   cases h
   exact lend1 Nra_ok (inlHN_ok Nra_ok H0_ok anrw 2) Tryz.func92 (k:=.int .i64) (x:=wdS n) trivial (Vrw_ok (prw n )) 0
 . cases h
noncomputable def Nrw:Env:=Nra.addL 92 crw
theorem Nrw_ok:EnvOK Nrw:=Nra_ok.addL Tryz.call92 crw_ok
end Go.Proofs.YtdjfeninmbpflaaGreat
end
section
namespace Go.Proofs.YtdjfeninmbpflaaGreat
open Go Go.Wk Go.Wl Go.Rx Go.Re 
attribute [local irreducible] vcFun
def anrr:Nat->Ann:=fun | 42=>⟨16,fun _=>none,fun _=>none⟩ | _=>⟨0,fun _=>none,fun _=>none⟩
def Vrr (d:Dy) (Q:Bool->Prop):Prop :=
Q (decide ((1:Int)<=d.Date/\d.Date<=longS d.Year d.Month))
theorem Vrr_eq {d:Dy} {Q:Bool->Prop}:@Eq Prop (Vrr d Q) (vcFun (E:=Nrw) (inlHN Nrw H0 anrr 2) (anrr 42) Tryz.f42 [.agg [.int .i64 d.Year,.int .i64 d.Month,.int .i64 d.Date]] [] [] 0 (resP Nrw [.bool] Q)):=by kernel_rfl
theorem Vrr_ok {d:Dy} {Q:Bool->Prop} (h:Vrr d Q):vcFun (E:=Nrw) (inlHN Nrw H0 anrr 2) (anrr 42) Tryz.f42 [.agg [.int .i64 d.Year,.int .i64 d.Month,.int .i64 d.Date]] [] [] 0 (resP Nrw [.bool] Q):=by rw [<- Vrr_eq]; exact h
theorem prr (d:Dy)  : Vrr d (fun y0=>y0=rightB d):=by
 unfold Vrr
 rfl
def crrs (d:Dy):Q1 U:=⟨[],[],blB (rightB d)⟩
def crr (a:List (SV U)):Option (Q1 U):=match a with | [.agg [.int .i64 d0,.int .i64 d1,.int .i64 d2]]=>some (crrs (⟨d0,d1,d2⟩)) | _=>none
theorem crr_ok (args:List (SV U)) (q:Q1 U) (h:crr args=some q) (ho:allP q.ob):LendOK Nrw 42 args ⟨q.ob,q.hy,q.v,[]⟩:=by
 unfold crr at h
 split at h
 . rename_i d0 d1 d2
   cases h
   exact lend1 Nrw_ok (inlHN_ok Nrw_ok H0_ok anrr 2) Tryz.func42 (k:=.bool) (x:=rightB (⟨d0,d1,d2⟩:Dy)) trivial (Vrr_ok (prr (⟨d0,d1,d2⟩) )) 0
 . cases h
noncomputable def Nrr:Env:=Nrw.addL 42 crr
theorem Nrr_ok:EnvOK Nrr:=Nrw_ok.addL Tryz.call42 crr_ok
end Go.Proofs.YtdjfeninmbpflaaGreat
end
section
namespace Go.Proofs.YtdjfeninmbpflaaGreat
open Go Go.Wk Go.Wl Go.Rx Go.Re 
attribute [local irreducible] vcFun
def anrn:Nat->Ann:=fun | 39=>⟨27,fun | 5=>some ⟨[1],[.slot 3 (.int .i64),.slot 4 (.int .i64)]⟩ | _=>none,fun _=>none⟩ | _=>⟨0,fun _=>none,fun _=>none⟩
def Vrn (d:Dy) (Q:Int->Prop):Prop :=
(¬rightB (Dy.mk d.Year d.Month d.Date)=true->Q (0:Int))/\(¬¬rightB (Dy.mk d.Year d.Month d.Date)=true->((1:Int)<=d.Year/\d.Year<=100000)/\in64 (aheadS d.Year+d.Date)/\∃ (I:Int->Int->Prop),∃ (m:Int->Int->Nat),I (aheadS d.Year+d.Date) (1:Int)/\∀ (x x_1:Int),I x x_1->(x_1<d.Month->in64 (x+longS d.Year x_1)/\in64 (x_1+1)/\I (x+longS d.Year x_1) (x_1+1)/\m (x+longS d.Year x_1) (x_1+1)<m x x_1)/\(¬x_1<d.Month->Q x))
theorem Vrn_eq {d:Dy} {Q:Int->Prop}:@Eq Prop (Vrn d Q) (vcFun (E:=Nrr) (inlHN Nrr H0 anrn 2) (anrn 39) Tryz.f39 [.agg [.int .i64 d.Year,.int .i64 d.Month,.int .i64 d.Date]] [] [] 0 (resP Nrr [.int .i64] Q)):=by kernel_rfl
theorem Vrn_ok {d:Dy} {Q:Int->Prop} (h:Vrn d Q):vcFun (E:=Nrr) (inlHN Nrr H0 anrn 2) (anrn 39) Tryz.f39 [.agg [.int .i64 d.Year,.int .i64 d.Month,.int .i64 d.Date]] [] [] 0 (resP Nrr [.int .i64] Q):=by rw [<- Vrn_eq]; exact h
theorem prn (d:Dy)  : Vrn d (fun y0=>y0=numS d):=by
 unfold Vrn
 have ed:(Dy.mk d.Year d.Month d.Date)=d:=rfl
 rw [ed]
 refine ⟨fun h=>by unfold numS; rw [if_neg (fun hr=>h (rightB_iff.2 hr))],fun h=>?_⟩
 have hr:RightD d:=rightB_iff.1 (Classical.not_not.1 h)
 obtain ⟨y0,y1,m0,m1,d0,d1⟩:=hr.ym
 obtain ⟨a0,a1⟩:=ahead_rg (y:=d.Year) (by omega) (by omega)
 refine ⟨⟨y0,by omega⟩,⟨by omega,by omega⟩,fun x k=>1<=k/\k<=d.Month/\x=aheadS d.Year+d.Date+cumS d.Year k,fun _ k=>(13-k).toNat,⟨Int.le_refl 1,m0,by rw [cum_1]; omega⟩,?_⟩
 rintro x k ⟨k0,k1,hx⟩
 refine ⟨fun hk=>?_,fun hk=>?_⟩
 . have hc:=num_month (y:=d.Year) k0 (by omega) y0 y1 (by omega)
   obtain ⟨c0,c1⟩:=cum_rg d.Year k
   obtain ⟨c2,c3⟩:=cum_rg d.Year (k+1)
   exact ⟨⟨by omega,by omega⟩,⟨by omega,by omega⟩,⟨by omega,by omega,by omega⟩,by dsimp only; omega⟩
 . have e:k=d.Month:=by omega
   subst e
   unfold numS numD
   rw [if_pos hr]; omega
def crns (d:Dy):Q1 U:=⟨[],[],.int .i64 (numS d)⟩
def crn (a:List (SV U)):Option (Q1 U):=match a with | [.agg [.int .i64 d0,.int .i64 d1,.int .i64 d2]]=>some (crns (⟨d0,d1,d2⟩)) | _=>none
theorem crn_ok (args:List (SV U)) (q:Q1 U) (h:crn args=some q) (ho:allP q.ob):LendOK Nrr 39 args ⟨q.ob,q.hy,q.v,[]⟩:=by
 unfold crn at h
 split at h
 . rename_i d0 d1 d2
   cases h
   exact lend1 Nrr_ok (inlHN_ok Nrr_ok H0_ok anrn 2) Tryz.func39 (k:=.int .i64) (x:=numS (⟨d0,d1,d2⟩:Dy)) trivial (Vrn_ok (prn (⟨d0,d1,d2⟩) )) 0
 . cases h
noncomputable def Nrn:Env:=Nrr.addL 39 crn
theorem Nrn_ok:EnvOK Nrn:=Nrr_ok.addL Tryz.call39 crn_ok
end Go.Proofs.YtdjfeninmbpflaaGreat
end
section
namespace Go.Proofs.YtdjfeninmbpflaaGreat
open Go Go.Wk Go.Wl Go.Rx Go.Re 
attribute [local irreducible] vcFun
def anrd:Nat->Ann:=fun | 88=>⟨12,fun _=>none,fun _=>none⟩ | _=>⟨0,fun _=>none,fun _=>none⟩
def Vrd (d:Dy) (Q:Int->Prop):Prop :=
(¬rightB (Dy.mk d.Year d.Month d.Date)=true->Q (0:Int))/\(¬¬rightB (Dy.mk d.Year d.Month d.Date)=true->((1:Int)<=d.Year/\d.Year<=100000)/\in64 (numS (Dy.mk d.Year d.Month d.Date)-aheadS d.Year)/\Q (numS (Dy.mk d.Year d.Month d.Date)-aheadS d.Year))
theorem Vrd_eq {d:Dy} {Q:Int->Prop}:@Eq Prop (Vrd d Q) (vcFun (E:=Nrn) (inlHN Nrn H0 anrd 2) (anrd 88) Tryz.f88 [.agg [.int .i64 d.Year,.int .i64 d.Month,.int .i64 d.Date]] [] [] 0 (resP Nrn [.int .i64] Q)):=by kernel_rfl
theorem Vrd_ok {d:Dy} {Q:Int->Prop} (h:Vrd d Q):vcFun (E:=Nrn) (inlHN Nrn H0 anrd 2) (anrd 88) Tryz.f88 [.agg [.int .i64 d.Year,.int .i64 d.Month,.int .i64 d.Date]] [] [] 0 (resP Nrn [.int .i64] Q):=by rw [<- Vrd_eq]; exact h
theorem prd (d:Dy)  : Vrd d (fun y0=>y0=ydS d):=by
 unfold Vrd
 have ed:(Dy.mk d.Year d.Month d.Date)=d:=rfl
 rw [ed]
 refine ⟨fun h=>by unfold ydS; rw [if_neg (fun hr=>h (rightB_iff.2 hr))],fun h=>?_⟩
 have hr:RightD d:=rightB_iff.1 (Classical.not_not.1 h)
 obtain ⟨y0,y1,m0,m1,d0,d1⟩:=hr.ym
 obtain ⟨a0,a1⟩:=ahead_rg (y:=d.Year) (by omega) (by omega)
 obtain ⟨n0,n1⟩:=num_rg hr
 unfold ydS numS
 rw [if_pos hr,if_pos hr]
 exact ⟨⟨y0,by omega⟩,⟨by omega,by omega⟩,rfl⟩
def crds (d:Dy):Q1 U:=⟨[],[],.int .i64 (ydS d)⟩
def crd (a:List (SV U)):Option (Q1 U):=match a with | [.agg [.int .i64 d0,.int .i64 d1,.int .i64 d2]]=>some (crds (⟨d0,d1,d2⟩)) | _=>none
theorem crd_ok (args:List (SV U)) (q:Q1 U) (h:crd args=some q) (ho:allP q.ob):LendOK Nrn 88 args ⟨q.ob,q.hy,q.v,[]⟩:=by
 unfold crd at h
 split at h
 . rename_i d0 d1 d2
   cases h
   exact lend1 Nrn_ok (inlHN_ok Nrn_ok H0_ok anrd 2) Tryz.func88 (k:=.int .i64) (x:=ydS (⟨d0,d1,d2⟩:Dy)) trivial (Vrd_ok (prd (⟨d0,d1,d2⟩) )) 0
 . cases h
noncomputable def Nrd:Env:=Nrn.addL 88 crd
theorem Nrd_ok:EnvOK Nrd:=Nrn_ok.addL Tryz.call88 crd_ok
end Go.Proofs.YtdjfeninmbpflaaGreat
end
section
namespace Go.Proofs.YtdjfeninmbpflaaGreat
open Go Go.Wk Go.Wl Go.Rx Go.Re 
attribute [local irreducible] vcFun
def anrf:Nat->Ann:=fun | 109=>⟨8,fun _=>none,fun _=>none⟩ | _=>⟨0,fun _=>none,fun _=>none⟩
def Vrf (y:Int) (Q:Int->Prop):Prop :=
(y=0->Q (-365:Int))/\(¬y=0->(1:Int)<=y/\y<=100000/\in64 (aheadS y+1)/\Q (aheadS y+1))
theorem Vrf_eq {y:Int} {Q:Int->Prop}:@Eq Prop (Vrf y Q) (vcFun (E:=Nrd) (inlHN Nrd H0 anrf 2) (anrf 109) Tryz.f109 [.int .i64 y] [] [] 0 (resP Nrd [.int .i64] Q)):=by kernel_rfl
theorem Vrf_ok {y:Int} {Q:Int->Prop} (h:Vrf y Q):vcFun (E:=Nrd) (inlHN Nrd H0 anrf 2) (anrf 109) Tryz.f109 [.int .i64 y] [] [] 0 (resP Nrd [.int .i64] Q):=by rw [<- Vrf_eq]; exact h
theorem prf (y:Int) (y0:0<=y) (y1:y<=10000):Vrf y (fun y0=>y0=aheadS y+1):=by
 unfold Vrf
 obtain ⟨a0,a1⟩:=ahead_rg y0 y1
 refine ⟨fun h=>by subst h; decide,fun h=>⟨by omega,by omega,⟨by omega,by omega⟩,rfl⟩⟩
def crf (a:List (SV U)):Option (Q1 U):=match a with | [.int .i64 y]=>some ⟨[0<=y,y<=10000],[],.int .i64 (aheadS y+1)⟩ | _=>none
theorem crf_ok (args:List (SV U)) (q:Q1 U) (h:crf args=some q) (ho:allP q.ob):LendOK Nrd 109 args ⟨q.ob,q.hy,q.v,[]⟩:=by
 unfold crf at h
 split at h
 . rename_i y
   cases h
   exact lend1 Nrd_ok (inlHN_ok Nrd_ok H0_ok anrf 2) Tryz.func109 (k:=.int .i64) (x:=aheadS y+1) trivial (Vrf_ok (prf y ho.1 ho.2.1)) 0
 . cases h
noncomputable def Nrf:Env:=Nrd.addL 109 crf
theorem Nrf_ok:EnvOK Nrf:=Nrd_ok.addL Tryz.call109 crf_ok
end Go.Proofs.YtdjfeninmbpflaaGreat
end
section
namespace Go.Proofs.YtdjfeninmbpflaaGreat
open Go Go.Wk Go.Wl Go.Rx Go.Re 
attribute [local irreducible] vcFun
def anro:Nat->Ann:=fun | 43=>⟨49,fun | 7=>some ⟨[2,3,4],[.own 4 [(.int .i64),(.int .i64),(.int .i64)]]⟩ | 4=>some ⟨[0,2],[.slot 3 (.int .i64)]⟩ | _=>none,fun _=>none⟩ | _=>⟨0,fun _=>none,fun _=>none⟩
def Vro (n:Int) (Q:Dy->Prop):Prop :=
(n<1 ∨ (3652059:Int)<n->Q (Dy.mk (0:Int) (0:Int) (0:Int)))/\(¬(n<1 ∨ (3652059:Int)<n)->in64 (n-1)/\(366:Int)≠0/\in64 ((n-1).tdiv (366:Int))/\in64 ((1:Int)+(n-1).tdiv (366:Int))/\∃ (I:Int->Prop),∃ (m:Int->Nat),I ((1:Int)+(n-1).tdiv (366:Int))/\∀ (x:Int),I x->in64 (x+1)/\(1:Int)<=x+1/\x+1<=100000/\(aheadS (x+1)<n->in64 (x+1)/\I (x+1)/\m (x+1)<m x)/\(¬aheadS (x+1)<n->(1:Int)<=x/\x<=100000/\in64 (n-aheadS x)/\∃ (I:Int->Int->Int->Prop),∃ (m:Int->Int->Int->Nat),I x (1:Int) (n-aheadS x)/\∀ (x_1 x_2 x_3:Int),I x_1 x_2 x_3->(longS x x_2<x_3->in64 (x_3-longS x x_2)/\in64 (x_2+1)/\I x_1 (x_2+1) (x_3-longS x x_2)/\m x_1 (x_2+1) (x_3-longS x x_2)<m x_1 x_2 x_3)/\(¬longS x x_2<x_3->Q (Dy.mk x_1 x_2 x_3))))
theorem Vro_eq {n:Int} {Q:Dy->Prop}:@Eq Prop (Vro n Q) (vcFun (E:=Nrf) (inlHN Nrf H0 anro 2) (anro 43) Tryz.f43 [.int .i64 n] [] [] 0 (resP Nrf [.val 23] Q)):=by kernel_rfl
theorem Vro_ok {n:Int} {Q:Dy->Prop} (h:Vro n Q):vcFun (E:=Nrf) (inlHN Nrf H0 anro 2) (anro 43) Tryz.f43 [.int .i64 n] [] [] 0 (resP Nrf [.val 23] Q):=by rw [<- Vro_eq]; exact h
set_option maxHeartbeats 2000000 in
theorem pro (n:Int)  : Vro n (fun y0=>y0=ofS n):=by
 unfold Vro
 refine ⟨fun h=>by unfold ofS; rw [if_pos h],fun h=>?_⟩
 have t:(n-1).tdiv 366=(n-1) / 366:=Int.tdiv_eq_ediv_of_nonneg (by omega)
 rw [t]
 have h366:=ahead_366 (y:=1+(n-1) / 366) (by omega)
 refine ⟨⟨by omega,by omega⟩,by decide,⟨by omega,by omega⟩,⟨by omega,by omega⟩,fun y=>1<=y/\y<=9999/\aheadS y<n,fun y=>(10000-y).toNat,⟨by omega,by omega,by omega⟩,?_⟩
 rintro y ⟨y0,y1,hy⟩
 obtain ⟨a0,a1⟩:=ahead_rg (y:=y) (by omega) (by omega)
 have e4:aheadS 10000=3652059:=by decide
 refine ⟨⟨by omega,by omega⟩,by omega,by omega,fun h2=>⟨⟨by omega,by omega⟩,⟨by omega,?_,h2⟩,by dsimp only; omega⟩,fun h2=>⟨y0,by omega,⟨by omega,by omega⟩,fun y' m t=>y'=y/\1<=m/\m<=12/\t=n-aheadS y-cumS y m/\1<=t,fun _ m _=>(13-m).toNat,⟨rfl,Int.le_refl 1,by decide,by rw [cum_1]; omega,by omega⟩,?_⟩⟩
 . by_cases e:y=9999
   . subst e
     have e5:aheadS (9999+1)=3652059:=by decide
     omega
   . omega
 rintro y' m t ⟨rfl,m0,m1,ht,t0⟩
 have hs:=year_sum y'
 have hg:=long_ge y0 y1 m0 m1
 obtain ⟨c0,c1⟩:=cum_rg y' m
 refine ⟨fun h3=>?_,fun h3=>?_⟩
 . by_cases e:m=12
   . subst e
     rcases long_cum y0 y1 m0 m1 with e2 | ⟨_,e2⟩
     . unfold cumS at e2; simp at e2; omega
     . omega
   . have hc:=num_month (y:=y') m0 (by omega) y0 y1 (by omega)
     exact ⟨⟨by omega,by omega⟩,⟨by omega,by omega⟩,⟨rfl,by omega,by omega,by omega,by omega⟩,by dsimp only; omega⟩
 . refine of_eq (d:=⟨y',m,t⟩) ⟨t0,show t<=longS y' m by omega⟩ ?_ (by omega) (by omega)
   show aheadS y'+cumS y' m+t=n
   omega
def cro (a:List (SV U)):Option (Q1 U):=match a with | [.int .i64 n]=>some ⟨[],[],.agg [.int .i64 (ofS n).Year,.int .i64 (ofS n).Month,.int .i64 (ofS n).Date]⟩ | _=>none
theorem cro_ok (args:List (SV U)) (q:Q1 U) (h:cro args=some q) (ho:allP q.ob):LendOK Nrf 43 args ⟨q.ob,q.hy,q.v,[]⟩:=by
 unfold cro at h
 split at h
 . rename_i n
   cases h
   exact lend1 Nrf_ok (inlHN_ok Nrf_ok H0_ok anro 2) Tryz.func43 (k:=.val 23) (x:=ofS n) ⟨_,_,rfl,rfl,rfl⟩ (Vro_ok (pro n )) 0
 . cases h
noncomputable def Nro:Env:=Nrf.addL 43 cro
theorem Nro_ok:EnvOK Nro:=Nrf_ok.addL Tryz.call43 cro_ok
end Go.Proofs.YtdjfeninmbpflaaGreat
end
section
namespace Go.Proofs.YtdjfeninmbpflaaGreat
open Go Go.Wk Go.Wl Go.Rx Go.Re 
noncomputable def NI108:Env:=Nro.addI 108 Tryz.f108
theorem NI108_ok:EnvOK NI108:=Nro_ok.addI Tryz.call108 Tryz.func108
end Go.Proofs.YtdjfeninmbpflaaGreat
end
section
namespace Go.Proofs.YtdjfeninmbpflaaGreat
open Go Go.Wk Go.Wl Go.Rx Go.Re 
attribute [local irreducible] vcFun
def anrk:Nat->Ann:=fun | 89=>⟨48,fun _=>none,fun _=>none⟩ | 108=>⟨14,fun _=>none,fun _=>none⟩ | _=>⟨0,fun _=>none,fun _=>none⟩
def Vrk (n:Int) (f:Int) (Q:Int->Int->Prop):Prop :=
(((n<1 ∨ (3652059:Int)<n) ∨ f<0) ∨ (6:Int)<f->Q (0:Int) (0:Int))/\(¬(((n<1 ∨ (3652059:Int)<n) ∨ f<0) ∨ (6:Int)<f)->in64 (wdS n-f)/\in64 (wdS n-f+7)/\(7:Int)≠0/\in64 (n-(wdS n-f+7).tmod (7:Int))/\in64 (n-(wdS n-f+7).tmod (7:Int)+3)/\(0:Int)<=(ofS n).Year/\(ofS n).Year<=10000/\(n-(wdS n-f+7).tmod (7:Int)+3<aheadS (ofS n).Year+1->in64 ((ofS n).Year-1)/\in64 ((ofS n).Year-1+1)/\(0:Int)<=(ofS n).Year-1+1/\(ofS n).Year-1+1<=10000/\(aheadS ((ofS n).Year-1+1)+1<=n-(wdS n-f+7).tmod (7:Int)+3->in64 ((ofS n).Year-1+1)/\(0:Int)<=(ofS n).Year-1+1/\(ofS n).Year-1+1<=10000/\in64 (n-(wdS n-f+7).tmod (7:Int)+3-(aheadS ((ofS n).Year-1+1)+1))/\(7:Int)≠0/\in64 ((n-(wdS n-f+7).tmod (7:Int)+3-(aheadS ((ofS n).Year-1+1)+1)).tdiv (7:Int))/\in64 ((n-(wdS n-f+7).tmod (7:Int)+3-(aheadS ((ofS n).Year-1+1)+1)).tdiv (7:Int)+1)/\Q ((ofS n).Year-1+1) ((n-(wdS n-f+7).tmod (7:Int)+3-(aheadS ((ofS n).Year-1+1)+1)).tdiv (7:Int)+1))/\(¬aheadS ((ofS n).Year-1+1)+1<=n-(wdS n-f+7).tmod (7:Int)+3->(0:Int)<=(ofS n).Year-1/\(ofS n).Year-1<=10000/\in64 (n-(wdS n-f+7).tmod (7:Int)+3-(aheadS ((ofS n).Year-1)+1))/\(7:Int)≠0/\in64 ((n-(wdS n-f+7).tmod (7:Int)+3-(aheadS ((ofS n).Year-1)+1)).tdiv (7:Int))/\in64 ((n-(wdS n-f+7).tmod (7:Int)+3-(aheadS ((ofS n).Year-1)+1)).tdiv (7:Int)+1)/\Q ((ofS n).Year-1) ((n-(wdS n-f+7).tmod (7:Int)+3-(aheadS ((ofS n).Year-1)+1)).tdiv (7:Int)+1)))/\(¬n-(wdS n-f+7).tmod (7:Int)+3<aheadS (ofS n).Year+1->in64 ((ofS n).Year+1)/\(0:Int)<=(ofS n).Year+1/\(ofS n).Year+1<=10000/\(aheadS ((ofS n).Year+1)+1<=n-(wdS n-f+7).tmod (7:Int)+3->in64 ((ofS n).Year+1)/\(0:Int)<=(ofS n).Year+1/\(ofS n).Year+1<=10000/\in64 (n-(wdS n-f+7).tmod (7:Int)+3-(aheadS ((ofS n).Year+1)+1))/\(7:Int)≠0/\in64 ((n-(wdS n-f+7).tmod (7:Int)+3-(aheadS ((ofS n).Year+1)+1)).tdiv (7:Int))/\in64 ((n-(wdS n-f+7).tmod (7:Int)+3-(aheadS ((ofS n).Year+1)+1)).tdiv (7:Int)+1)/\Q ((ofS n).Year+1) ((n-(wdS n-f+7).tmod (7:Int)+3-(aheadS ((ofS n).Year+1)+1)).tdiv (7:Int)+1))/\(¬aheadS ((ofS n).Year+1)+1<=n-(wdS n-f+7).tmod (7:Int)+3->(0:Int)<=(ofS n).Year/\(ofS n).Year<=10000/\in64 (n-(wdS n-f+7).tmod (7:Int)+3-(aheadS (ofS n).Year+1))/\(7:Int)≠0/\in64 ((n-(wdS n-f+7).tmod (7:Int)+3-(aheadS (ofS n).Year+1)).tdiv (7:Int))/\in64 ((n-(wdS n-f+7).tmod (7:Int)+3-(aheadS (ofS n).Year+1)).tdiv (7:Int)+1)/\Q (ofS n).Year ((n-(wdS n-f+7).tmod (7:Int)+3-(aheadS (ofS n).Year+1)).tdiv (7:Int)+1))))
theorem Vrk_eq {n:Int} {f:Int} {Q:Int->Int->Prop}:@Eq Prop (Vrk n f Q) (vcFun (E:=NI108) (inlHN NI108 H0 anrk 2) (anrk 89) Tryz.f89 [.int .i64 n,.int .i64 f] [] [] 0 (resP NI108 [.int .i64,.int .i64] Q)):=by kernel_rfl
theorem Vrk_ok {n:Int} {f:Int} {Q:Int->Int->Prop} (h:Vrk n f Q):vcFun (E:=NI108) (inlHN NI108 H0 anrk 2) (anrk 89) Tryz.f89 [.int .i64 n,.int .i64 f] [] [] 0 (resP NI108 [.int .i64,.int .i64] Q):=by rw [<- Vrk_eq]; exact h
set_option maxHeartbeats 2000000 in
theorem prk (n:Int) (f:Int)  : Vrk n f (fun y0 y1=>y0=(weekS n f).1/\y1=(weekS n f).2):=by
 unfold Vrk weekS
 refine ⟨fun h=>by rw [if_pos h]; exact ⟨rfl,rfl⟩,fun h=>?_⟩
 rw [if_neg h]
 obtain ⟨hr,hn⟩:=of_ok (n:=n) (by omega) (by omega)
 obtain ⟨y0,y1,_⟩:=hr.ym
 have hi:=num_in hr
 rw [hn] at hi
 unfold wkY
 generalize (ofS n).Year=y at *
 have f0:0<=f:=by omega
 have f1:f<=6:=by omega
 obtain ⟨u1,v1⟩:=week_al n (y+1) f0 f1
 obtain ⟨u2,v2⟩:=week_al n y f0 f1
 obtain ⟨u3,v3⟩:=week_al n (y-1) f0 f1
 obtain ⟨q0,q1⟩:=beg_rg (y+1) f
 obtain ⟨q2,q3⟩:=beg_rg y f
 obtain ⟨q4,q5⟩:=beg_rg (y-1) f
 obtain ⟨r0,r1⟩:=ahead_rg (y:=y+1) (by omega) (by omega)
 obtain ⟨r2,r3⟩:=ahead_rg (y:=y) (by omega) (by omega)
 obtain ⟨r4,r5⟩:=ahead_rg (y:=y-1) (by omega) (by omega)
 have hs:=ahead_step (y-1)
 have hs3:=ahead_step y
 have ey:y-1+1=y:=by omega
 rw [ey] at hs ⊢
 have hs2:aheadS (y-1)+365<=aheadS y:=by split at hs <;> omega
 have hs4:aheadS y+365<=aheadS (y+1):=by split at hs3 <;> omega
 have w0:0<=wdS n/\wdS n<=6:=by unfold wdS; omega
 have tt:(wdS n-f+7).tmod 7=(wdS n-f+7) % 7:=Int.tmod_eq_emod_of_nonneg (by omega)
 rw [tt]
 have hm:0<=(wdS n-f+7) % 7/\(wdS n-f+7) % 7<=6:=by omega
 generalize (wdS n-f+7) % 7=r at *
 refine ⟨⟨by omega,by omega⟩,⟨by omega,by omega⟩,by decide,⟨by omega,by omega⟩,⟨by omega,by omega⟩,by omega,by omega,fun h1=>?_,fun h1=>?_⟩
 . refine ⟨⟨by omega,by omega⟩,⟨by omega,by omega⟩,by omega,by omega,fun h2=>absurd h2 (by omega),fun _=>?_⟩
   have c1:¬ begS (y+1) f<=n:=by omega
   have c2:n<begS y f:=by omega
   have c3:begS (y-1) f<=n:=by omega
   have t:(n-r+3-(aheadS (y-1)+1)).tdiv 7=(n-r+3-(aheadS (y-1)+1)) / 7:=Int.tdiv_eq_ediv_of_nonneg (by omega)
   rw [if_neg c1,if_pos c2,t,v3 c3]
   exact ⟨by omega,by omega,⟨by omega,by omega⟩,by decide,⟨by omega,by omega⟩,⟨by omega,by omega⟩,rfl,rfl⟩
 . refine ⟨⟨by omega,by omega⟩,by omega,by omega,fun h2=>?_,fun h2=>?_⟩
   . have c1:begS (y+1) f<=n:=by omega
     have t:(n-r+3-(aheadS (y+1)+1)).tdiv 7=(n-r+3-(aheadS (y+1)+1)) / 7:=Int.tdiv_eq_ediv_of_nonneg (by omega)
     rw [if_pos c1,t,v1 c1]
     exact ⟨⟨by omega,by omega⟩,by omega,by omega,⟨by omega,by omega⟩,by decide,⟨by omega,by omega⟩,⟨by omega,by omega⟩,rfl,rfl⟩
   . have c1:¬ begS (y+1) f<=n:=by omega
     have c2:¬ n<begS y f:=by omega
     have t:(n-r+3-(aheadS y+1)).tdiv 7=(n-r+3-(aheadS y+1)) / 7:=Int.tdiv_eq_ediv_of_nonneg (by omega)
     rw [if_neg c1,if_neg c2,t,v2 (by omega)]
     exact ⟨by omega,by omega,⟨by omega,by omega⟩,by decide,⟨by omega,by omega⟩,⟨by omega,by omega⟩,rfl,rfl⟩
def crk (a:List (SV U)):Option (Q1 U):=match a with | [.int .i64 n,.int .i64 f]=>some ⟨[],[],.tup [.int .i64 ((weekS n f).1),.int .i64 ((weekS n f).2)]⟩ | _=>none
theorem crk_ok (args:List (SV U)) (q:Q1 U) (h:crk args=some q) (ho:allP q.ob):LendOK NI108 89 args ⟨q.ob,q.hy,q.v,[]⟩:=by
 unfold crk at h
 split at h
 . rename_i n f
   cases h
   exact lend2 NI108_ok (inlHN_ok NI108_ok H0_ok anrk 2) Tryz.func89 (k1:=.int .i64) (k2:=.int .i64) (x1:=(weekS n f).1) (x2:=(weekS n f).2) trivial trivial (Vrk_ok (prk n f )) 0
 . cases h
noncomputable def Nrk:Env:=NI108.addL 89 crk
theorem Nrk_ok:EnvOK Nrk:=NI108_ok.addL Tryz.call89 crk_ok
end Go.Proofs.YtdjfeninmbpflaaGreat
end
section
namespace Go.Proofs.YtdjfeninmbpflaaGreat
open Go Go.Wk Go.Wl Go.Rx Go.Re 
attribute [local irreducible] vcFun
def anrm:Nat->Ann:=fun | 90=>⟨40,fun | 5=>some ⟨[0,1],[.slot 5 (.int .i64),.slot 6 (.int .i64)]⟩ | _=>none,fun _=>none⟩ | _=>⟨0,fun _=>none,fun _=>none⟩
def Vrm (y:Int) (f:Int) (Q:Int->Prop):Prop :=
(((y<1 ∨ (9999:Int)<y) ∨ f<0) ∨ (6:Int)<f->Q (0:Int))/\(¬(((y<1 ∨ (9999:Int)<y) ∨ f<0) ∨ (6:Int)<f)->(0:Int)<=y/\y<=10000/\∃ (I:Int->Int->Prop),∃ (m:Int->Int->Nat),I (0:Int) (aheadS y+1)/\∀ (x x_1:Int),I x x_1->in64 (y+1)/\(0:Int)<=y+1/\y+1<=10000/\(x_1<aheadS (y+1)+1->in64 (wdS x_1-f)/\in64 (wdS x_1-f+7)/\(7:Int)≠0/\((wdS x_1-f+7).tmod (7:Int)=3->in64 (x+1)/\in64 (x_1+1)/\I (x+1) (x_1+1)/\m (x+1) (x_1+1)<m x x_1)/\(¬(wdS x_1-f+7).tmod (7:Int)=3->in64 (x_1+1)/\I x (x_1+1)/\m x (x_1+1)<m x x_1))/\(¬x_1<aheadS (y+1)+1->Q x))
theorem Vrm_eq {y:Int} {f:Int} {Q:Int->Prop}:@Eq Prop (Vrm y f Q) (vcFun (E:=Nrk) (inlHN Nrk H0 anrm 2) (anrm 90) Tryz.f90 [.int .i64 y,.int .i64 f] [] [] 0 (resP Nrk [.int .i64] Q)):=by kernel_rfl
theorem Vrm_ok {y:Int} {f:Int} {Q:Int->Prop} (h:Vrm y f Q):vcFun (E:=Nrk) (inlHN Nrk H0 anrm 2) (anrm 90) Tryz.f90 [.int .i64 y,.int .i64 f] [] [] 0 (resP Nrk [.int .i64] Q):=by rw [<- Vrm_eq]; exact h
set_option maxHeartbeats 2000000 in
theorem prm (y:Int) (f:Int)  : Vrm y f (fun y0=>y0=weeksS y f):=by
 unfold Vrm weeksS
 refine ⟨fun h=>by rw [if_pos h],fun h=>?_⟩
 rw [if_neg h]
 have f0:0<=f:=by omega
 have f1:f<=6:=by omega
 obtain ⟨r0,r1⟩:=ahead_rg (y:=y+1) (by omega) (by omega)
 obtain ⟨r2,r3⟩:=ahead_rg (y:=y) (by omega) (by omega)
 obtain ⟨q2,q3⟩:=beg_rg y f
 obtain ⟨e1,e2⟩:=weeks_end y f0 f1
 have hm:=ahead_mono (show y<=y+1 by omega)
 refine ⟨by omega,by omega,fun c x=>aheadS y+1<=x/\x<=aheadS (y+1)+1/\c=(x-begS y f+3) / 7,fun _ x=>(aheadS (y+1)+1-x).toNat,⟨Int.le_refl _,by omega,e2.symm⟩,?_⟩
 rintro c x ⟨x0,x1,hc⟩
 have hs:=weeks_step y x f0 f1
 have w0:0<=wdS x/\wdS x<=6:=by unfold wdS; omega
 have tt:(wdS x-f+7).tmod 7=(wdS x-f+7) % 7:=Int.tmod_eq_emod_of_nonneg (by omega)
 rw [tt]
 refine ⟨⟨by omega,by omega⟩,by omega,by omega,fun hx=>⟨⟨by omega,by omega⟩,⟨by omega,by omega⟩,by decide,fun h3=>?_,fun h3=>?_⟩,fun hx=>?_⟩
 . rw [if_pos h3] at hs
   exact ⟨⟨by omega,by omega⟩,⟨by omega,by omega⟩,⟨by omega,by omega,by omega⟩,by dsimp only; omega⟩
 . rw [if_neg h3] at hs
   exact ⟨⟨by omega,by omega⟩,⟨by omega,by omega,by omega⟩,by dsimp only; omega⟩
 . have e:x=aheadS (y+1)+1:=by omega
   rw [hc,e,e1]
def crm (a:List (SV U)):Option (Q1 U):=match a with | [.int .i64 y,.int .i64 f]=>some ⟨[],[],.int .i64 (weeksS y f)⟩ | _=>none
theorem crm_ok (args:List (SV U)) (q:Q1 U) (h:crm args=some q) (ho:allP q.ob):LendOK Nrk 90 args ⟨q.ob,q.hy,q.v,[]⟩:=by
 unfold crm at h
 split at h
 . rename_i y f
   cases h
   exact lend1 Nrk_ok (inlHN_ok Nrk_ok H0_ok anrm 2) Tryz.func90 (k:=.int .i64) (x:=weeksS y f) trivial (Vrm_ok (prm y f )) 0
 . cases h
noncomputable def Nrm:Env:=Nrk.addL 90 crm
theorem Nrm_ok:EnvOK Nrm:=Nrk_ok.addL Tryz.call90 crm_ok
end Go.Proofs.YtdjfeninmbpflaaGreat
end
section
namespace Go.Proofs.YtdjfeninmbpflaaGreat
open Go Go.Wk Go.Wl Go.Rx Go.Re 
noncomputable def NI41:Env:=Nrm.addI 41 Tryz.f41
theorem NI41_ok:EnvOK NI41:=Nrm_ok.addI Tryz.call41 Tryz.func41
end Go.Proofs.YtdjfeninmbpflaaGreat
end
section
namespace Go.Proofs.YtdjfeninmbpflaaGreat
open Go Go.Wk Go.Wl Go.Rx Go.Re 
attribute [local irreducible] vcFun
def antr:Nat->Ann:=fun | 19=>⟨50,fun _=>none,fun _=>none⟩ | 41=>⟨12,fun _=>none,fun _=>none⟩ | _=>⟨0,fun _=>none,fun _=>none⟩
def Vtr (t:Tm) (Q:Bool->Prop):Prop :=
((0:Int)<=t.Hour/\t.Hour<=23->((0:Int)<=t.Min/\t.Min<=59->Q (decide ((rightB (Dy.mk t.Day.Year t.Day.Month t.Day.Date)=true/\(0:Int)<=t.Sec/\t.Sec<=59)/\(¬t.Bare=true ∨ ((t.Hour=0/\t.Min=0)/\t.Sec=0)/\¬t.UTC=true))))/\(¬((0:Int)<=t.Min/\t.Min<=59)->Q (decide ((rightB (Dy.mk t.Day.Year t.Day.Month t.Day.Date)=true/\False)/\(¬t.Bare=true ∨ ((t.Hour=0/\t.Min=0)/\t.Sec=0)/\¬t.UTC=true)))))/\(¬((0:Int)<=t.Hour/\t.Hour<=23)->Q (decide ((rightB (Dy.mk t.Day.Year t.Day.Month t.Day.Date)=true/\False)/\(¬t.Bare=true ∨ ((t.Hour=0/\t.Min=0)/\t.Sec=0)/\¬t.UTC=true))))
theorem Vtr_eq {t:Tm} {Q:Bool->Prop}:@Eq Prop (Vtr t Q) (vcFun (E:=NI41) (inlHN NI41 H0 antr 2) (antr 19) Tryz.f19 [.agg [.int .i64 t.Day.Year,.int .i64 t.Day.Month,.int .i64 t.Day.Date,.int .i64 t.Hour,.int .i64 t.Min,.int .i64 t.Sec,blB t.Bare,blB t.UTC]] [] [] 0 (resP NI41 [.bool] Q)):=by kernel_rfl
theorem Vtr_ok {t:Tm} {Q:Bool->Prop} (h:Vtr t Q):vcFun (E:=NI41) (inlHN NI41 H0 antr 2) (antr 19) Tryz.f19 [.agg [.int .i64 t.Day.Year,.int .i64 t.Day.Month,.int .i64 t.Day.Date,.int .i64 t.Hour,.int .i64 t.Min,.int .i64 t.Sec,blB t.Bare,blB t.UTC]] [] [] 0 (resP NI41 [.bool] Q):=by rw [<- Vtr_eq]; exact h
theorem ptr (t:Tm)  : Vtr t (fun y0=>y0=rightT t):=by
 unfold Vtr
 have e:(Dy.mk t.Day.Year t.Day.Month t.Day.Date)=t.Day:=rfl
 rw [e]
 have hb:(¬t.Bare=true ∨ ((t.Hour=0/\t.Min=0)/\t.Sec=0)/\¬t.UTC=true)↔¬ (t.Bare=true/\(((t.Hour≠0 ∨ t.Min≠0) ∨ t.Sec≠0) ∨ t.UTC=true)):=by
  by_cases b1:t.Bare=true <;> by_cases b2:t.UTC=true <;> simp [b1,b2] <;> omega
 refine ⟨fun hh=>⟨fun hm=>decide_eq_decide.2 ?_,fun hm=>decide_eq_decide.2 ?_⟩,fun hh=>decide_eq_decide.2 ?_⟩
 . rw [hb,rightB_iff]
   exact ⟨fun h=>⟨h.1.1,hh,hm,h.1.2,h.2⟩,fun h=>⟨⟨h.1,h.2.2.2.1⟩,h.2.2.2.2⟩⟩
 . exact ⟨fun h=>h.1.2.elim,fun h=>absurd h.2.2.1 hm⟩
 . exact ⟨fun h=>h.1.2.elim,fun h=>absurd h.2.1 hh⟩
noncomputable def ctrs (t:Tm):Q1 U:=⟨[],[],blB (rightT t)⟩
noncomputable def ctr (a:List (SV U)):Option (Q1 U):=match a with | [.agg l_t]=>(y25.bk (.agg l_t)).bind fun t=>some (ctrs t) | _=>none
theorem ctr_ok (args:List (SV U)) (q:Q1 U) (h:ctr args=some q) (ho:allP q.ob):LendOK NI41 19 args ⟨q.ob,q.hy,q.v,[]⟩:=by
 unfold ctr at h
 split at h
 . rename_i l_t
   obtain ⟨t,hb_t,h⟩:=Option.bind_eq_some_iff.1 h
   cases h
   refine LendOK.conv (E:=NI41) (args':=[.agg [.int .i64 t.Day.Year,.int .i64 t.Day.Month,.int .i64 t.Day.Date,.int .i64 t.Hour,.int .i64 t.Min,.int .i64 t.Sec,blB t.Bare,blB t.UTC]]) (lend1 NI41_ok (inlHN_ok NI41_ok H0_ok antr 2) Tryz.func19 (k:=.bool) trivial (Vtr_ok (ptr t )) 0) fun D w vs hr=>tup_conv [.agg l_t] [.agg [.int .i64 t.Day.Year,.int .i64 t.Day.Month,.int .i64 t.Day.Date,.int .i64 t.Hour,.int .i64 t.Min,.int .i64 t.Sec,blB t.Bare,blB t.UTC]] _ ⟨fun _ h=>agg_conv25 hb_t h,trivial⟩ hr
 . cases h
noncomputable def Ntr:Env:=NI41.addL 19 ctr
theorem Ntr_ok:EnvOK Ntr:=NI41_ok.addL Tryz.call19 ctr_ok
end Go.Proofs.YtdjfeninmbpflaaGreat
end
section
namespace Go.Proofs.YtdjfeninmbpflaaGreat
open Go Go.Wk Go.Wl Go.Rx Go.Re 
attribute [local irreducible] vcFun
def ants:Nat->Ann:=fun | 17=>⟨22,fun _=>none,fun _=>none⟩ | _=>⟨0,fun _=>none,fun _=>none⟩
def Vts (t:Tm) (Q:Int->Prop):Prop :=
(¬rightT (Tm.mk (Dy.mk t.Day.Year t.Day.Month t.Day.Date) t.Hour t.Min t.Sec (decide (t.Bare=true)) (decide (t.UTC=true)))=true->Q (-1:Int))/\(¬¬rightT (Tm.mk (Dy.mk t.Day.Year t.Day.Month t.Day.Date) t.Hour t.Min t.Sec (decide (t.Bare=true)) (decide (t.UTC=true)))=true->in64 (numS (Dy.mk t.Day.Year t.Day.Month t.Day.Date)-1)/\in64 ((86400:Int) * (numS (Dy.mk t.Day.Year t.Day.Month t.Day.Date)-1))/\in64 ((3600:Int) * t.Hour)/\in64 ((86400:Int) * (numS (Dy.mk t.Day.Year t.Day.Month t.Day.Date)-1)+3600 * t.Hour)/\in64 ((60:Int) * t.Min)/\in64 ((86400:Int) * (numS (Dy.mk t.Day.Year t.Day.Month t.Day.Date)-1)+3600 * t.Hour+60 * t.Min)/\in64 ((86400:Int) * (numS (Dy.mk t.Day.Year t.Day.Month t.Day.Date)-1)+3600 * t.Hour+60 * t.Min+t.Sec)/\Q ((86400:Int) * (numS (Dy.mk t.Day.Year t.Day.Month t.Day.Date)-1)+3600 * t.Hour+60 * t.Min+t.Sec))
theorem Vts_eq {t:Tm} {Q:Int->Prop}:@Eq Prop (Vts t Q) (vcFun (E:=Ntr) (inlHN Ntr H0 ants 2) (ants 17) Tryz.f17 [.agg [.int .i64 t.Day.Year,.int .i64 t.Day.Month,.int .i64 t.Day.Date,.int .i64 t.Hour,.int .i64 t.Min,.int .i64 t.Sec,blB t.Bare,blB t.UTC]] [] [] 0 (resP Ntr [.int .i64] Q)):=by kernel_rfl
theorem Vts_ok {t:Tm} {Q:Int->Prop} (h:Vts t Q):vcFun (E:=Ntr) (inlHN Ntr H0 ants 2) (ants 17) Tryz.f17 [.agg [.int .i64 t.Day.Year,.int .i64 t.Day.Month,.int .i64 t.Day.Date,.int .i64 t.Hour,.int .i64 t.Min,.int .i64 t.Sec,blB t.Bare,blB t.UTC]] [] [] 0 (resP Ntr [.int .i64] Q):=by rw [<- Vts_eq]; exact h
theorem pts (t:Tm)  : Vts t (fun y0=>y0=secsT t):=by
 unfold Vts secsT
 simp only [Bool.decide_eq_true]
 refine ⟨fun h=>by rw [if_neg (fun hr=>h (rightT_iff.2 hr))],fun h=>?_⟩
 have hr:RightT t:=rightT_iff.1 (Classical.not_not.1 h)
 have hrg:=secsN_rg hr
 rw [if_pos hr]
 obtain ⟨hd,hh,hm,hs,_⟩:=hr
 obtain ⟨n0,n1⟩:=num_rg hd
 have en:numS (Dy.mk t.Day.Year t.Day.Month t.Day.Date)=numD t.Day:=by
  show numS t.Day=numD t.Day
  unfold numS; rw [if_pos hd]
 rw [en]
 unfold secsN at *
 exact ⟨⟨by omega,by omega⟩,⟨by omega,by omega⟩,⟨by omega,by omega⟩,⟨by omega,by omega⟩,⟨by omega,by omega⟩,⟨by omega,by omega⟩,⟨by omega,by omega⟩,by omega⟩
noncomputable def ctss (t:Tm):Q1 U:=⟨[],[],.int .i64 (secsT t)⟩
noncomputable def cts (a:List (SV U)):Option (Q1 U):=match a with | [.agg l_t]=>(y25.bk (.agg l_t)).bind fun t=>some (ctss t) | _=>none
theorem cts_ok (args:List (SV U)) (q:Q1 U) (h:cts args=some q) (ho:allP q.ob):LendOK Ntr 17 args ⟨q.ob,q.hy,q.v,[]⟩:=by
 unfold cts at h
 split at h
 . rename_i l_t
   obtain ⟨t,hb_t,h⟩:=Option.bind_eq_some_iff.1 h
   cases h
   refine LendOK.conv (E:=Ntr) (args':=[.agg [.int .i64 t.Day.Year,.int .i64 t.Day.Month,.int .i64 t.Day.Date,.int .i64 t.Hour,.int .i64 t.Min,.int .i64 t.Sec,blB t.Bare,blB t.UTC]]) (lend1 Ntr_ok (inlHN_ok Ntr_ok H0_ok ants 2) Tryz.func17 (k:=.int .i64) trivial (Vts_ok (pts t )) 0) fun D w vs hr=>tup_conv [.agg l_t] [.agg [.int .i64 t.Day.Year,.int .i64 t.Day.Month,.int .i64 t.Day.Date,.int .i64 t.Hour,.int .i64 t.Min,.int .i64 t.Sec,blB t.Bare,blB t.UTC]] _ ⟨fun _ h=>agg_conv25 hb_t h,trivial⟩ hr
 . cases h
noncomputable def Nts:Env:=Ntr.addL 17 cts
theorem Nts_ok:EnvOK Nts:=Ntr_ok.addL Tryz.call17 cts_ok
end Go.Proofs.YtdjfeninmbpflaaGreat
end
section
namespace Go.Proofs.YtdjfeninmbpflaaGreat
open Go Go.Wk Go.Wl Go.Rx Go.Re 
attribute [local irreducible] vcFun
def anta:Nat->Ann:=fun | 20=>⟨35,fun _=>none,fun _=>none⟩ | _=>⟨0,fun _=>none,fun _=>none⟩
def Vta (n:Int) (t:Tm) (Q:Tm->Prop):Prop :=
(n<0 ∨ (315537897600:Int)<=n->Q (Tm.mk (Dy.mk (0:Int) (0:Int) (0:Int)) (0:Int) (0:Int) (0:Int) false false))/\(¬(n<0 ∨ (315537897600:Int)<=n)->((86400:Int)≠0/\in64 (n.tdiv (86400:Int)))/\in64 (n.tdiv (86400:Int)+1)/\(86400:Int)≠0/\((3600:Int)≠0/\in64 ((n.tmod (86400:Int)).tdiv (3600:Int)))/\(3600:Int)≠0/\((60:Int)≠0/\in64 ((n.tmod (3600:Int)).tdiv (60:Int)))/\(60:Int)≠0/\(¬rightT (Tm.mk (Dy.mk (ofS (n.tdiv (86400:Int)+1)).Year (ofS (n.tdiv (86400:Int)+1)).Month (ofS (n.tdiv (86400:Int)+1)).Date) ((n.tmod (86400:Int)).tdiv (3600:Int)) ((n.tmod (3600:Int)).tdiv (60:Int)) (n.tmod (60:Int)) (decide (t.Bare=true)) (decide (t.UTC=true)))=true->Q (Tm.mk (Dy.mk (0:Int) (0:Int) (0:Int)) (0:Int) (0:Int) (0:Int) false false))/\(¬¬rightT (Tm.mk (Dy.mk (ofS (n.tdiv (86400:Int)+1)).Year (ofS (n.tdiv (86400:Int)+1)).Month (ofS (n.tdiv (86400:Int)+1)).Date) ((n.tmod (86400:Int)).tdiv (3600:Int)) ((n.tmod (3600:Int)).tdiv (60:Int)) (n.tmod (60:Int)) (decide (t.Bare=true)) (decide (t.UTC=true)))=true->Q (Tm.mk (Dy.mk (ofS (n.tdiv (86400:Int)+1)).Year (ofS (n.tdiv (86400:Int)+1)).Month (ofS (n.tdiv (86400:Int)+1)).Date) ((n.tmod (86400:Int)).tdiv (3600:Int)) ((n.tmod (3600:Int)).tdiv (60:Int)) (n.tmod (60:Int)) (decide (t.Bare=true)) (decide (t.UTC=true)))))
theorem Vta_eq {n:Int} {t:Tm} {Q:Tm->Prop}:@Eq Prop (Vta n t Q) (vcFun (E:=Nts) (inlHN Nts H0 anta 2) (anta 20) Tryz.f20 [.int .i64 n,.agg [.int .i64 t.Day.Year,.int .i64 t.Day.Month,.int .i64 t.Day.Date,.int .i64 t.Hour,.int .i64 t.Min,.int .i64 t.Sec,blB t.Bare,blB t.UTC]] [] [] 0 (resP Nts [.val 25] Q)):=by kernel_rfl
theorem Vta_ok {n:Int} {t:Tm} {Q:Tm->Prop} (h:Vta n t Q):vcFun (E:=Nts) (inlHN Nts H0 anta 2) (anta 20) Tryz.f20 [.int .i64 n,.agg [.int .i64 t.Day.Year,.int .i64 t.Day.Month,.int .i64 t.Day.Date,.int .i64 t.Hour,.int .i64 t.Min,.int .i64 t.Sec,blB t.Bare,blB t.UTC]] [] [] 0 (resP Nts [.val 25] Q):=by rw [<- Vta_eq]; exact h
set_option maxHeartbeats 2000000 in
theorem pta (n:Int) (t:Tm)  : Vta n t (fun y0=>y0=atS n t):=by
 unfold Vta
 simp only [Bool.decide_eq_true]
 refine ⟨fun h=>?_,fun h=>?_⟩
 . unfold atS
   by_cases h0:n<0
   . rw [if_pos (.inl h0)]
   . rw [if_pos (.inr (.inr (by omega)))]
 . have e1:n.tdiv 86400=n / 86400:=Int.tdiv_eq_ediv_of_nonneg (by omega)
   have e2:n.tmod 86400=n % 86400:=Int.tmod_eq_emod_of_nonneg (by omega)
   have e3:(n % 86400).tdiv 3600=n % 86400 / 3600:=Int.tdiv_eq_ediv_of_nonneg (by omega)
   have e4:n.tmod 3600=n % 3600:=Int.tmod_eq_emod_of_nonneg (by omega)
   have e5:(n % 3600).tdiv 60=n % 86400 / 60 % 60:=by rw [Int.tdiv_eq_ediv_of_nonneg (by omega)]; omega
   have e6:n.tmod 60=n % 86400 % 60:=by rw [Int.tmod_eq_emod_of_nonneg (by omega)]; omega
   rw [e1,e2,e3,e4,e5,e6]
   have eD:(Dy.mk (ofS (n / 86400+1)).Year (ofS (n / 86400+1)).Month (ofS (n / 86400+1)).Date)=ofS (n / 86400+1):=rfl
   rw [eD]
   obtain ⟨hr,_⟩:=of_ok (n:=n / 86400+1) (by omega) (by omega)
   have hR:rightT ⟨ofS (n / 86400+1),n % 86400 / 3600,n % 86400 / 60 % 60,n % 86400 % 60,t.Bare,t.UTC⟩=true↔¬ (t.Bare=true/\(t.UTC=true ∨ n % 86400≠0)):=by
    rw [rightT_iff]
    constructor
    . rintro ⟨_,_,_,_,hb⟩ ⟨b1,b2⟩
      refine hb ⟨b1,?_⟩
      rcases b2 with b2 | b2
      . exact .inr b2
      . left
        show (n % 86400 / 3600≠0 ∨ n % 86400 / 60 % 60≠0) ∨ n % 86400 % 60≠0
        omega
    . intro hb
      refine ⟨hr,⟨by show 0<=n % 86400 / 3600; omega,by show n % 86400 / 3600<=23; omega⟩,⟨by show 0<=n % 86400 / 60 % 60; omega,by show n % 86400 / 60 % 60<=59; omega⟩,⟨by show 0<=n % 86400 % 60; omega,by show n % 86400 % 60<=59; omega⟩,?_⟩
      rintro ⟨b1,b2⟩
      refine hb ⟨b1,?_⟩
      rcases b2 with b2 | b2
      . right
        have b2:(n % 86400 / 3600≠0 ∨ n % 86400 / 60 % 60≠0) ∨ n % 86400 % 60≠0:=b2
        omega
      . exact .inl b2
   refine ⟨⟨by decide,by omega,by omega⟩,⟨by omega,by omega⟩,by decide,⟨by decide,by omega,by omega⟩,by decide,⟨by decide,by omega,by omega⟩,by decide,fun hn=>?_,fun hn=>?_⟩
   . unfold atS
     rw [if_pos (.inr (.inl (Classical.not_not.1 fun hc=>hn (hR.2 hc))))]
   . unfold atS
     rw [if_neg (by rintro (h' | h' | h')
                    . omega
                    . exact hR.1 (Classical.not_not.1 hn) h'
                    . omega)]
noncomputable def ctas (n:Int) (t:Tm):Q1 U:=⟨[],[],.agg [.int .i64 (atS n t).Day.Year,.int .i64 (atS n t).Day.Month,.int .i64 (atS n t).Day.Date,.int .i64 (atS n t).Hour,.int .i64 (atS n t).Min,.int .i64 (atS n t).Sec,blB (atS n t).Bare,blB (atS n t).UTC]⟩
noncomputable def cta (a:List (SV U)):Option (Q1 U):=match a with | [.int .i64 n,.agg l_t]=>(y25.bk (.agg l_t)).bind fun t=>some (ctas n t) | _=>none
theorem cta_ok (args:List (SV U)) (q:Q1 U) (h:cta args=some q) (ho:allP q.ob):LendOK Nts 20 args ⟨q.ob,q.hy,q.v,[]⟩:=by
 unfold cta at h
 split at h
 . rename_i n l_t
   obtain ⟨t,hb_t,h⟩:=Option.bind_eq_some_iff.1 h
   cases h
   refine LendOK.conv (E:=Nts) (args':=[.int .i64 n,.agg [.int .i64 t.Day.Year,.int .i64 t.Day.Month,.int .i64 t.Day.Date,.int .i64 t.Hour,.int .i64 t.Min,.int .i64 t.Sec,blB t.Bare,blB t.UTC]]) (lend1 Nts_ok (inlHN_ok Nts_ok H0_ok anta 2) Tryz.func20 (k:=.val 25) ⟨_,_,rfl,rfl,rfl⟩ (Vta_ok (pta n t )) 0) fun D w vs hr=>tup_conv [.int .i64 n,.agg l_t] [.int .i64 n,.agg [.int .i64 t.Day.Year,.int .i64 t.Day.Month,.int .i64 t.Day.Date,.int .i64 t.Hour,.int .i64 t.Min,.int .i64 t.Sec,blB t.Bare,blB t.UTC]] _ ⟨fun _ h=>h,fun _ h=>agg_conv25 hb_t h,trivial⟩ hr
 . cases h
noncomputable def Nta:Env:=Nts.addL 20 cta
theorem Nta_ok:EnvOK Nta:=Nts_ok.addL Tryz.call20 cta_ok
end Go.Proofs.YtdjfeninmbpflaaGreat
end
section
namespace Go.Re
open Go.Wl
def LessN (a b:Nt):Prop:=a.Day<b.Day ∨ a.Day=b.Day/\a.N<b.N
instance:∀ a b,Decidable (LessN a b):=fun _ _=>inferInstanceAs (Decidable (_ ∨ _))
def lessN (a b:Nt):Bool:=decide (LessN a b)
def longL (l:List Int):Int:=if (l.length:Int)=0 then 1 else (l.length:Int)
def OkN (lo hi:Int) (b:Bool) (n:Int):Prop:=if (b=true/\n<0)/\-hi<=n then lo<=-n/\-n<=hi else lo<=n/\n<=hi
structure RisL (l:List Int) (lo hi:Int) (b:Bool):Prop where
 ok:∀ i:Int,0<=i->i<l.length->OkN lo hi b (ix l i)
 up:∀ i:Int,0<i->i<l.length->ix l (i-1)<ix l i
 few:(l.length:Int)<=24
open Classical in
noncomputable def risS (l:List Int) (lo hi:Int) (b:Bool):Bool:=decide (RisL l lo hi b)
open Classical in
theorem risS_iff {l:List Int} {lo hi:Int} {b:Bool}:risS l lo hi b=true↔RisL l lo hi b:=by
 unfold risS
 exact decide_eq_true_iff
theorem risS_no {l:List Int} {lo hi:Int} {b:Bool} (h:¬ RisL l lo hi b):risS l lo hi b=false:=by
 cases e:risS l lo hi b with
 | true=>exact absurd (risS_iff.1 e) h
 | false=>rfl
theorem ix_memR {α:Type} [Inhabited α] {l:List α} {i:Int} (h0:0<=i) (h1:i<l.length):ix l i∈l:=by
 have h:i.toNat<l.length:=by omega
 rw [ix_get h]
 exact List.getElem_mem h
def fewL (L:List Int):Bool:=L.all fun n=>decide (n<=60)
theorem fewL_yes {L:List Int} (h:∀ j:Int,0<=j->j<L.length->ix L j<=60):fewL L=true:=List.all_eq_true.2 fun n hn=>by
 obtain ⟨k,hk,e⟩:=List.getElem_of_mem hn
 have:=h k (by omega) (by omega)
 rw [ix_get (by omega)] at this
 have e:L[(k:Int).toNat]'(by omega)=n:=e
 rw [e] at this
 exact decide_eq_true this
theorem fewL_no {L:List Int} {j:Int} (h0:0<=j) (h1:j<L.length) (h:60<ix L j):fewL L=false:=by
 cases e:fewL L with
 | false=>rfl
 | true =>
  have:=of_decide_eq_true (List.all_eq_true.1 e _ (ix_memR h0 h1))
  omega
def fewR (r:Rl):Bool:=fewL [(r.Month.length:Int),r.WeekNo.length,r.YearDay.length,r.MonthDay.length,r.Days.length,r.Hour.length,r.Minute.length,r.Second.length,r.SetPos.length,r.Until.length]
end Go.Re
end
section
namespace Go.Proofs.YtdjfeninmbpflaaGreat
open Go Go.Wk Go.Wl Go.Rx Go.Re 
attribute [local irreducible] vcFun
def anql:Nat->Ann:=fun | 76=>⟨24,fun _=>none,fun _=>none⟩ | _=>⟨0,fun _=>none,fun _=>none⟩
def Vql (a:Nt) (b:Nt) (Q:Bool->Prop):Prop :=
Q (decide (a.Day<b.Day ∨ a.Day=b.Day/\a.N<b.N))
theorem Vql_eq {a:Nt} {b:Nt} {Q:Bool->Prop}:@Eq Prop (Vql a b Q) (vcFun (E:=Nta) (inlHN Nta H0 anql 2) (anql 76) Tryz.f76 [.agg [.int .i64 a.N,.int .i64 a.Day],.agg [.int .i64 b.N,.int .i64 b.Day]] [] [] 0 (resP Nta [.bool] Q)):=by kernel_rfl
theorem Vql_ok {a:Nt} {b:Nt} {Q:Bool->Prop} (h:Vql a b Q):vcFun (E:=Nta) (inlHN Nta H0 anql 2) (anql 76) Tryz.f76 [.agg [.int .i64 a.N,.int .i64 a.Day],.agg [.int .i64 b.N,.int .i64 b.Day]] [] [] 0 (resP Nta [.bool] Q):=by rw [<- Vql_eq]; exact h
theorem pql (a:Nt) (b:Nt)  : Vql a b (fun y0=>y0=lessN a b):=by
 unfold Vql
 rfl
def cqls (a:Nt) (b:Nt):Q1 U:=⟨[],[],blB (lessN a b)⟩
def cql (a:List (SV U)):Option (Q1 U):=match a with | [.agg [.int .i64 a0,.int .i64 a1],.agg [.int .i64 b0,.int .i64 b1]]=>some (cqls (⟨a0,a1⟩) (⟨b0,b1⟩)) | _=>none
theorem cql_ok (args:List (SV U)) (q:Q1 U) (h:cql args=some q) (ho:allP q.ob):LendOK Nta 76 args ⟨q.ob,q.hy,q.v,[]⟩:=by
 unfold cql at h
 split at h
 . rename_i a0 a1 b0 b1
   cases h
   exact lend1 Nta_ok (inlHN_ok Nta_ok H0_ok anql 2) Tryz.func76 (k:=.bool) (x:=lessN (⟨a0,a1⟩:Nt) (⟨b0,b1⟩:Nt)) trivial (Vql_ok (pql (⟨a0,a1⟩) (⟨b0,b1⟩) )) 0
 . cases h
noncomputable def Nql:Env:=Nta.addL 76 cql
theorem Nql_ok:EnvOK Nql:=Nta_ok.addL Tryz.call76 cql_ok
end Go.Proofs.YtdjfeninmbpflaaGreat
end
section
namespace Go.Proofs.YtdjfeninmbpflaaGreat
open Go Go.Wk Go.Wl Go.Rx Go.Re 
attribute [local irreducible] vcFun
def anqg:Nat->Ann:=fun | 77=>⟨8,fun _=>none,fun _=>none⟩ | _=>⟨0,fun _=>none,fun _=>none⟩
def Vqg (l:List Int) (Q:Int->Prop):Prop :=
((↑l.length:Int)=0->Q (1:Int))/\(¬(↑l.length:Int)=0->Q (↑l.length:Int))
theorem Vqg_eq {l:List Int} {Q:Int->Prop}:@Eq Prop (Vqg l Q) (vcFun (E:=Nql) (inlHN Nql H0 anqg 2) (anqg 77) Tryz.f77 [.sl (N:=U) 3 l] [] [] 0 (resP Nql [.int .i64] Q)):=by kernel_rfl
theorem Vqg_ok {l:List Int} {Q:Int->Prop} (h:Vqg l Q):vcFun (E:=Nql) (inlHN Nql H0 anqg 2) (anqg 77) Tryz.f77 [.sl (N:=U) 3 l] [] [] 0 (resP Nql [.int .i64] Q):=by rw [<- Vqg_eq]; exact h
theorem pqg (l:List Int)  : Vqg l (fun y0=>y0=longL l):=by
 unfold Vqg longL
 exact ⟨fun h=>by rw [if_pos h],fun h=>by rw [if_neg h]⟩
def cqg (a:List (SV U)):Option (Q1 U):=match a with | [.sl 3 l]=>some ⟨[],[],.int .i64 (longL l)⟩ | _=>none
theorem cqg_ok (args:List (SV U)) (q:Q1 U) (h:cqg args=some q) (ho:allP q.ob):LendOK Nql 77 args ⟨q.ob,q.hy,q.v,[]⟩:=by
 unfold cqg at h
 split at h
 . rename_i l
   cases h
   exact lend1 Nql_ok (inlHN_ok Nql_ok H0_ok anqg 2) Tryz.func77 (k:=.int .i64) (x:=longL l) trivial (Vqg_ok (pqg l )) 0
 . cases h
noncomputable def Nqg:Env:=Nql.addL 77 cqg
theorem Nqg_ok:EnvOK Nqg:=Nql_ok.addL Tryz.call77 cqg_ok
end Go.Proofs.YtdjfeninmbpflaaGreat
end
section
namespace Go.Proofs.YtdjfeninmbpflaaGreat
open Go Go.Wk Go.Wl Go.Rx Go.Re 
attribute [local irreducible] vcFun
def anqr:Nat->Ann:=fun | 75=>⟨56,fun | 2=>some ⟨[0,1,2,3],[.slot 9 (.int .i64)]⟩ | _=>none,fun _=>none⟩ | _=>⟨0,fun _=>none,fun _=>none⟩
def Vqr (l:List Int) (lo:Int) (hi:Int) (b:Bool) (Q:Bool->Prop):Prop :=
∃ (I:Int->Prop),∃ (m:Int->Nat),I (0:Int)/\∀ (x:Int),I x->(x<(↑l.length:Int)->(0:Int)<=x/\x<(↑l.length:Int)/\(in64 (ix l x)->((0:Int)<x->in64 (x-1))/\((0:Int)<x->(0:Int)<=x-1)/\((0:Int)<x->x-1<(↑l.length:Int))/\(((0:Int)<x->in64 (ix l (x-1)))->((0:Int)<x/\ix l x<=ix l (x-1)->Q false)/\(¬((0:Int)<x/\ix l x<=ix l (x-1))->(b=true/\ix l x<0->in64 ((0:Int)-hi))/\((b=true/\ix l x<0)/\(0:Int)-hi<=ix l x->in64 ((0:Int)-ix l x)/\((0:Int)-ix l x<lo ∨ hi<(0:Int)-ix l x->Q false)/\(¬((0:Int)-ix l x<lo ∨ hi<(0:Int)-ix l x)->in64 (x+1)/\I (x+1)/\m (x+1)<m x))/\(¬((b=true/\ix l x<0)/\(0:Int)-hi<=ix l x)->(ix l x<lo ∨ hi<ix l x->Q false)/\(¬(ix l x<lo ∨ hi<ix l x)->in64 (x+1)/\I (x+1)/\m (x+1)<m x))))))/\(¬x<(↑l.length:Int)->Q (decide ((↑l.length:Int)<=24)))
theorem Vqr_eq {l:List Int} {lo:Int} {hi:Int} {b:Bool} {Q:Bool->Prop}:@Eq Prop (Vqr l lo hi b Q) (vcFun (E:=Nqg) (inlHN Nqg H0 anqr 2) (anqr 75) Tryz.f75 [.sl (N:=U) 3 l,.int .i64 lo,.int .i64 hi,blB b] [] [] 0 (resP Nqg [.bool] Q)):=by kernel_rfl
theorem Vqr_ok {l:List Int} {lo:Int} {hi:Int} {b:Bool} {Q:Bool->Prop} (h:Vqr l lo hi b Q):vcFun (E:=Nqg) (inlHN Nqg H0 anqr 2) (anqr 75) Tryz.f75 [.sl (N:=U) 3 l,.int .i64 lo,.int .i64 hi,blB b] [] [] 0 (resP Nqg [.bool] Q):=by rw [<- Vqr_eq]; exact h
theorem pqr (l:List Int) (lo:Int) (hi:Int) (b:Bool) (l0:0<=lo) (l1:lo<=1000) (h0:0<=hi) (h1:hi<=1000) (hl:l.length<=1000000):Vqr l lo hi b (fun y0=>y0=risS l lo hi b):=by
 unfold Vqr
 have z:∀ n:Int,0-n=-n:=fun n=>by omega
 simp only [z]
 refine ⟨fun x=>0<=x/\x<=l.length/\(∀ i:Int,0<=i->i<x->OkN lo hi b (ix l i))/\∀ i:Int,0<i->i<x->ix l (i-1)<ix l i,fun x=>((l.length:Int)-x).toNat,⟨Int.le_refl 0,by omega,fun i a b=>by omega,fun i a b=>by omega⟩,?_⟩
 rintro x ⟨x0,x1,hk,hu⟩
 refine ⟨fun hx=>⟨x0,hx,fun hi=>⟨fun _=>⟨by omega,by omega⟩,fun _=>by omega,fun _=>by omega,fun _=>⟨fun h=>?_,fun h=>⟨fun _=>⟨by omega,by omega⟩,fun hn=>⟨⟨by omega,by omega⟩,fun h2=>?_,fun h2=>?_⟩,fun hn=>⟨fun h2=>?_,fun h2=>?_⟩⟩⟩⟩⟩,fun hx=>?_⟩
 . exact (risS_no fun hr=>by have:=hr.up x h.1 hx; omega).symm
 . exact (risS_no fun hr=>by
     have:=hr.ok x x0 hx
     unfold OkN at this
     rw [if_pos hn] at this
     omega).symm
 . refine ⟨⟨by omega,by omega⟩,⟨by omega,by omega,fun i i0 i1=>?_,fun i i0 i1=>?_⟩,by dsimp only; omega⟩
   . by_cases e:i=x
     . subst e; unfold OkN; rw [if_pos hn]; omega
     . exact hk i i0 (by omega)
   . by_cases e:i=x
     . subst e; omega
     . exact hu i i0 (by omega)
 . exact (risS_no fun hr=>by
     have:=hr.ok x x0 hx
     unfold OkN at this
     rw [if_neg hn] at this
     omega).symm
 . refine ⟨⟨by omega,by omega⟩,⟨by omega,by omega,fun i i0 i1=>?_,fun i i0 i1=>?_⟩,by dsimp only; omega⟩
   . by_cases e:i=x
     . subst e; unfold OkN; rw [if_neg hn]; omega
     . exact hk i i0 (by omega)
   . by_cases e:i=x
     . subst e; omega
     . exact hu i i0 (by omega)
 . by_cases h24:(l.length:Int)<=24
   . rw [decide_eq_true h24]
     exact (risS_iff.2 ⟨fun i a b=>hk i a (by omega),fun i a b=>hu i a (by omega),h24⟩).symm
   . rw [decide_eq_false h24]
     exact (risS_no fun hr=>h24 hr.few).symm
noncomputable def cqrs (l:List Int) (lo:Int) (hi:Int) (b:Bool):Q1 U:=⟨[0<=lo,lo<=1000,0<=hi,hi<=1000,List.length (α:=Int) l<=1000000],[],blB (risS l lo hi b)⟩
noncomputable def cqr (a:List (SV U)):Option (Q1 U):=match a with | [.sl 3 l,.int .i64 lo,.int .i64 hi,x_b]=>(boolOf x_b).bind fun b=>some (cqrs l lo hi b) | _=>none
theorem cqr_ok (args:List (SV U)) (q:Q1 U) (h:cqr args=some q) (ho:allP q.ob):LendOK Nqg 75 args ⟨q.ob,q.hy,q.v,[]⟩:=by
 unfold cqr at h
 split at h
 . rename_i l lo hi x_b
   obtain ⟨b,hb_b,h⟩:=Option.bind_eq_some_iff.1 h
   cases h
   refine LendOK.conv (E:=Nqg) (args':=[.sl 3 l,.int .i64 lo,.int .i64 hi,blB b]) (lend1 Nqg_ok (inlHN_ok Nqg_ok H0_ok anqr 2) Tryz.func75 (k:=.bool) trivial (Vqr_ok (pqr l lo hi b ho.1 ho.2.1 ho.2.2.1 ho.2.2.2.1 ho.2.2.2.2.1)) 0) fun D w vs hr=>tup_conv [.sl 3 l,.int .i64 lo,.int .i64 hi,x_b] [.sl (N:=U) 3 l,.int .i64 lo,.int .i64 hi,blB b] _ ⟨fun _ h=>h,fun _ h=>h,fun _ h=>h,fun _ h=>boolOf_rep (E:=Nqg) hb_b h,trivial⟩ hr
 . cases h
noncomputable def Nqr:Env:=Nqg.addL 75 cqr
theorem Nqr_ok:EnvOK Nqr:=Nqg_ok.addL Tryz.call75 cqr_ok
end Go.Proofs.YtdjfeninmbpflaaGreat
end
section
namespace Go.Proofs.YtdjfeninmbpflaaGreat
open Go Go.Wk Go.Wl Go.Rx Go.Re 
attribute [local irreducible] vcFun
def anqf:Nat->Ann:=fun | 10=>⟨44,fun | 2=>some ⟨[35,36],[.slot 37 (.int .i64)]⟩ | _=>none,fun _=>none⟩ | _=>⟨0,fun _=>none,fun _=>none⟩
def Vqf (r:Rl) (Q:Bool->Prop):Prop :=
∃ (I:Int->Prop),∃ (m:Int->Nat),I (0:Int)/\∀ (x:Int),I x->(x<(↑[(↑r.Month.length:Int),(↑r.WeekNo.length:Int),(↑r.YearDay.length:Int),(↑r.MonthDay.length:Int),(↑r.Days.length:Int),(↑r.Hour.length:Int),(↑r.Minute.length:Int),(↑r.Second.length:Int),(↑r.SetPos.length:Int),(↑r.Until.length:Int)].length:Int)->(0:Int)<=x/\x<(↑[(↑r.Month.length:Int),(↑r.WeekNo.length:Int),(↑r.YearDay.length:Int),(↑r.MonthDay.length:Int),(↑r.Days.length:Int),(↑r.Hour.length:Int),(↑r.Minute.length:Int),(↑r.Second.length:Int),(↑r.SetPos.length:Int),(↑r.Until.length:Int)].length:Int)/\(in64 (ix [(↑r.Month.length:Int),(↑r.WeekNo.length:Int),(↑r.YearDay.length:Int),(↑r.MonthDay.length:Int),(↑r.Days.length:Int),(↑r.Hour.length:Int),(↑r.Minute.length:Int),(↑r.Second.length:Int),(↑r.SetPos.length:Int),(↑r.Until.length:Int)] x)->((60:Int)<ix [(↑r.Month.length:Int),(↑r.WeekNo.length:Int),(↑r.YearDay.length:Int),(↑r.MonthDay.length:Int),(↑r.Days.length:Int),(↑r.Hour.length:Int),(↑r.Minute.length:Int),(↑r.Second.length:Int),(↑r.SetPos.length:Int),(↑r.Until.length:Int)] x->Q false)/\(¬(60:Int)<ix [(↑r.Month.length:Int),(↑r.WeekNo.length:Int),(↑r.YearDay.length:Int),(↑r.MonthDay.length:Int),(↑r.Days.length:Int),(↑r.Hour.length:Int),(↑r.Minute.length:Int),(↑r.Second.length:Int),(↑r.SetPos.length:Int),(↑r.Until.length:Int)] x->in64 (x+1)/\I (x+1)/\m (x+1)<m x)))/\(¬x<(↑[(↑r.Month.length:Int),(↑r.WeekNo.length:Int),(↑r.YearDay.length:Int),(↑r.MonthDay.length:Int),(↑r.Days.length:Int),(↑r.Hour.length:Int),(↑r.Minute.length:Int),(↑r.Second.length:Int),(↑r.SetPos.length:Int),(↑r.Until.length:Int)].length:Int)->Q true)
theorem Vqf_eq {r:Rl} {Q:Bool->Prop}:@Eq Prop (Vqf r Q) (vcFun (E:=Nqr) (inlHN Nqr H0 anqf 2) (anqf 10) Tryz.f10 [.agg [.int .i64 r.Freq,.int .i64 r.Interval,.int .i64 r.Count,.sl (N:=U) 25 r.Until,.sl (N:=U) 3 r.Month,.sl (N:=U) 3 r.WeekNo,.sl (N:=U) 3 r.YearDay,.sl (N:=U) 3 r.MonthDay,.sl (N:=U) 60 r.Days,.sl (N:=U) 3 r.Hour,.sl (N:=U) 3 r.Minute,.sl (N:=U) 3 r.Second,.sl (N:=U) 3 r.SetPos,.int .i64 r.Wkst]] [] [] 0 (resP Nqr [.bool] Q)):=by kernel_rfl
theorem Vqf_ok {r:Rl} {Q:Bool->Prop} (h:Vqf r Q):vcFun (E:=Nqr) (inlHN Nqr H0 anqf 2) (anqf 10) Tryz.f10 [.agg [.int .i64 r.Freq,.int .i64 r.Interval,.int .i64 r.Count,.sl (N:=U) 25 r.Until,.sl (N:=U) 3 r.Month,.sl (N:=U) 3 r.WeekNo,.sl (N:=U) 3 r.YearDay,.sl (N:=U) 3 r.MonthDay,.sl (N:=U) 60 r.Days,.sl (N:=U) 3 r.Hour,.sl (N:=U) 3 r.Minute,.sl (N:=U) 3 r.Second,.sl (N:=U) 3 r.SetPos,.int .i64 r.Wkst]] [] [] 0 (resP Nqr [.bool] Q):=by rw [<- Vqf_eq]; exact h
theorem pqf (r:Rl)  : Vqf r (fun y0=>y0=fewR r):=by
 unfold Vqf fewR
 generalize hL:([(r.Month.length:Int),r.WeekNo.length,r.YearDay.length,r.MonthDay.length,r.Days.length,r.Hour.length,r.Minute.length,r.Second.length,r.SetPos.length,r.Until.length]:List Int)=L
 have hl:L.length=10:=by rw [<- hL]; rfl
 refine ⟨fun x=>0<=x/\∀ j:Int,0<=j->j<x->ix L j<=60,fun x=>((L.length:Int)-x).toNat,⟨Int.le_refl 0,fun j a b=>by omega⟩,?_⟩
 rintro x ⟨x0,hx⟩
 refine ⟨fun h=>⟨x0,h,fun hi=>⟨fun h60=>(fewL_no x0 h h60).symm,fun h60=>⟨⟨by omega,by omega⟩,⟨by omega,fun j a b=>?_⟩,by dsimp only; omega⟩⟩⟩,fun h=>(fewL_yes fun j a b=>hx j a (by omega)).symm⟩
 by_cases e:j=x
 . subst e; omega
 . exact hx j a (by omega)
noncomputable def cqfs (r:Rl):Q1 U:=⟨[],[],blB (fewR r)⟩
noncomputable def cqf (a:List (SV U)):Option (Q1 U):=match a with | [.agg l_r]=>(y30.bk (.agg l_r)).bind fun r=>some (cqfs r) | _=>none
theorem cqf_ok (args:List (SV U)) (q:Q1 U) (h:cqf args=some q) (ho:allP q.ob):LendOK Nqr 10 args ⟨q.ob,q.hy,q.v,[]⟩:=by
 unfold cqf at h
 split at h
 . rename_i l_r
   obtain ⟨r,hb_r,h⟩:=Option.bind_eq_some_iff.1 h
   cases h
   refine LendOK.conv (E:=Nqr) (args':=[.agg [.int .i64 r.Freq,.int .i64 r.Interval,.int .i64 r.Count,.sl 25 r.Until,.sl 3 r.Month,.sl 3 r.WeekNo,.sl 3 r.YearDay,.sl 3 r.MonthDay,.sl 60 r.Days,.sl 3 r.Hour,.sl 3 r.Minute,.sl 3 r.Second,.sl 3 r.SetPos,.int .i64 r.Wkst]]) (lend1 Nqr_ok (inlHN_ok Nqr_ok H0_ok anqf 2) Tryz.func10 (k:=.bool) trivial (Vqf_ok (pqf r )) 0) fun D w vs hr=>tup_conv [.agg l_r] [.agg [.int .i64 r.Freq,.int .i64 r.Interval,.int .i64 r.Count,.sl (N:=U) 25 r.Until,.sl (N:=U) 3 r.Month,.sl (N:=U) 3 r.WeekNo,.sl (N:=U) 3 r.YearDay,.sl (N:=U) 3 r.MonthDay,.sl (N:=U) 60 r.Days,.sl (N:=U) 3 r.Hour,.sl (N:=U) 3 r.Minute,.sl (N:=U) 3 r.Second,.sl (N:=U) 3 r.SetPos,.int .i64 r.Wkst]] _ ⟨fun _ h=>agg_conv30 hb_r h,trivial⟩ hr
 . cases h
noncomputable def Nqf:Env:=Nqr.addL 10 cqf
theorem Nqf_ok:EnvOK Nqf:=Nqr_ok.addL Tryz.call10 cqf_ok
end Go.Proofs.YtdjfeninmbpflaaGreat
end
section
namespace Go.Re
open Go.Wl
open Go.Rx (in64)
def mostR (r:Rl):Int:=if r.Freq=1 then 5 else if r.Freq=0/\(r.WeekNo.length:Int)=0 then 53 else 0
def DayN (m:Int) (d:Nt):Prop:=0<=d.Day/\d.Day<=6/\d.N<=m/\-m<=d.N
def HeadR (r:Rl):Prop:=0<=r.Freq/\r.Freq<=6/\1<=r.Interval/\r.Interval<=9999/\0<=r.Count/\r.Count<=9999/\0<=r.Wkst/\r.Wkst<=6
def UntilR (r:Rl):Prop:=(r.Until.length:Int)<=1/\((r.Until.length:Int)=1->r.Count<=0/\rightT (ix r.Until 0)=true)
structure ListsR (r:Rl):Prop where
 mo:RisL r.Month 1 12 false
 wn:RisL r.WeekNo 1 53 true
 yd:RisL r.YearDay 1 366 true
 md:RisL r.MonthDay 1 31 true
 ho:RisL r.Hour 0 23 false
 mi:RisL r.Minute 0 59 false
 se:RisL r.Second 0 59 false
 sp:RisL r.SetPos 1 366 true
structure DaysR (l:List Nt) (m:Int):Prop where
 ok:∀ i:Int,0<=i->i<l.length->DayN m (ix l i)
 up:∀ i:Int,0<i->i<l.length->LessN (ix l (i-1)) (ix l i)
def FitR (r:Rl):Prop:=¬ (((r.Freq≠0/\0<(r.WeekNo.length:Int)) ∨ ((1<=r.Freq/\r.Freq<=3)/\0<(r.YearDay.length:Int))) ∨ r.Freq=2/\0<(r.MonthDay.length:Int))
def SomeR (r:Rl):Prop:=(0<(r.Month.length:Int)+r.WeekNo.length+r.YearDay.length+r.MonthDay.length+r.Days.length+r.Hour.length+r.Minute.length+r.Second.length ∨ (r.SetPos.length:Int)=0)/\longL r.Hour * longL r.Minute * longL r.Second<=48
structure RightR (r:Rl):Prop where
 head:HeadR r
 til:UntilR r
 lists:ListsR r
 few:(r.Days.length:Int)<=24
 days:DaysR r.Days (mostR r)
 fit:FitR r
 some:SomeR r
open Classical in
noncomputable def rightR (r:Rl):Bool:=decide (RightR r)
open Classical in
theorem rightR_iff {r:Rl}:rightR r=true↔RightR r:=by
 unfold rightR
 exact decide_eq_true_iff
theorem rightR_no {r:Rl} (h:¬ RightR r):rightR r=false:=by
 cases e:rightR r with
 | true=>exact absurd (rightR_iff.1 e) h
 | false=>rfl
theorem lessN_iff {a b:Nt}:lessN a b=true↔LessN a b:=by unfold lessN; exact decide_eq_true_iff
theorem fewL_at {L:List Int} (h:fewL L=true) {n:Int} (hn:n∈L):n<=60:=of_decide_eq_true (List.all_eq_true.1 h n hn)
structure FewR (r:Rl):Prop where
 mo:(r.Month.length:Int)<=60
 wn:(r.WeekNo.length:Int)<=60
 yd:(r.YearDay.length:Int)<=60
 md:(r.MonthDay.length:Int)<=60
 dy:(r.Days.length:Int)<=60
 ho:(r.Hour.length:Int)<=60
 mi:(r.Minute.length:Int)<=60
 se:(r.Second.length:Int)<=60
 sp:(r.SetPos.length:Int)<=60
 ti:(r.Until.length:Int)<=60
theorem fewR_ok {r:Rl} (h:fewR r=true):FewR r:=by
 unfold fewR at h
 constructor <;> exact fewL_at h (by simp)
theorem longL_rg {l:List Int}:(longL l=1/\(l.length:Int)=0) ∨ (longL l=(l.length:Int)/\1<=(l.length:Int)):=by
 unfold longL
 by_cases h:(l.length:Int)=0
 . rw [if_pos h]; omega
 . rw [if_neg h]; omega
theorem long_mul {a b:Int} (h0:1<=a) (h1:a<=3600) (h2:1<=b) (h3:b<=60):1<=a * b/\a * b<=216000:=by
 constructor
 . have:=Int.mul_le_mul h0 h2 (by decide) (by omega); omega
 . have:=Int.mul_le_mul h1 h3 (by omega) (by decide); omega
theorem long3 {a b c:Int} (ha:1<=a/\a<=60) (hb:1<=b/\b<=60) (hc:1<=c/\c<=60):in64 (a * b)/\in64 (a * b * c):=by
 have h1:1<=a * b:=by have:=Int.mul_le_mul ha.1 hb.1 (by decide) (by omega); omega
 have h2:a * b<=3600:=by have:=Int.mul_le_mul ha.2 hb.2 (by omega) (by decide); omega
 have h3:=long_mul h1 h2 hc.1 hc.2
 exact ⟨⟨by omega,by omega⟩,⟨by omega,by omega⟩⟩
structure DaysUp (l:List Nt) (m:Int) (x:Int):Prop where
 ok:∀ i:Int,0<=i->i<x->DayN m (ix l i)
 up:∀ i:Int,0<i->i<x->LessN (ix l (i-1)) (ix l i)
theorem DaysUp.nil {l:List Nt} {m:Int}:DaysUp l m 0:=⟨fun i a b=>by omega,fun i a b=>by omega⟩
theorem DaysUp.step {l:List Nt} {m x:Int} (h:DaysUp l m x) (h1:DayN m (ix l x)) (h2:0<x->LessN (ix l (x-1)) (ix l x)):DaysUp l m (x+1):=by
 constructor
 . intro i a b
   by_cases e:i=x
   . subst e; exact h1
   . exact h.ok i a (by omega)
 . intro i a b
   by_cases e:i=x
   . subst e; exact h2 a
   . exact h.up i a (by omega)
theorem DaysUp.done {l:List Nt} {m x:Int} (h:DaysUp l m x) (hx:¬ x<l.length):DaysR l m:=⟨fun i a b=>h.ok i a (by omega),fun i a b=>h.up i a (by omega)⟩
end Go.Re
end
section
namespace Go.Proofs.YtdjfeninmbpflaaGreat
open Go Go.Wk Go.Wl Go.Rx Go.Re 
attribute [local irreducible] vcFun
def anqR:Nat->Ann:=fun | 44=>⟨267,fun | 15=>some ⟨[1,3],[.slot 4 (.int .i64)]⟩ | _=>none,fun | 12=>some ⟨[1],[.slot 3 (.int .i64)]⟩ | 14=>some ⟨[1],[.slot 3 (.int .i64)]⟩ | _=>none⟩ | _=>⟨0,fun _=>none,fun _=>none⟩
def VqR (r:Rl) (Q:Bool->Prop):Prop :=
(((((((r.Freq<0 ∨ (6:Int)<r.Freq) ∨ r.Interval<1) ∨ (9999:Int)<r.Interval) ∨ r.Count<0) ∨ (9999:Int)<r.Count) ∨ r.Wkst<0) ∨ (6:Int)<r.Wkst->Q false)/\(¬(((((((r.Freq<0 ∨ (6:Int)<r.Freq) ∨ r.Interval<1) ∨ (9999:Int)<r.Interval) ∨ r.Count<0) ∨ (9999:Int)<r.Count) ∨ r.Wkst<0) ∨ (6:Int)<r.Wkst)->((¬(1:Int)<(↑r.Until.length:Int)/\(↑r.Until.length:Int)=1)/\¬(0:Int)<r.Count->(0:Int)<=0)/\((¬(1:Int)<(↑r.Until.length:Int)/\(↑r.Until.length:Int)=1)/\¬(0:Int)<r.Count->(0:Int)<(↑r.Until.length:Int))/\(((¬(1:Int)<(↑r.Until.length:Int)/\(↑r.Until.length:Int)=1)/\¬(0:Int)<r.Count->in64 (ix r.Until (0:Int)).Day.Year)->((¬(1:Int)<(↑r.Until.length:Int)/\(↑r.Until.length:Int)=1)/\¬(0:Int)<r.Count->in64 (ix r.Until (0:Int)).Day.Month)->((¬(1:Int)<(↑r.Until.length:Int)/\(↑r.Until.length:Int)=1)/\¬(0:Int)<r.Count->in64 (ix r.Until (0:Int)).Day.Date)->((¬(1:Int)<(↑r.Until.length:Int)/\(↑r.Until.length:Int)=1)/\¬(0:Int)<r.Count->in64 (ix r.Until (0:Int)).Hour)->((¬(1:Int)<(↑r.Until.length:Int)/\(↑r.Until.length:Int)=1)/\¬(0:Int)<r.Count->in64 (ix r.Until (0:Int)).Min)->((¬(1:Int)<(↑r.Until.length:Int)/\(↑r.Until.length:Int)=1)/\¬(0:Int)<r.Count->in64 (ix r.Until (0:Int)).Sec)->((1:Int)<(↑r.Until.length:Int) ∨ (↑r.Until.length:Int)=1/\((0:Int)<r.Count ∨ ¬rightT (Tm.mk (Dy.mk (ix r.Until (0:Int)).Day.Year (ix r.Until (0:Int)).Day.Month (ix r.Until (0:Int)).Day.Date) (ix r.Until (0:Int)).Hour (ix r.Until (0:Int)).Min (ix r.Until (0:Int)).Sec (decide ((ix r.Until (0:Int)).Bare=true)) (decide ((ix r.Until (0:Int)).UTC=true)))=true)->Q false)/\(¬((1:Int)<(↑r.Until.length:Int) ∨ (↑r.Until.length:Int)=1/\((0:Int)<r.Count ∨ ¬rightT (Tm.mk (Dy.mk (ix r.Until (0:Int)).Day.Year (ix r.Until (0:Int)).Day.Month (ix r.Until (0:Int)).Day.Date) (ix r.Until (0:Int)).Hour (ix r.Until (0:Int)).Min (ix r.Until (0:Int)).Sec (decide ((ix r.Until (0:Int)).Bare=true)) (decide ((ix r.Until (0:Int)).UTC=true)))=true))->(0:Int)<=1/\(1:Int)<=1000/\(0:Int)<=12/\(12:Int)<=1000/\r.Month.length<=1000000/\(¬¬risS r.Month (1:Int) (12:Int) false=true->(0:Int)<=1)/\(¬¬risS r.Month (1:Int) (12:Int) false=true->(1:Int)<=1000)/\(¬¬risS r.Month (1:Int) (12:Int) false=true->(0:Int)<=53)/\(¬¬risS r.Month (1:Int) (12:Int) false=true->(53:Int)<=1000)/\(¬¬risS r.Month (1:Int) (12:Int) false=true->r.WeekNo.length<=1000000)/\(¬(¬risS r.Month (1:Int) (12:Int) false=true ∨ ¬risS r.WeekNo (1:Int) (53:Int) true=true)->(0:Int)<=1)/\(¬(¬risS r.Month (1:Int) (12:Int) false=true ∨ ¬risS r.WeekNo (1:Int) (53:Int) true=true)->(1:Int)<=1000)/\(¬(¬risS r.Month (1:Int) (12:Int) false=true ∨ ¬risS r.WeekNo (1:Int) (53:Int) true=true)->(0:Int)<=366)/\(¬(¬risS r.Month (1:Int) (12:Int) false=true ∨ ¬risS r.WeekNo (1:Int) (53:Int) true=true)->(366:Int)<=1000)/\(¬(¬risS r.Month (1:Int) (12:Int) false=true ∨ ¬risS r.WeekNo (1:Int) (53:Int) true=true)->r.YearDay.length<=1000000)/\(¬((¬risS r.Month (1:Int) (12:Int) false=true ∨ ¬risS r.WeekNo (1:Int) (53:Int) true=true) ∨ ¬risS r.YearDay (1:Int) (366:Int) true=true)->(0:Int)<=1)/\(¬((¬risS r.Month (1:Int) (12:Int) false=true ∨ ¬risS r.WeekNo (1:Int) (53:Int) true=true) ∨ ¬risS r.YearDay (1:Int) (366:Int) true=true)->(1:Int)<=1000)/\(¬((¬risS r.Month (1:Int) (12:Int) false=true ∨ ¬risS r.WeekNo (1:Int) (53:Int) true=true) ∨ ¬risS r.YearDay (1:Int) (366:Int) true=true)->(0:Int)<=31)/\(¬((¬risS r.Month (1:Int) (12:Int) false=true ∨ ¬risS r.WeekNo (1:Int) (53:Int) true=true) ∨ ¬risS r.YearDay (1:Int) (366:Int) true=true)->(31:Int)<=1000)/\(¬((¬risS r.Month (1:Int) (12:Int) false=true ∨ ¬risS r.WeekNo (1:Int) (53:Int) true=true) ∨ ¬risS r.YearDay (1:Int) (366:Int) true=true)->r.MonthDay.length<=1000000)/\(¬(((¬risS r.Month (1:Int) (12:Int) false=true ∨ ¬risS r.WeekNo (1:Int) (53:Int) true=true) ∨ ¬risS r.YearDay (1:Int) (366:Int) true=true) ∨ ¬risS r.MonthDay (1:Int) (31:Int) true=true)->(0:Int)<=0)/\(¬(((¬risS r.Month (1:Int) (12:Int) false=true ∨ ¬risS r.WeekNo (1:Int) (53:Int) true=true) ∨ ¬risS r.YearDay (1:Int) (366:Int) true=true) ∨ ¬risS r.MonthDay (1:Int) (31:Int) true=true)->(0:Int)<=1000)/\(¬(((¬risS r.Month (1:Int) (12:Int) false=true ∨ ¬risS r.WeekNo (1:Int) (53:Int) true=true) ∨ ¬risS r.YearDay (1:Int) (366:Int) true=true) ∨ ¬risS r.MonthDay (1:Int) (31:Int) true=true)->(0:Int)<=23)/\(¬(((¬risS r.Month (1:Int) (12:Int) false=true ∨ ¬risS r.WeekNo (1:Int) (53:Int) true=true) ∨ ¬risS r.YearDay (1:Int) (366:Int) true=true) ∨ ¬risS r.MonthDay (1:Int) (31:Int) true=true)->(23:Int)<=1000)/\(¬(((¬risS r.Month (1:Int) (12:Int) false=true ∨ ¬risS r.WeekNo (1:Int) (53:Int) true=true) ∨ ¬risS r.YearDay (1:Int) (366:Int) true=true) ∨ ¬risS r.MonthDay (1:Int) (31:Int) true=true)->r.Hour.length<=1000000)/\(¬((((¬risS r.Month (1:Int) (12:Int) false=true ∨ ¬risS r.WeekNo (1:Int) (53:Int) true=true) ∨ ¬risS r.YearDay (1:Int) (366:Int) true=true) ∨ ¬risS r.MonthDay (1:Int) (31:Int) true=true) ∨ ¬risS r.Hour (0:Int) (23:Int) false=true)->(0:Int)<=0)/\(¬((((¬risS r.Month (1:Int) (12:Int) false=true ∨ ¬risS r.WeekNo (1:Int) (53:Int) true=true) ∨ ¬risS r.YearDay (1:Int) (366:Int) true=true) ∨ ¬risS r.MonthDay (1:Int) (31:Int) true=true) ∨ ¬risS r.Hour (0:Int) (23:Int) false=true)->(0:Int)<=1000)/\(¬((((¬risS r.Month (1:Int) (12:Int) false=true ∨ ¬risS r.WeekNo (1:Int) (53:Int) true=true) ∨ ¬risS r.YearDay (1:Int) (366:Int) true=true) ∨ ¬risS r.MonthDay (1:Int) (31:Int) true=true) ∨ ¬risS r.Hour (0:Int) (23:Int) false=true)->(0:Int)<=59)/\(¬((((¬risS r.Month (1:Int) (12:Int) false=true ∨ ¬risS r.WeekNo (1:Int) (53:Int) true=true) ∨ ¬risS r.YearDay (1:Int) (366:Int) true=true) ∨ ¬risS r.MonthDay (1:Int) (31:Int) true=true) ∨ ¬risS r.Hour (0:Int) (23:Int) false=true)->(59:Int)<=1000)/\(¬((((¬risS r.Month (1:Int) (12:Int) false=true ∨ ¬risS r.WeekNo (1:Int) (53:Int) true=true) ∨ ¬risS r.YearDay (1:Int) (366:Int) true=true) ∨ ¬risS r.MonthDay (1:Int) (31:Int) true=true) ∨ ¬risS r.Hour (0:Int) (23:Int) false=true)->r.Minute.length<=1000000)/\(¬(((((¬risS r.Month (1:Int) (12:Int) false=true ∨ ¬risS r.WeekNo (1:Int) (53:Int) true=true) ∨ ¬risS r.YearDay (1:Int) (366:Int) true=true) ∨ ¬risS r.MonthDay (1:Int) (31:Int) true=true) ∨ ¬risS r.Hour (0:Int) (23:Int) false=true) ∨ ¬risS r.Minute (0:Int) (59:Int) false=true)->(0:Int)<=0)/\(¬(((((¬risS r.Month (1:Int) (12:Int) false=true ∨ ¬risS r.WeekNo (1:Int) (53:Int) true=true) ∨ ¬risS r.YearDay (1:Int) (366:Int) true=true) ∨ ¬risS r.MonthDay (1:Int) (31:Int) true=true) ∨ ¬risS r.Hour (0:Int) (23:Int) false=true) ∨ ¬risS r.Minute (0:Int) (59:Int) false=true)->(0:Int)<=1000)/\(¬(((((¬risS r.Month (1:Int) (12:Int) false=true ∨ ¬risS r.WeekNo (1:Int) (53:Int) true=true) ∨ ¬risS r.YearDay (1:Int) (366:Int) true=true) ∨ ¬risS r.MonthDay (1:Int) (31:Int) true=true) ∨ ¬risS r.Hour (0:Int) (23:Int) false=true) ∨ ¬risS r.Minute (0:Int) (59:Int) false=true)->(0:Int)<=59)/\(¬(((((¬risS r.Month (1:Int) (12:Int) false=true ∨ ¬risS r.WeekNo (1:Int) (53:Int) true=true) ∨ ¬risS r.YearDay (1:Int) (366:Int) true=true) ∨ ¬risS r.MonthDay (1:Int) (31:Int) true=true) ∨ ¬risS r.Hour (0:Int) (23:Int) false=true) ∨ ¬risS r.Minute (0:Int) (59:Int) false=true)->(59:Int)<=1000)/\(¬(((((¬risS r.Month (1:Int) (12:Int) false=true ∨ ¬risS r.WeekNo (1:Int) (53:Int) true=true) ∨ ¬risS r.YearDay (1:Int) (366:Int) true=true) ∨ ¬risS r.MonthDay (1:Int) (31:Int) true=true) ∨ ¬risS r.Hour (0:Int) (23:Int) false=true) ∨ ¬risS r.Minute (0:Int) (59:Int) false=true)->r.Second.length<=1000000)/\(¬((((((¬risS r.Month (1:Int) (12:Int) false=true ∨ ¬risS r.WeekNo (1:Int) (53:Int) true=true) ∨ ¬risS r.YearDay (1:Int) (366:Int) true=true) ∨ ¬risS r.MonthDay (1:Int) (31:Int) true=true) ∨ ¬risS r.Hour (0:Int) (23:Int) false=true) ∨ ¬risS r.Minute (0:Int) (59:Int) false=true) ∨ ¬risS r.Second (0:Int) (59:Int) false=true)->(0:Int)<=1)/\(¬((((((¬risS r.Month (1:Int) (12:Int) false=true ∨ ¬risS r.WeekNo (1:Int) (53:Int) true=true) ∨ ¬risS r.YearDay (1:Int) (366:Int) true=true) ∨ ¬risS r.MonthDay (1:Int) (31:Int) true=true) ∨ ¬risS r.Hour (0:Int) (23:Int) false=true) ∨ ¬risS r.Minute (0:Int) (59:Int) false=true) ∨ ¬risS r.Second (0:Int) (59:Int) false=true)->(1:Int)<=1000)/\(¬((((((¬risS r.Month (1:Int) (12:Int) false=true ∨ ¬risS r.WeekNo (1:Int) (53:Int) true=true) ∨ ¬risS r.YearDay (1:Int) (366:Int) true=true) ∨ ¬risS r.MonthDay (1:Int) (31:Int) true=true) ∨ ¬risS r.Hour (0:Int) (23:Int) false=true) ∨ ¬risS r.Minute (0:Int) (59:Int) false=true) ∨ ¬risS r.Second (0:Int) (59:Int) false=true)->(0:Int)<=366)/\(¬((((((¬risS r.Month (1:Int) (12:Int) false=true ∨ ¬risS r.WeekNo (1:Int) (53:Int) true=true) ∨ ¬risS r.YearDay (1:Int) (366:Int) true=true) ∨ ¬risS r.MonthDay (1:Int) (31:Int) true=true) ∨ ¬risS r.Hour (0:Int) (23:Int) false=true) ∨ ¬risS r.Minute (0:Int) (59:Int) false=true) ∨ ¬risS r.Second (0:Int) (59:Int) false=true)->(366:Int)<=1000)/\(¬((((((¬risS r.Month (1:Int) (12:Int) false=true ∨ ¬risS r.WeekNo (1:Int) (53:Int) true=true) ∨ ¬risS r.YearDay (1:Int) (366:Int) true=true) ∨ ¬risS r.MonthDay (1:Int) (31:Int) true=true) ∨ ¬risS r.Hour (0:Int) (23:Int) false=true) ∨ ¬risS r.Minute (0:Int) (59:Int) false=true) ∨ ¬risS r.Second (0:Int) (59:Int) false=true)->r.SetPos.length<=1000000)/\(((((((¬risS r.Month (1:Int) (12:Int) false=true ∨ ¬risS r.WeekNo (1:Int) (53:Int) true=true) ∨ ¬risS r.YearDay (1:Int) (366:Int) true=true) ∨ ¬risS r.MonthDay (1:Int) (31:Int) true=true) ∨ ¬risS r.Hour (0:Int) (23:Int) false=true) ∨ ¬risS r.Minute (0:Int) (59:Int) false=true) ∨ ¬risS r.Second (0:Int) (59:Int) false=true) ∨ ¬risS r.SetPos (1:Int) (366:Int) true=true->Q false)/\(¬(((((((¬risS r.Month (1:Int) (12:Int) false=true ∨ ¬risS r.WeekNo (1:Int) (53:Int) true=true) ∨ ¬risS r.YearDay (1:Int) (366:Int) true=true) ∨ ¬risS r.MonthDay (1:Int) (31:Int) true=true) ∨ ¬risS r.Hour (0:Int) (23:Int) false=true) ∨ ¬risS r.Minute (0:Int) (59:Int) false=true) ∨ ¬risS r.Second (0:Int) (59:Int) false=true) ∨ ¬risS r.SetPos (1:Int) (366:Int) true=true)->((24:Int)<(↑r.Days.length:Int)->Q false)/\(¬(24:Int)<(↑r.Days.length:Int)->∃ (J:Int->Prop),((r.Freq=1->J (5:Int))/\(¬r.Freq=1->J (0:Int)))/\∀ (x:Int),J x->∃ (J:Int->Prop),((r.Freq=0/\(↑r.WeekNo.length:Int)=0->J (53:Int))/\(¬(r.Freq=0/\(↑r.WeekNo.length:Int)=0)->J x))/\∀ (x:Int),J x->∃ (I:Int->Prop),∃ (m:Int->Nat),I (0:Int)/\∀ (x_1:Int),I x_1->(x_1<(↑r.Days.length:Int)->(0:Int)<=x_1/\x_1<(↑r.Days.length:Int)/\(in64 (ix r.Days x_1).N->in64 (ix r.Days x_1).Day->(¬(((ix r.Days x_1).Day<0 ∨ (6:Int)<(ix r.Days x_1).Day) ∨ x<(ix r.Days x_1).N)->in64 ((0:Int)-x))/\(¬((((ix r.Days x_1).Day<0 ∨ (6:Int)<(ix r.Days x_1).Day) ∨ x<(ix r.Days x_1).N) ∨ (ix r.Days x_1).N<(0:Int)-x)/\(0:Int)<x_1->in64 (x_1-1))/\((¬((((ix r.Days x_1).Day<0 ∨ (6:Int)<(ix r.Days x_1).Day) ∨ x<(ix r.Days x_1).N) ∨ (ix r.Days x_1).N<(0:Int)-x)/\(0:Int)<x_1->(0:Int)<=x_1-1)/\(¬((((ix r.Days x_1).Day<0 ∨ (6:Int)<(ix r.Days x_1).Day) ∨ x<(ix r.Days x_1).N) ∨ (ix r.Days x_1).N<(0:Int)-x)/\(0:Int)<x_1->x_1-1<(↑r.Days.length:Int)))/\((¬((((ix r.Days x_1).Day<0 ∨ (6:Int)<(ix r.Days x_1).Day) ∨ x<(ix r.Days x_1).N) ∨ (ix r.Days x_1).N<(0:Int)-x)/\(0:Int)<x_1->in64 (ix r.Days (x_1-1)).N)->(¬((((ix r.Days x_1).Day<0 ∨ (6:Int)<(ix r.Days x_1).Day) ∨ x<(ix r.Days x_1).N) ∨ (ix r.Days x_1).N<(0:Int)-x)/\(0:Int)<x_1->in64 (ix r.Days (x_1-1)).Day)->(((((ix r.Days x_1).Day<0 ∨ (6:Int)<(ix r.Days x_1).Day) ∨ x<(ix r.Days x_1).N) ∨ (ix r.Days x_1).N<(0:Int)-x) ∨ (0:Int)<x_1/\¬lessN (Nt.mk (ix r.Days (x_1-1)).N (ix r.Days (x_1-1)).Day) (Nt.mk (ix r.Days x_1).N (ix r.Days x_1).Day)=true->Q false)/\(¬(((((ix r.Days x_1).Day<0 ∨ (6:Int)<(ix r.Days x_1).Day) ∨ x<(ix r.Days x_1).N) ∨ (ix r.Days x_1).N<(0:Int)-x) ∨ (0:Int)<x_1/\¬lessN (Nt.mk (ix r.Days (x_1-1)).N (ix r.Days (x_1-1)).Day) (Nt.mk (ix r.Days x_1).N (ix r.Days x_1).Day)=true)->in64 (x_1+1)/\I (x_1+1)/\m (x_1+1)<m x_1))))/\(¬x_1<(↑r.Days.length:Int)->((r.Freq≠0/\(0:Int)<(↑r.WeekNo.length:Int) ∨ ((1:Int)<=r.Freq/\r.Freq<=3)/\(0:Int)<(↑r.YearDay.length:Int)) ∨ r.Freq=2/\(0:Int)<(↑r.MonthDay.length:Int)->Q false)/\(¬((r.Freq≠0/\(0:Int)<(↑r.WeekNo.length:Int) ∨ ((1:Int)<=r.Freq/\r.Freq<=3)/\(0:Int)<(↑r.YearDay.length:Int)) ∨ r.Freq=2/\(0:Int)<(↑r.MonthDay.length:Int))->in64 ((↑r.Month.length:Int)+(↑r.WeekNo.length:Int))/\in64 ((↑r.Month.length:Int)+(↑r.WeekNo.length:Int)+(↑r.YearDay.length:Int))/\in64 ((↑r.Month.length:Int)+(↑r.WeekNo.length:Int)+(↑r.YearDay.length:Int)+(↑r.MonthDay.length:Int))/\in64 ((↑r.Month.length:Int)+(↑r.WeekNo.length:Int)+(↑r.YearDay.length:Int)+(↑r.MonthDay.length:Int)+(↑r.Days.length:Int))/\in64 ((↑r.Month.length:Int)+(↑r.WeekNo.length:Int)+(↑r.YearDay.length:Int)+(↑r.MonthDay.length:Int)+(↑r.Days.length:Int)+(↑r.Hour.length:Int))/\in64 ((↑r.Month.length:Int)+(↑r.WeekNo.length:Int)+(↑r.YearDay.length:Int)+(↑r.MonthDay.length:Int)+(↑r.Days.length:Int)+(↑r.Hour.length:Int)+(↑r.Minute.length:Int))/\in64 ((↑r.Month.length:Int)+(↑r.WeekNo.length:Int)+(↑r.YearDay.length:Int)+(↑r.MonthDay.length:Int)+(↑r.Days.length:Int)+(↑r.Hour.length:Int)+(↑r.Minute.length:Int)+(↑r.Second.length:Int))/\((0:Int)<(↑r.Month.length:Int)+(↑r.WeekNo.length:Int)+(↑r.YearDay.length:Int)+(↑r.MonthDay.length:Int)+(↑r.Days.length:Int)+(↑r.Hour.length:Int)+(↑r.Minute.length:Int)+(↑r.Second.length:Int) ∨ (↑r.SetPos.length:Int)=0->in64 (longL r.Hour * longL r.Minute))/\((0:Int)<(↑r.Month.length:Int)+(↑r.WeekNo.length:Int)+(↑r.YearDay.length:Int)+(↑r.MonthDay.length:Int)+(↑r.Days.length:Int)+(↑r.Hour.length:Int)+(↑r.Minute.length:Int)+(↑r.Second.length:Int) ∨ (↑r.SetPos.length:Int)=0->in64 (longL r.Hour * longL r.Minute * longL r.Second))/\Q (decide (((0:Int)<(↑r.Month.length:Int)+(↑r.WeekNo.length:Int)+(↑r.YearDay.length:Int)+(↑r.MonthDay.length:Int)+(↑r.Days.length:Int)+(↑r.Hour.length:Int)+(↑r.Minute.length:Int)+(↑r.Second.length:Int) ∨ (↑r.SetPos.length:Int)=0)/\longL r.Hour * longL r.Minute * longL r.Second<=48)))))))))
theorem VqR_eq {r:Rl} {Q:Bool->Prop}:@Eq Prop (VqR r Q) (vcFun (E:=Nqf) (inlHN Nqf H0 anqR 2) (anqR 44) Tryz.f44 [.agg [.int .i64 r.Freq,.int .i64 r.Interval,.int .i64 r.Count,.sl (N:=U) 25 r.Until,.sl (N:=U) 3 r.Month,.sl (N:=U) 3 r.WeekNo,.sl (N:=U) 3 r.YearDay,.sl (N:=U) 3 r.MonthDay,.sl (N:=U) 60 r.Days,.sl (N:=U) 3 r.Hour,.sl (N:=U) 3 r.Minute,.sl (N:=U) 3 r.Second,.sl (N:=U) 3 r.SetPos,.int .i64 r.Wkst]] [] [] 0 (resP Nqf [.bool] Q)):=by kernel_rfl
theorem VqR_ok {r:Rl} {Q:Bool->Prop} (h:VqR r Q):vcFun (E:=Nqf) (inlHN Nqf H0 anqR 2) (anqR 44) Tryz.f44 [.agg [.int .i64 r.Freq,.int .i64 r.Interval,.int .i64 r.Count,.sl (N:=U) 25 r.Until,.sl (N:=U) 3 r.Month,.sl (N:=U) 3 r.WeekNo,.sl (N:=U) 3 r.YearDay,.sl (N:=U) 3 r.MonthDay,.sl (N:=U) 60 r.Days,.sl (N:=U) 3 r.Hour,.sl (N:=U) 3 r.Minute,.sl (N:=U) 3 r.Second,.sl (N:=U) 3 r.SetPos,.int .i64 r.Wkst]] [] [] 0 (resP Nqf [.bool] Q):=by rw [<- VqR_eq]; exact h
set_option maxHeartbeats 2000000 in
theorem pqR (r:Rl) (hfw:fewR r=true):VqR r (fun y0=>y0=rightR r):=by
 unfold VqR
 obtain ⟨wmo,wwn,wyd,wmd,wdy,who,wmi,wse,wsp,wti⟩:=fewR_ok hfw
 refine ⟨fun h=>(rightR_no fun R=>by obtain ⟨a1,a2,a3,a4,a5,a6,a7,a8⟩:=R.head; omega).symm,fun h=>?_⟩
 have hH:HeadR r:=⟨by omega,by omega,by omega,by omega,by omega,by omega,by omega,by omega⟩
 refine ⟨fun _=>by decide,fun h=>by omega,fun _ _ _ _ _ _=>?_⟩
 simp only [Bool.decide_eq_true,risS_iff]
 refine ⟨fun hu=>(rightR_no fun R=>?_).symm,fun hu=>?_⟩
 . obtain ⟨a,b⟩:=R.til
   rcases hu with hu | ⟨h1,hu | hu⟩
   . omega
   . have:=(b h1).1; omega
   . exact hu (b h1).2
 have hU:UntilR r:=by
  have u1:¬ 1<(r.Until.length:Int):=fun h=>hu (.inl h)
  exact ⟨by omega,fun h1=>⟨by have:¬ 0<r.Count:=fun h=>hu (.inr ⟨h1,.inl h⟩); omega,Classical.not_not.1 fun hn=>hu (.inr ⟨h1,.inr hn⟩)⟩⟩
 clear h hu
 repeat' apply And.intro
 all_goals first | decide | omega | (intro _; first | decide | omega) | skip
 . intro hn
   refine (rightR_no fun R=>?_).symm
   have R:=R.lists
   rcases hn with ((((((h|h)|h)|h)|h)|h)|h)|h
   . exact h R.mo
   . exact h R.wn
   . exact h R.yd
   . exact h R.md
   . exact h R.ho
   . exact h R.mi
   . exact h R.se
   . exact h R.sp
 intro hn
 have hL:ListsR r:=by
  simp only [not_or,Classical.not_not] at hn
  obtain ⟨⟨⟨⟨⟨⟨⟨a,b⟩,c⟩,d⟩,e⟩,f⟩,g⟩,h⟩:=hn
  exact ⟨a,b,c,d,e,f,g,h⟩
 clear hn
 refine ⟨fun h24=>(rightR_no fun R=>by have:=R.few; omega).symm,fun h24=>?_⟩
 refine ⟨fun x=>x=if r.Freq=1 then 5 else 0,⟨fun h=>by rw [if_pos h],fun h=>by rw [if_neg h]⟩,?_⟩
 rintro m0 hm0
 refine ⟨fun x=>x=mostR r,⟨fun h=>?_,fun h=>?_⟩,?_⟩
 . unfold mostR; rw [if_neg (by omega),if_pos h]
 . rw [hm0]
   unfold mostR
   by_cases h1:r.Freq=1
   . rw [if_pos h1,if_pos h1]
   . rw [if_neg h1,if_neg h1,if_neg h]
 rintro m hm
 have hm1:0<=m/\m<=53:=by
  rw [hm]; unfold mostR
  split
  . omega
  . split <;> omega
 refine ⟨fun x=>0<=x/\x<=r.Days.length/\DaysUp r.Days m x,fun x=>((r.Days.length:Int)-x).toNat,⟨Int.le_refl _,by omega,DaysUp.nil⟩,?_⟩
 rintro x ⟨x0,x1,hd⟩
 refine ⟨fun hx=>⟨x0,hx,fun _ _=>⟨fun _=>⟨by omega,by omega⟩,fun h=>⟨by omega,by omega⟩,⟨fun h=>by omega,fun h=>by omega⟩,fun _ _=>⟨fun hb=>?_,fun hb=>?_⟩⟩⟩,fun hx=>?_⟩
 . refine (rightR_no fun R=>?_).symm
   have a:=R.days.ok x x0 hx
   rw [<- hm] at a
   obtain ⟨a1,a2,a3,a4⟩:=a
   rcases hb with (((h | h) | h) | h) | ⟨h0,h⟩
   . omega
   . omega
   . omega
   . omega
   . exact h (lessN_iff.2 (R.days.up x h0 hx))
 . have hb':=fun h=>hb (.inl h)
   exact ⟨⟨by omega,by omega⟩,⟨by omega,by omega,hd.step ⟨by omega,by omega,by omega,by omega⟩ fun h0=>lessN_iff.1 (Classical.not_not.1 fun hn=>hb (.inr ⟨h0,hn⟩))⟩,by dsimp only; omega⟩
 . refine ⟨fun hf=>(rightR_no fun R=>R.fit hf).symm,fun hf=>?_⟩
   have l1:=@longL_rg r.Hour
   have l2:=@longL_rg r.Minute
   have l3:=@longL_rg r.Second
   have k:=long3 (a:=longL r.Hour) (b:=longL r.Minute) (c:=longL r.Second) (by omega) (by omega) (by omega)
   refine ⟨⟨by omega,by omega⟩,⟨by omega,by omega⟩,⟨by omega,by omega⟩,⟨by omega,by omega⟩,⟨by omega,by omega⟩,⟨by omega,by omega⟩,⟨by omega,by omega⟩,fun _=>k.1,fun _=>k.2,?_⟩
   by_cases hs:SomeR r
   . rw [rightR_iff.2 ⟨hH,hU,hL,by omega,hm ▸ hd.done hx,hf,hs⟩]
     exact decide_eq_true hs
   . rw [rightR_no fun R=>hs R.some]
     exact decide_eq_false hs
noncomputable def cqRs (r:Rl):Q1 U:=⟨[fewR r=true],[],blB (rightR r)⟩
noncomputable def cqR (a:List (SV U)):Option (Q1 U):=match a with | [.agg l_r]=>(y30.bk (.agg l_r)).bind fun r=>some (cqRs r) | _=>none
theorem cqR_ok (args:List (SV U)) (q:Q1 U) (h:cqR args=some q) (ho:allP q.ob):LendOK Nqf 44 args ⟨q.ob,q.hy,q.v,[]⟩:=by
 unfold cqR at h
 split at h
 . rename_i l_r
   obtain ⟨r,hb_r,h⟩:=Option.bind_eq_some_iff.1 h
   cases h
   refine LendOK.conv (E:=Nqf) (args':=[.agg [.int .i64 r.Freq,.int .i64 r.Interval,.int .i64 r.Count,.sl 25 r.Until,.sl 3 r.Month,.sl 3 r.WeekNo,.sl 3 r.YearDay,.sl 3 r.MonthDay,.sl 60 r.Days,.sl 3 r.Hour,.sl 3 r.Minute,.sl 3 r.Second,.sl 3 r.SetPos,.int .i64 r.Wkst]]) (lend1 Nqf_ok (inlHN_ok Nqf_ok H0_ok anqR 2) Tryz.func44 (k:=.bool) trivial (VqR_ok (pqR r ho.1)) 0) fun D w vs hr=>tup_conv [.agg l_r] [.agg [.int .i64 r.Freq,.int .i64 r.Interval,.int .i64 r.Count,.sl (N:=U) 25 r.Until,.sl (N:=U) 3 r.Month,.sl (N:=U) 3 r.WeekNo,.sl (N:=U) 3 r.YearDay,.sl (N:=U) 3 r.MonthDay,.sl (N:=U) 60 r.Days,.sl (N:=U) 3 r.Hour,.sl (N:=U) 3 r.Minute,.sl (N:=U) 3 r.Second,.sl (N:=U) 3 r.SetPos,.int .i64 r.Wkst]] _ ⟨fun _ h=>agg_conv30 hb_r h,trivial⟩ hr
 . cases h
noncomputable def NqR:Env:=Nqf.addL 44 cqR
theorem NqR_ok:EnvOK NqR:=Nqf_ok.addL Tryz.call44 cqR_ok
end Go.Proofs.YtdjfeninmbpflaaGreat
end
section
namespace Go.Proofs
open Go.Shelf
def Tryz.lays189_ren:Go.Shelf.Ren:=⟨fun | 189=>99 | 125=>112 | 257=>111 | 128=>124 | 129=>125 | 294=>115 | 295=>116 | 296=>117 | 297=>118 | 298=>119 | 299=>120 | 216=>121 | 300=>122 | 301=>123 | 328=>126 | 329=>127 | 330=>128 | 331=>129 | 332=>130 | 215=>113 | 343=>131 | n=>n,fun | 28=>27 | 3=>3 | 46=>137 | 0=>0 | 51=>147 | 53=>149 | 4=>4 | 183=>141 | 182=>140 | 131=>144 | 5=>5 | 9=>9 | 218=>150 | 222=>154 | 228=>156 | 229=>110 | n=>n,fun | n=>n⟩
theorem Tryz.lays189:Go.Proofs.Lays.n189 Tryz.prog Tryz.lays189_ren:={
 mixed:=by kernel_rfl
 f125:=Tryz.func112.trans (congrArg some (by kernel_rfl))
 f128:=Tryz.func124.trans (congrArg some (by kernel_rfl))
 f129:=Tryz.func125.trans (congrArg some (by kernel_rfl))
 f189:=Tryz.func99.trans (congrArg some (by kernel_rfl))
 f215:=Tryz.func113.trans (congrArg some (by kernel_rfl))
 f216:=Tryz.func121.trans (congrArg some (by kernel_rfl))
 f257:=Tryz.func111.trans (congrArg some (by kernel_rfl))
 f294:=Tryz.func115.trans (congrArg some (by kernel_rfl))
 f295:=Tryz.func116.trans (congrArg some (by kernel_rfl))
 f296:=Tryz.func117.trans (congrArg some (by kernel_rfl))
 f297:=Tryz.func118.trans (congrArg some (by kernel_rfl))
 f298:=Tryz.func119.trans (congrArg some (by kernel_rfl))
 f299:=Tryz.func120.trans (congrArg some (by kernel_rfl))
 f300:=Tryz.func122.trans (congrArg some (by kernel_rfl))
 f301:=Tryz.func123.trans (congrArg some (by kernel_rfl))
 f328:=Tryz.func126.trans (congrArg some (by kernel_rfl))
 f329:=Tryz.func127.trans (congrArg some (by kernel_rfl))
 f330:=Tryz.func128.trans (congrArg some (by kernel_rfl))
 f331:=Tryz.func129.trans (congrArg some (by kernel_rfl))
 f332:=Tryz.func130.trans (congrArg some (by kernel_rfl))
 f343:=Tryz.func131.trans (congrArg some (by kernel_rfl))
 t0:=Tryz.underlying0
 a0:=Tryz.isAgg0
 z0:=Tryz.sizeOf0
 v0:=Tryz.zeroValue0
 t3:=Tryz.underlying3
 a3:=Tryz.isAgg3
 z3:=Tryz.sizeOf3
 v3:=Tryz.zeroValue3
 t4:=Tryz.underlying4
 a4:=Tryz.isAgg4
 z4:=Tryz.sizeOf4
 v4:=Tryz.zeroValue4
 t5:=Tryz.underlying5
 a5:=Tryz.isAgg5
 z5:=Tryz.sizeOf5
 v5:=Tryz.zeroValue5
 t9:=Tryz.underlying9
 a9:=Tryz.isAgg9
 z9:=Tryz.sizeOf9
 v9:=Tryz.zeroValue9
 t28:=Tryz.underlying27
 a28:=Tryz.isAgg27
 z28:=Tryz.sizeOf27
 v28:=Tryz.zeroValue27
 t46:=Tryz.underlying137
 a46:=Tryz.isAgg137
 z46:=Tryz.sizeOf137
 v46:=Tryz.zeroValue137
 t51:=Tryz.underlying147
 a51:=Tryz.isAgg147
 z51:=Tryz.sizeOf147
 v51:=Tryz.zeroValue147
 t53:=Tryz.underlying149
 a53:=Tryz.isAgg149
 z53:=Tryz.sizeOf149
 v53:=Tryz.zeroValue149
 t131:=Tryz.underlying144
 a131:=Tryz.isAgg144
 z131:=Tryz.sizeOf144
 v131:=Tryz.zeroValue144
 t182:=Tryz.underlying140
 a182:=Tryz.isAgg140
 z182:=Tryz.sizeOf140
 v182:=Tryz.zeroValue140
 t183:=Tryz.underlying141
 a183:=Tryz.isAgg141
 z183:=Tryz.sizeOf141
 v183:=Tryz.zeroValue141
 t218:=Tryz.underlying150
 a218:=Tryz.isAgg150
 z218:=Tryz.sizeOf150
 v218:=Tryz.zeroValue150
 t222:=Tryz.underlying154
 a222:=Tryz.isAgg154
 z222:=Tryz.sizeOf154
 v222:=Tryz.zeroValue154
 t228:=Tryz.underlying156
 a228:=Tryz.isAgg156
 z228:=Tryz.sizeOf156
 v228:=Tryz.zeroValue156
 t229:=Tryz.underlying110
 a229:=Tryz.isAgg110
 z229:=Tryz.sizeOf110
 v229:=Tryz.zeroValue110 }
open Go.Sort Go.RowKit in
theorem Tryz.slices_Sort_int (blk off cap:Nat) (zs:List Int) (w:World) (hH:Holds (Value.int .i64) w blk off zs.toArray) (hblk:blk<w.heap.size) (hsz:zs.length<4611686018427387904) :
  Calls Tryz.prog 99 #[.slice (some ⟨blk,off,none⟩) zs.length cap] w fun e w' =>
   e=.returned (.tuple #[])/\∃ n os,w'=grow (putRow (Value.int .i64) (Sort.ahead w n) blk off (zs.mergeSort fun x y=>decide (x<=y)).toArray) os:=Any.slices_Sort_int Tryz.lays189 blk off cap zs w hH hblk hsz
def Tryz.laysNm215_ren:Go.Shelf.Ren:=⟨fun | 15=>98 | n=>n,fun | 22=>27 | 3=>3 | 4=>4 | n=>n,fun | n=>n⟩
theorem Tryz.laysNm215:Go.Proofs.Lays2.n15 Tryz.prog Tryz.laysNm215_ren:={
 mixed:=by kernel_rfl
 f15:=Tryz.func98.trans (congrArg some (by kernel_rfl))
 t3:=Tryz.underlying3
 a3:=Tryz.isAgg3
 z3:=Tryz.sizeOf3
 v3:=Tryz.zeroValue3
 t4:=Tryz.underlying4
 a4:=Tryz.isAgg4
 z4:=Tryz.sizeOf4
 v4:=Tryz.zeroValue4
 t22:=Tryz.underlying27
 a22:=Tryz.isAgg27
 z22:=Tryz.sizeOf27
 v22:=Tryz.zeroValue27
 i3:=by kernel_rfl }
open Go.RowKit Go.Lib in
theorem Tryz.slices_Clone_int (b off n c:Nat) (zs:List Int) (w:World) (hz:n<=zs.length) (hbig:n * 8<=140737488355328) (hc:∀ j,j<zs.length->w.cell? ⟨b,off+j,none⟩=some (.int .i64 (zs.getD j 0))) :
  Calls Tryz.prog 98 #[.slice (some ⟨b,off,none⟩) n c] w fun e w'=>∃ v',e=.returned v'/\w'.ownsRow w.heap.size 3 1 v' n ((zs.take n).map (Value.int .i64))/\v'≠.slice none 0 0/\Below w.heap.size w w':=Any.slices_Clone_int Tryz.laysNm215 b off n c zs w hz hbig hc
open Go.RowKit Go.Lib in
theorem Tryz.slices_Clone_int_nil (n c:Nat) (w:World) :
  Calls Tryz.prog 98 #[.slice none n c] w fun e w'=>e=.returned (.slice none 0 0)/\w'=w:=Any.slices_Clone_int_nil Tryz.laysNm215 n c w
open Go.RowKit Go.Lib in
theorem Tryz.slices_Clone_int_zero (a:Addr) (c:Nat) (w:World) :
  Calls Tryz.prog 98 #[.slice (some a) 0 c] w fun e w'=>∃ v',e=.returned v'/\w'.ownsRow w.heap.size 3 1 v' 0 []/\v'≠.slice none 0 0/\Below w.heap.size w w':=Any.slices_Clone_int_zero Tryz.laysNm215 a c w
def Tryz.laysNm220_ren:Go.Shelf.Ren:=⟨fun | 20=>100 | n=>n,fun | 22=>27 | 3=>3 | 4=>4 | 0=>0 | n=>n,fun | n=>n⟩
theorem Tryz.laysNm220:Go.Proofs.Lays2.n20 Tryz.prog Tryz.laysNm220_ren:={
 mixed:=by kernel_rfl
 f20:=Tryz.func100.trans (congrArg some (by kernel_rfl))
 t0:=Tryz.underlying0
 a0:=Tryz.isAgg0
 z0:=Tryz.sizeOf0
 v0:=Tryz.zeroValue0
 t3:=Tryz.underlying3
 a3:=Tryz.isAgg3
 z3:=Tryz.sizeOf3
 v3:=Tryz.zeroValue3
 t4:=Tryz.underlying4
 a4:=Tryz.isAgg4
 z4:=Tryz.sizeOf4
 v4:=Tryz.zeroValue4
 t22:=Tryz.underlying27
 a22:=Tryz.isAgg27
 z22:=Tryz.sizeOf27
 v22:=Tryz.zeroValue27
 i3:=by kernel_rfl }
open Go.RowKit Go.Lib Go.Sort in
theorem Tryz.slices_Compact_int (blk off cap:Nat) (zs:List Int) (w:World) (hH:Holds (Value.int .i64) w blk off zs.toArray) (hsz:zs.length<=9223372036854775807) (hcap:zs.length<=cap) :
  Calls Tryz.prog 100 #[.slice (some ⟨blk,off,none⟩) zs.length cap] w fun e w'=>e=.returned (.slice (some ⟨blk,off,none⟩) (Lib.compact zs).length cap)/\∃ q,w'=putRow (Value.int .i64) (Sort.ahead w q) blk off (Lib.compact zs++List.replicate (zs.length-(Lib.compact zs).length) 0).toArray:=Any.slices_Compact_int Tryz.laysNm220 blk off cap zs w hH hsz hcap
open Go.RowKit Go.Lib Go.Sort in
theorem Tryz.slices_Compact_int_empty (a:Option Addr) (cap:Nat) (w:World) :
  Calls Tryz.prog 100 #[.slice a 0 cap] w fun e w'=>e=.returned (.slice a 0 cap)/\w'=w:=Any.slices_Compact_int_empty Tryz.laysNm220 a cap w
open Go.RowKit Go.Sort in
theorem Tryz.slices_Sort_int_none (p:Option Addr) (cap:Nat) (w:World) :
  Calls Tryz.prog 99 #[.slice p 0 cap] w fun e w'=>e=.returned (.tuple #[])/\w'=w:=Any.slices_Sort_int_none Tryz.lays189 p cap w
end Go.Proofs
end
section
namespace Go.Proofs.YtdjfeninmbpflaaGreat
open Go Go.Wk Go.Wl Go.Rx Go.Re Go.Proofs Go.RowKit
theorem below_ext {w w1 w':World} (hs:Sim w w1) (h:RowKit.Below w1.heap.size w1 w'):Ext [] w w':=by
 obtain ⟨k,rfl⟩:=hs
 exact ⟨h.os,h.tape,h.output,h.size,fun b hb _=>h.block b hb⟩
theorem Sim.cell {w w1:World} (h:Sim w w1) (a:Addr):w1.cell? a=w.cell? a:=by obtain ⟨k,rfl⟩:=h; rfl
theorem row_ac {Z:Nat->Prop} {w w2:World} {v':Value} {n:Nat} {xs:List Value} {l:List Int} (hl:l.length=n) (hl63:∀ s∈l,InI s) (hx:xs=l.map (Value.int .i64)) (ho:w2.ownsRow w.heap.size 3 1 v' n xs):∃ bs,(∀ b∈bs,w.heap.size<=b)/\Ac dInt Z w2 v' l bs:=by
 subst hx
 rcases ho.2 with ⟨hv,hn⟩ | ⟨g,cap',cur,hv,hbg,hg,hn,hcm,hcs,hct⟩
 . exact ⟨[],fun _ h=>(by cases h),.inl ⟨hv,List.eq_nil_of_length_eq_zero (by omega),rfl⟩⟩
 . refine ⟨[g],fun b hb=>by rw [List.mem_singleton.1 hb]; exact hbg,.inr ⟨g,cap',cur.toList,3,by rw [hl]; exact hv,rfl,⟨(0,0),.inl rfl,hg⟩,by rw [Array.length_toList]; exact hcs,by omega,fun i hi=>?_⟩⟩
   refine ⟨[.int .i64 l[i]],rfl,fun j hj=>?_,⟨rfl,hl63 _ (List.getElem_mem _)⟩⟩
   have hj0:j=0:=by have hj:j<1:=hj; omega
   subst hj0
   have e3:i * dInt.sz+0=i:=by show i * 1+0=i; omega
   rw [e3]
   have:=congrArg (fun x=>x[i]?) hct
   rw [Nat.mul_one,List.getElem?_take_of_lt (by omega),List.getElem?_map,List.getElem?_eq_getElem hi] at this
   simpa using this
theorem clone_run (l:List Int) (D Z:Nat->Prop) (w w1:World) (hs:Sim w w1) (v:Value) (hv:(dSlice dInt).rd D w [v] l) (h1:l.length<=1000000) :
  Calls Tryz.prog 98 #[v] w1 fun e w2=>∃ v' bs,e=.returned v'/\Ext [] w w2/\(∀ b∈bs,w.heap.size<=b)/\Ac dInt Z w2 v' l bs:=by
 have hsz:w1.heap.size=w.heap.size:=by obtain ⟨k,rfl⟩:=hs; rfl
 obtain ⟨hl63,A,cap,e,⟨_,hcap⟩,hc⟩:=hv
 simp only [List.cons.injEq,and_true] at e
 subst e
 by_cases h0:l.length=0
 . have hl:=List.eq_nil_of_length_eq_zero h0
   rw [h0]
   cases A with
   | none=>exact Calls.mono (Tryz.slices_Clone_int_nil 0 cap w1) fun e w2 ⟨he,hw⟩=>⟨_,[],he,by subst hw; exact sim_ext hs (Ext.refl _ _),fun _ h=>(by cases h),.inl ⟨rfl,hl,rfl⟩⟩
   | some a =>
    refine Calls.mono (Tryz.slices_Clone_int_zero a cap w1) fun e w2 ⟨v',he,ho,_,hbl⟩=>?_
    rw [hsz] at ho
    obtain ⟨bs,hb,hac⟩:=row_ac (Z:=Z) (l:=l) h0 (fun s hs=>by rw [hl] at hs; cases hs) (by rw [hl]; rfl) ho
    exact ⟨v',bs,he,below_ext hs hbl,hb,hac⟩
 obtain ⟨b,o,c,eA,hb,hcell,hrd⟩:=hc 0 (by omega)
 subst eA
 have hcells:∀ (j:Nat),j<l.length->w1.cell? ⟨b,o+j,none⟩=some (.int .i64 (l.getD j 0)):=fun j hj=>by
  rw [Sim.cell hs,List.getD_eq_getElem?_getD,List.getElem?_eq_getElem hj]
  obtain ⟨b',o',c',eA',_,hcell',hrd'⟩:=hc j hj
  simp only [Option.some.injEq,Addr.mk.injEq] at eA'
  obtain ⟨rfl,rfl,-⟩:=eA'
  have hc1:=hrd'.1
  subst hc1
  obtain ⟨C,T,z,hh,hC⟩:=hcell'
  have:=hC 0 (by simp)
  have e1:o+j * dInt.sz+0=o+j:=by show o+j * 1+0=o+j; omega
  rw [e1] at this
  unfold World.cell?
  simp only [hh]
  simpa using this
 refine Calls.mono (Tryz.slices_Clone_int b o l.length cap l w1 (Nat.le_refl _) (by omega) hcells) fun e w2 ⟨v',he,ho,hne,hbl⟩=>?_
 rw [hsz] at ho
 obtain ⟨bs,hb',hac⟩:=row_ac (Z:=Z) (l:=l) rfl (fun s hs=>by
  obtain ⟨i,hi,rfl⟩:=List.getElem_of_mem hs
  obtain ⟨_,_,_,_,_,_,h⟩:=hc i hi
  exact h.2) (by rw [List.take_of_length_le (Nat.le_refl _)]) ho
 exact ⟨v',bs,he,below_ext hs hbl,hb',hac⟩
theorem ac_con {K nx:Nat} {args:List (SV U)} {l:List Int} {ob:List Prop} (hl:l.length<=1000000)
  (h:∀ (ρ:Env1) (Z:Nat->Prop) (w:World) (vs:List Value),Rep U eT ρ Z w (.tuple vs.toArray) (.tup args)->∀ w1,Sim w w1->Calls Tryz.prog K vs.toArray w1 fun e w2=>∃ v' bs,e=.returned v'/\Ext [] w w2/\(∀ b∈bs,w.heap.size<=b)/\Ac dInt Z w2 v' l bs) :
  ConOK Tryz.prog U eT Gl K args nx ⟨ob,[],.acc nx,[.ac (N:=U) 3 l]⟩:=⟨fun ρ Z w vs hfr hz _ ha w1 hs=>by
 refine Calls.mono (h ρ Z w vs ha w1 hs) fun e w2 ⟨v',bs,he,hx,hb,hac⟩=>?_
 obtain ⟨A,cap,rfl⟩:∃ A cap,v'=.slice A l.length cap:=by
  rcases hac with ⟨e1,e2,_⟩ | ⟨b,cap,C,T,e1,_⟩
  . subst e1; subst e2; exact ⟨_,_,rfl⟩
  . exact ⟨_,_,e1⟩
 have hsub:=rset_sub (L:=⟨0,A,l.length,cap,bs⟩) (hfr nx (Nat.le_refl _))
 refine ⟨_,w2,he,Sim.refl _,rset ρ nx ⟨0,A,l.length,cap,bs⟩,Z,hsub,fun i hi=>by have hi:nx+1<=i:=hi; unfold rset; rw [if_neg (by omega)]; exact hfr i (by omega),fun _ h=>h,fun _ h=>.inl h,.acc rset_self,?_,trivial⟩
 refine (Sep.nil hz).add hx ⟨_,rset_self,rfl,(show l.length<=9223372036854775807 by omega),hac⟩ toIt_stab (fun b hb'=>?_) rfl
 have hb':b∈foot U (rset ρ nx ⟨0,A,l.length,cap,bs⟩) nx (.ac (N:=U) 3 l):=hb'
 have hb':b∈bs:=Eq.mp (congrArg (b∈·) (foot_ac (N:=U) (id:=nx) (t:=3) (l:=(l:List (U.U 3))) (rset_self (ρ:=ρ) (id:=nx)))) hb'
 exact ⟨hb b hb',hac.lt b hb'⟩⟩
def cCl (a:List (SV U)) (nx:Nat):Option (CR U):=match a with | [.sl 3 l]=>some ⟨[List.length (α:=Int) l<=1000000],[],.acc nx,[.ac (N:=U) 3 l]⟩ | _=>none
theorem cCl_ok (args:List (SV U)) (nx:Nat) (c:CR U) (h:cCl args nx=some c) (hpu:args.all pureS=true) (ho:allP c.ob):ConOK Tryz.prog U eT Gl 98 args nx c:=by
 unfold cCl at h
 split at h
 . rename_i l
   cases h
   exact ac_con ho.1 fun ρ Z w vs ha w1 hs=>by
    obtain ⟨v1,r1,rfl,hv1,ha⟩:=Rep.tup_cons ha
    obtain rfl:=tup0_inv ha
    cases hv1 with | sl hv=>exact clone_run l Z Z w w1 hs v1 hv ho.1
 . cases h
theorem gen_acS {K:Nat} {l l':List Int} (hn:l'.length=l.length) (h:∀ (Z:Nat->Prop) (w:World) (v:Value) (bs:List Nat),Ac dInt Z w v l bs->CallR Tryz.prog K [v] w fun _ w'=>Ac dInt Z w' v l' bs/\Ext bs w w') :
  GenOK Tryz.prog U eT Gl K [.acc 0] [(0,.ac (N:=U) 3 l)] 2 (fun k=>True->k .un [(0,.ac (N:=U) 3 l')] 2):=by
 intro kk hk ρ Z w vs B hfr hsep hg ha
 have ok:=hsep.ok 0 (toIt U eT ρ B 0 (.ac (N:=U) 3 l)) rfl
 obtain ⟨L,hL,hLn,hlen,hac⟩:=ok.holds
 have hF:(toIt U eT ρ B 0 (.ac (N:=U) 3 l)).F=L.bs:=by show foot U ρ 0 (.ac (N:=U) 3 l)=_; exact foot_ac hL
 obtain ⟨v1,vr,hvs,hv1,hvr⟩:=Rep.tup_cons ha
 obtain rfl:=tup0_inv hvr
 have hv1':v1=.slice L.A L.n L.cap:=by
  cases hv1 with | acc hL'=>rw [hL] at hL'; cases hL'; rfl
 subst hv1'
 rw [hvs]
 refine (h Z w _ L.bs hac).mono fun v w' ⟨hac',x1⟩=>?_
 have hs1:=Wl.Sep.upd hsep 0 (t:=toIt U eT ρ B 0 (.ac (N:=U) 3 l)) (t':=toIt U eT ρ B 0 (.ac (N:=U) 3 l')) rfl (by rw [hF]; exact x1) ⟨L,hL,by rw [hLn]; exact hn.symm,(show l'.length<=_ by rw [hn]; exact hlen),hac'⟩ toIt_stab (fun b hb=>by
  have hb:b∈foot U ρ 0 (.ac (N:=U) 3 l'):=hb
  have hb:b∈L.bs:=Eq.mp (congrArg (b∈·) (foot_ac (N:=U) (id:=0) (t:=3) (l:=(l':List (U.U 3))) hL)) hb
  exact ⟨by rw [hF]; exact .inl hb,hac'.lt b hb⟩) rfl
 exact ⟨ρ,Z,.un,[(0,.ac (N:=U) 3 l')],2,hs1,hfr,fun _ _ h=>h,fun _ h=>h,fun _ h=>.inl h,.un,hk trivial⟩
theorem gen_acC {K:Nat} {l l':List Int} (hn:l'.length<=9223372036854775807) (h:∀ (Z:Nat->Prop) (w:World) (v:Value) (bs:List Nat),Ac dInt Z w v l bs->CallR Tryz.prog K [v] w fun v' w'=>Ac dInt Z w' v' l' bs/\Ext bs w w') :
  GenOK Tryz.prog U eT Gl K [.acc 0] [(0,.ac (N:=U) 3 l)] 2 (fun k=>True->k (.acc 2) [(2,.ac (N:=U) 3 l')] 3):=by
 intro kk hk ρ Z w vs B hfr hsep hg ha
 have ok:=hsep.ok 0 (toIt U eT ρ B 0 (.ac (N:=U) 3 l)) rfl
 obtain ⟨L,hL,hLn,hlen,hac⟩:=ok.holds
 have hF:(toIt U eT ρ B 0 (.ac (N:=U) 3 l)).F=L.bs:=by show foot U ρ 0 (.ac (N:=U) 3 l)=_; exact foot_ac hL
 obtain ⟨v1,vr,hvs,hv1,hvr⟩:=Rep.tup_cons ha
 obtain rfl:=tup0_inv hvr
 have hv1':v1=.slice L.A L.n L.cap:=by
  cases hv1 with | acc hL'=>rw [hL] at hL'; cases hL'; rfl
 subst hv1'
 rw [hvs]
 refine (h Z w _ L.bs hac).mono fun v w' ⟨hac',x1⟩=>?_
 obtain ⟨A,cap,rfl⟩:∃ A cap,v=.slice A l'.length cap:=by
  rcases hac' with ⟨e1,e2,_⟩ | ⟨b,cap,C,T,e1,_⟩
  . subst e1; subst e2; exact ⟨_,_,rfl⟩
  . exact ⟨_,_,e1⟩
 have hρ:=rset_sub (L:=⟨0,A,l'.length,cap,L.bs⟩) (hfr 2 (Nat.le_refl _))
 have hs1:=Wl.Sep.upd hsep 0 (t:=toIt U eT ρ B 0 (.ac (N:=U) 3 l)) (t':=toIt U eT (rset ρ 2 ⟨0,A,l'.length,cap,L.bs⟩) B 2 (.ac (N:=U) 3 l')) rfl (by rw [hF]; exact x1) ⟨_,rset_self,rfl,hn,hac'⟩ toIt_stab (fun b hb=>by
  have hb:b∈foot U (rset ρ 2 ⟨0,A,l'.length,cap,L.bs⟩) 2 (.ac (N:=U) 3 l'):=hb
  have hb:b∈L.bs:=Eq.mp (congrArg (b∈·) (foot_ac (N:=U) (id:=2) (t:=3) (l:=(l':List (U.U 3))) (rset_self (ρ:=ρ) (id:=2)))) hb
  exact ⟨by rw [hF]; exact .inl hb,hac'.lt b hb⟩) rfl
 exact ⟨rset ρ 2 ⟨0,A,l'.length,cap,L.bs⟩,Z,.acc 2,[(2,.ac (N:=U) 3 l')],3,hs1,fun i hi=>by unfold rset; rw [if_neg (by omega)]; exact hfr i (by omega),hρ,fun _ h=>h,fun _ h=>.inl h,.acc rset_self,hk trivial⟩
def fSo:FC U:=⟨[],[],fun a its=>match a,its with
 | [.acc 0],[(0,.ac 3 l)]=>some ⟨[List.length (α:=Int) l<=1000000],[],.un,[(0,.ac (N:=U) 3 (srt l))],2⟩
 | _,_=>none⟩
theorem fSo_ok (args:List (SV U)) (its:Items U) (r:FR U) (h:fSo.C args its=some r) (ho:allP r.ob):GenOK Tryz.prog U eT Gl 99 args its (2 * its.length) (fun k=>allP r.hy->k r.v r.its r.n):=by
 unfold fSo at h
 simp only at h
 split at h
 . rename_i l
   cases h
   have ho1:List.length (α:=Int) l<=1000000:=ho.1
   exact gen_acS (srt_len l) fun Z w v bs hac=>sort_ac Tryz.slices_Sort_int_none Tryz.slices_Sort_int hac (by omega)
 . cases h
theorem compact_len (l:List Int):(Lib.compact l).length<=l.length:=by
 unfold Lib.compact Lib.compactUpTo
 rw [List.length_map]
 have:=List.length_filter_le (Lib.keeps l.toArray) (List.range l.length)
 rwa [List.length_range] at this
theorem compact_mem {l:List Int} {x:Int} (h:x∈Lib.compact l):x∈l:=by
 unfold Lib.compact Lib.compactUpTo at h
 obtain ⟨j,hj,rfl⟩:=List.mem_map.1 h
 have hj:=List.mem_range.1 (List.mem_filter.1 hj).1
 have e:l.toArray[j]! = l[j]:=by simp [hj]
 rw [e]
 exact List.getElem_mem hj
theorem compact_ac {Z:Nat->Prop} {bs:List Nat} {w:World} {v:Value} {l:List Int} (h:Ac dInt Z w v l bs) (hl:l.length<=1000000) :
  CallR Tryz.prog 100 [v] w fun v' w'=>Ac dInt Z w' v' (Lib.compact l) bs/\Ext bs w w':=by
 intro w1 hs
 obtain ⟨k,rfl⟩:=hs
 rcases h with ⟨rfl,rfl,rfl⟩ | ⟨b,cap,C,T,rfl,rfl,ho,hC,hle,hc⟩
 . refine Calls.mono (Tryz.slices_Compact_int_empty none 0 _) ?_
   rintro e w2 ⟨rfl,rfl⟩
   exact ⟨_,w,rfl,⟨k,rfl⟩,.inl ⟨rfl,rfl,rfl⟩,Ext.refl _ _⟩
 . obtain ⟨z,hz,ho⟩:=ho
   have hsz:C.length=cap:=by simpa [dInt] using hC
   have hget:∀ i (h:i<l.length),C[i]?=some (.int .i64 l[i])/\InI l[i]:=by
    intro i hi
    obtain ⟨c,h1,h2,h3⟩:=hc i hi
    have:=h2 0 (by simp [dInt])
    simp only [dInt,Nat.mul_one,Nat.add_zero] at this h3
    rw [this,h3.1]; exact ⟨rfl,h3.2⟩
   refine Calls.mono (Tryz.slices_Compact_int b 0 cap l { w with drawn:=k } (fun j hj=>?_) (by omega) hle) ?_
   . have hj':j<l.length:=by simpa using hj
     constructor
     . simp only [World.cell?,show ({ w with drawn:=k }:World).heap[b]?=_ from ho]
       simp [(hget j hj').1,hj']
     . rcases hz with rfl | hz
       . simp [World.frozen?,show ({ w with drawn:=k }:World).heap[b]?=_ from ho]
       . simp [World.frozen?,show ({ w with drawn:=k }:World).heap[b]?=_ from ho]; omega
   . rintro e w2 ⟨rfl,n,rfl⟩
     have hcl:=compact_len l
     have hmem:∀ x∈Lib.compact l,x∈l:=fun x=>compact_mem
     generalize Lib.compact l=cl at hcl hmem
     obtain ⟨fl,hfl⟩:∃ fl,fl=(cl++List.replicate (l.length-cl.length) 0).toArray:=⟨_,rfl⟩
     rw [<- hfl]
     have hfs:fl.size=l.length:=by rw [hfl]; simp; omega
     have hfi:∀ i (h:i<cl.length) (h':i<fl.size),fl[i]=cl[i]:=by
      intro i h h'
      subst hfl
      simp [h]
     clear hfl
     have hh:(Sort.putRow (Value.int .i64) (Sort.ahead w n) b 0 fl).heap[b]?=some (.cells (Sort.putCells (Value.int .i64) 0 fl C.toArray) T z):=by
      simp only [Sort.putRow,Sort.mapBlock,Sort.ahead,Array.getElem?_modify,if_true]
      rw [show w.heap[b]?=_ from ho]; rfl
     have ho':OwnZ (Sort.putRow (Value.int .i64) (Sort.ahead w n) b 0 fl) b T (Sort.putCells (Value.int .i64) 0 fl C.toArray).toList:=by
      refine ⟨z,?_,by rw [hh]⟩
      simpa [Sort.putCells] using hz
     refine ⟨_,Sort.putRow (Value.int .i64) (Sort.ahead w n) b 0 fl,rfl,⟨k+n,rfl⟩,.inr ⟨b,cap,_,T,rfl,rfl,ho',?_,by omega,?_⟩,⟨rfl,rfl,rfl,?_,?_⟩⟩
     . simp [Sort.putCells,dInt,hsz]
     . intro i hi
       refine ⟨[.int .i64 cl[i]],rfl,fun j hj=>?_,rfl,?_⟩
       . have:j=0:=by simp [dInt] at hj; omega
         subst this
         have hci:i<C.length:=by omega
         have hil:i<fl.size:=by omega
         simp [Sort.putCells,dInt,Array.getElem?_mapIdx,hci,hil,hfi i hi hil]
       . obtain ⟨j,hj,e⟩:=List.getElem_of_mem (hmem _ (List.getElem_mem hi))
         rw [<- e]; exact (hget j hj).2
     . simp [Sort.ahead,Sort.putRow,Sort.mapBlock]
     . intro x hx hn
       have hne:x≠b:=by simpa using hn
       simp only [Sort.putRow,Sort.mapBlock,Sort.ahead,Array.getElem?_modify]
       rw [if_neg (Ne.symm hne)]
def fCo:FC U:=⟨[],[],fun a its=>match a,its with
 | [.acc 0],[(0,.ac 3 l)]=>some ⟨[List.length (α:=Int) l<=1000000],[],.acc 2,[(2,.ac (N:=U) 3 (Lib.compact (α:=Int) l))],3⟩
 | _,_=>none⟩
theorem fCo_ok (args:List (SV U)) (its:Items U) (r:FR U) (h:fCo.C args its=some r) (ho:allP r.ob):GenOK Tryz.prog U eT Gl 100 args its (2 * its.length) (fun k=>allP r.hy->k r.v r.its r.n):=by
 unfold fCo at h
 simp only at h
 split at h
 . rename_i l
   cases h
   have ho1:List.length (α:=Int) l<=1000000:=ho.1
   exact gen_acC (by have:=compact_len l; omega) fun Z w v bs hac=>compact_ac hac ho1
 . cases h
end Go.Proofs.YtdjfeninmbpflaaGreat
end
section
namespace Go.Proofs.YtdjfeninmbpflaaGreat
open Go Go.Wk Go.Wl Go.Rx Go.Re 
noncomputable def N2:Env:=(((NqR.addC 98 cCl).addX 99 fSo).addX 100 fCo)
theorem N2_ok:EnvOK N2:=((NqR_ok.addC Tryz.call98 cCl_ok).addX Tryz.call99 fSo_ok).addX Tryz.call100 fCo_ok
end Go.Proofs.YtdjfeninmbpflaaGreat
end
section
namespace Go.Re
open Go.Wl
open Go.Rx (in64)
def hasN (l:List Int) (n:Int):Bool:=decide (n∈l)
theorem hasN_iff {l:List Int} {n:Int}:hasN l n=true↔n∈l:=by unfold hasN; exact decide_eq_true_iff
theorem ix_of_mem {α:Type} [Inhabited α] {l:List α} {x:α} (h:x∈l):∃ i:Int,0<=i/\i<l.length/\ix l i=x:=by
 obtain ⟨k,hk,e⟩:=List.getElem_of_mem h
 refine ⟨k,by omega,by omega,?_⟩
 rw [ix_get (by omega)]
 exact e
theorem hasN_yes {l:List Int} {n i:Int} (h0:0<=i) (h1:i<l.length) (h:ix l i=n):hasN l n=true:=hasN_iff.2 (h ▸ ix_memR h0 h1)
theorem hasN_no {l:List Int} {n:Int} (h:∀ i:Int,0<=i->i<l.length->ix l i≠n):hasN l n=false:=decide_eq_false fun hm=>by
 obtain ⟨i,h0,h1,e⟩:=ix_of_mem hm
 exact h i h0 h1 e
def eqLS (a b:List Int):Bool:=decide (a=b)
theorem list_ix {a b:List Int} (hl:a.length=b.length) (h:∀ i:Int,0<=i->i<a.length->ix a i=ix b i):a=b:=List.ext_getElem hl fun i h1 h2=>by
 have:=h i (by omega) (by omega)
 rw [ix_get (by omega),ix_get (by omega)] at this
 exact this
def hasE (l:List Int) (n all:Int):Bool:=hasN l n || hasN l (n-all-1)
def partE (l:List Int) (n all:Int):Bool:=decide ((l.length:Int)=0) || hasE l n all
def cmpS (x y:Int):Int:=if x<y then -1 else if y<x then 1 else 0
def byDayS (a b:Nt):Int:=if cmpS a.Day b.Day≠0 then cmpS a.Day b.Day else cmpS a.N b.N
theorem byDay_less {a b:Nt}:0<=byDayS a b↔¬ LessN a b:=by
 unfold byDayS cmpS LessN
 by_cases h1:a.Day<b.Day
 . simp [h1]
 . by_cases h2:b.Day<a.Day
   . simp [h1,h2]; omega
   . have e:a.Day=b.Day:=by omega
     by_cases h3:a.N<b.N
     . simp [e,h3]
     . by_cases h4:b.N<a.N
       . simp [e,h3,h4]
       . simp [e,h3,h4]
open Classical in
noncomputable def fitR (r:Rl):Bool:=decide (FitR r)
open Classical in
theorem fit_t {r:Rl} (h:FitR r):true=fitR r:=(decide_eq_true h).symm
open Classical in
theorem fit_f {r:Rl} (h:¬ FitR r):false=fitR r:=(decide_eq_false h).symm
def setL (l:List Int):List Int:=Lib.compact (srt l)
def UpL (l:List Int):Prop:=∀ i:Int,0<i->i<l.length->ix l (i-1)<ix l i
theorem upL_pair {l:List Int} (h:UpL l):∀ (j i:Nat) (hi:i<j) (hj:j<l.length),l[i]'(by omega)<l[j]:=by
 intro j
 induction j with
 | zero=>intro i hi; omega
 | succ j ih =>
  intro i hi hj
  have h1:=h (j+1:Nat) (by omega) (by omega)
  have e:((j+1:Nat):Int)-1=(j:Int):=by omega
  rw [e,ix_get (by omega),ix_get (by omega)] at h1
  have h1:l[j]<l[j+1]:=h1
  by_cases e:i=j
  . subst e; exact h1
  . have:=ih i (by omega) (by omega)
    omega
theorem compact_all {l:List Int} (h:∀ j,j<l.length->Lib.keeps l.toArray j=true):Lib.compact l=l:=by
 unfold Lib.compact Lib.compactUpTo
 rw [List.filter_eq_self.2 fun j hj=>h j (List.mem_range.1 hj)]
 apply List.ext_getElem
 . simp
 . intro i h1 h2
   simp [h2]
theorem compact_full {l:List Int} (h:(Lib.compact l).length=l.length):∀ j,j<l.length->Lib.keeps l.toArray j=true:=by
 unfold Lib.compact Lib.compactUpTo at h
 rw [List.length_map] at h
 have h2:((List.range l.length).filter (Lib.keeps l.toArray)).length=(List.range l.length).length:=by rw [h,List.length_range]
 have:=List.length_filter_eq_length_iff.1 h2
 exact fun j hj=>this j (List.mem_range.2 hj)
theorem keeps_iff {l:List Int} {j:Nat} (hj:j<l.length):Lib.keeps l.toArray j=true↔(j=0 ∨ ix l ((j:Int)-1)≠ix l j):=by
 unfold Lib.keeps
 by_cases h0:j=0
 . subst h0; simp
 . have e1:l.toArray[j]! = ix l j:=by
     rw [ix_get (by omega)]; simp [hj]
   have e2:l.toArray[j-1]! = ix l ((j:Int)-1):=by
    rw [ix_get (by omega)]
    have:((j:Int)-1).toNat=j-1:=by omega
    simp only [this]
    have hj1:j-1<l.length:=by omega
    simp [hj1]
   rw [e1,e2,decide_eq_true_iff]
   exact ⟨fun h=>h.imp id fun h e=>h e.symm,fun h=>h.imp id fun h e=>h e.symm⟩
theorem srt_self {l:List Int} (h:UpL l):srt l=l:=by
 unfold srt
 apply List.mergeSort_of_pairwise
 rw [List.pairwise_iff_getElem]
 intro i j hi hj hij
 have:=upL_pair h j i hij hj
 exact decide_eq_true (by omega)
theorem setL_iff {l:List Int}:l=setL l↔UpL l:=by
 constructor
 . intro h
   have hlen:(Lib.compact (srt l)).length=(srt l).length:=by
    rw [srt_len]
    exact congrArg List.length h.symm
   have hk:=compact_full hlen
   have hs:srt l=l:=by
    have:=compact_all hk
    unfold setL at h
    rw [this] at h
    exact h.symm
   rw [hs] at hk
   have hp:=srt_le l
   rw [hs] at hp
   intro i h0 h1
   have k1:=(keeps_iff (l:=l) (j:=i.toNat) (by omega)).1 (hk i.toNat (by omega))
   have e:((i.toNat:Nat):Int)=i:=by omega
   rw [e] at k1
   have k2:ix l (i-1)<=ix l i:=by
    rw [ix_get (by omega),ix_get (by omega)]
    exact List.pairwise_iff_getElem.1 hp _ _ (by omega) (by omega) (by omega)
   rcases k1 with k1 | k1
   . omega
   . omega
 . intro h
   unfold setL
   rw [srt_self h,compact_all]
   intro j hj
   refine (keeps_iff hj).2 ?_
   by_cases h0:j=0
   . exact .inl h0
   . right
     have:=h j (by omega) (by omega)
     omega
end Go.Re
end
section
namespace Go.Proofs.YtdjfeninmbpflaaGreat
open Go Go.Wk Go.Wl Go.Rx Go.Re 
attribute [local irreducible] vcFun
def angS:Nat->Ann:=fun | 68=>⟨9,fun _=>none,fun _=>none⟩ | _=>⟨0,fun _=>none,fun _=>none⟩
def VgS (l:List Int) (Q:List Int->Prop):Prop :=
l.length<=1000000/\l.length<=1000000/\(srt l).length<=1000000/\Q (Lib.compact (srt l))
theorem VgS_eq {l:List Int} {Q:List Int->Prop}:@Eq Prop (VgS l Q) (vcFun (E:=N2) (inlHN N2 H0 angS 2) (angS 68) Tryz.f68 [.sl (N:=U) 3 l] [] [] 0 (resP N2 [.acc 3] Q)):=by kernel_rfl
theorem VgS_ok {l:List Int} {Q:List Int->Prop} (h:VgS l Q):vcFun (E:=N2) (inlHN N2 H0 angS 2) (angS 68) Tryz.f68 [.sl (N:=U) 3 l] [] [] 0 (resP N2 [.acc 3] Q):=by rw [<- VgS_eq]; exact h
theorem pgS (l:List Int) (h0:l.length<=1000000):VgS l (fun y0=>y0=setL l):=by
 unfold VgS
 exact ⟨h0,h0,by rw [srt_len]; exact h0,rfl⟩
def cgS (a:List (SV U)) (nx:Nat):Option (CR U):=match a with | [.sl 3 l]=>some ⟨[List.length (α:=Int) l<=1000000],[],.acc nx,[.ac 3 (setL l)]⟩ | _=>none
theorem cgS_ok (args:List (SV U)) (nx:Nat) (c:CR U) (h:cgS args nx=some c) (hp:args.all pureS=true) (ho:allP c.ob):ConOK N2.P N2.N N2.T N2.G 68 args nx c:=by
 unfold cgS at h
 split at h
 . rename_i l
   cases h
   exact con1 N2_ok (inlHN_ok N2_ok H0_ok angS 2) Tryz.func68 (k:=.acc 3) (x:=setL l) hp (VgS_ok (pgS l ho.1))
 . cases h
noncomputable def NgS:Env:=N2.addC 68 cgS
theorem NgS_ok:EnvOK NgS:=N2_ok.addC Tryz.call68 cgS_ok
end Go.Proofs.YtdjfeninmbpflaaGreat
end
section
namespace Go.Proofs.YtdjfeninmbpflaaGreat
open Go Go.Wk Go.Wl Go.Rx Go.Re 
attribute [local irreducible] vcFun
def aneq:Nat->Ann:=fun | 67=>⟨26,fun | 4=>some ⟨[0,1,12],[.slot 13 (.int .i64)]⟩ | _=>none,fun _=>none⟩ | _=>⟨0,fun _=>none,fun _=>none⟩
def Veq (a:List Int) (b:List Int) (Q:Bool->Prop):Prop :=
((↑a.length:Int)≠(↑b.length:Int)->Q false)/\(¬(↑a.length:Int)≠(↑b.length:Int)->∃ (I:Int->Prop),∃ (m:Int->Nat),I (0:Int)/\∀ (x:Int),I x->(x<(↑a.length:Int)->(0:Int)<=x/\x<(↑a.length:Int)/\(in64 (ix a x)->(0:Int)<=x/\x<(↑b.length:Int)/\(in64 (ix b x)->(ix a x≠ix b x->Q false)/\(¬ix a x≠ix b x->in64 (x+1)/\I (x+1)/\m (x+1)<m x))))/\(¬x<(↑a.length:Int)->Q true))
theorem Veq_eq {a:List Int} {b:List Int} {Q:Bool->Prop}:@Eq Prop (Veq a b Q) (vcFun (E:=NgS) (inlHN NgS H0 aneq 2) (aneq 67) Tryz.f67 [.sl (N:=U) 3 a,.sl (N:=U) 3 b] [] [] 0 (resP NgS [.bool] Q)):=by kernel_rfl
theorem Veq_ok {a:List Int} {b:List Int} {Q:Bool->Prop} (h:Veq a b Q):vcFun (E:=NgS) (inlHN NgS H0 aneq 2) (aneq 67) Tryz.f67 [.sl (N:=U) 3 a,.sl (N:=U) 3 b] [] [] 0 (resP NgS [.bool] Q):=by rw [<- Veq_eq]; exact h
theorem peq (a:List Int) (b:List Int) (ha:a.length<=1000000):Veq a b (fun y0=>y0=eqLS a b):=by
 unfold Veq eqLS
 refine ⟨fun h=>(decide_eq_false (p:=(a:List Int)=b) fun e=>h (by rw [e])).symm,fun h=>?_⟩
 have hl:a.length=b.length:=by omega
 refine ⟨fun i=>0<=i/\∀ j:Int,0<=j->j<i->ix a j=ix b j,fun i=>((a.length:Int)-i).toNat,⟨by omega,fun j h0 h1=>absurd h1 (by omega)⟩,?_⟩
 rintro i ⟨i0,hi⟩
 refine ⟨fun h1=>⟨i0,h1,fun _=>⟨i0,by omega,fun _=>⟨fun hn=>(decide_eq_false (p:=(a:List Int)=b) fun e=>hn (by rw [e])).symm,fun he=>⟨⟨by omega,by omega⟩,⟨by omega,fun j j0 j1=>?_⟩,by dsimp only; omega⟩⟩⟩⟩,fun h1=>(decide_eq_true (p:=(a:List Int)=b) (list_ix hl fun j j0 j1=>hi j j0 (by omega))).symm⟩
 by_cases e:j=i
 . subst e; exact Classical.not_not.1 he
 . exact hi j j0 (by omega)
def ceq (a:List (SV U)):Option (Q1 U):=match a with | [.sl 3 a,.sl 3 b]=>some ⟨[List.length (α:=Int) a<=1000000],[],blB (eqLS a b)⟩ | _=>none
theorem ceq_ok (args:List (SV U)) (q:Q1 U) (h:ceq args=some q) (ho:allP q.ob):LendOK NgS 67 args ⟨q.ob,q.hy,q.v,[]⟩:=by
 unfold ceq at h
 split at h
 . rename_i a b
   cases h
   exact lend1 NgS_ok (inlHN_ok NgS_ok H0_ok aneq 2) Tryz.func67 (k:=.bool) (x:=eqLS a b) trivial (Veq_ok (peq a b ho.1)) 0
 . cases h
noncomputable def Neq:Env:=NgS.addL 67 ceq
theorem Neq_ok:EnvOK Neq:=NgS_ok.addL Tryz.call67 ceq_ok
end Go.Proofs.YtdjfeninmbpflaaGreat
end
section
namespace Go.Proofs.YtdjfeninmbpflaaGreat
open Go Go.Wk Go.Wl Go.Rx Go.Re 
noncomputable def NI103:Env:=Neq.addI 103 Tryz.f103
theorem NI103_ok:EnvOK NI103:=Neq_ok.addI Tryz.call103 Tryz.func103
end Go.Proofs.YtdjfeninmbpflaaGreat
end
section
namespace Go.Proofs.YtdjfeninmbpflaaGreat
open Go Go.Wk Go.Wl Go.Rx Go.Re 
attribute [local irreducible] vcFun
def angC:Nat->Ann:=fun | 78=>⟨9,fun _=>none,fun _=>none⟩ | 103=>⟨19,fun | 2=>some ⟨[0,1,7],[.slot 8 (.int .i64)]⟩ | _=>none,fun _=>none⟩ | _=>⟨0,fun _=>none,fun _=>none⟩
def VgC (l:List Int) (n:Int) (Q:Bool->Prop):Prop :=
∃ (I:Int->Prop),∃ (m:Int->Nat),I (0:Int)/\∀ (x:Int),I x->(x<(↑l.length:Int)->(0:Int)<=x/\x<(↑l.length:Int)/\(in64 (ix l x)->(n=ix l x->Q (decide ((0:Int)<=x)))/\(¬n=ix l x->in64 (x+1)/\I (x+1)/\m (x+1)<m x)))/\(¬x<(↑l.length:Int)->Q (decide ((0:Int)<=(-1:Int))))
theorem VgC_eq {l:List Int} {n:Int} {Q:Bool->Prop}:@Eq Prop (VgC l n Q) (vcFun (E:=NI103) (inlHN NI103 H0 angC 2) (angC 78) Tryz.f78 [.sl (N:=U) 3 l,.int .i64 n] [] [] 0 (resP NI103 [.bool] Q)):=by kernel_rfl
theorem VgC_ok {l:List Int} {n:Int} {Q:Bool->Prop} (h:VgC l n Q):vcFun (E:=NI103) (inlHN NI103 H0 angC 2) (angC 78) Tryz.f78 [.sl (N:=U) 3 l,.int .i64 n] [] [] 0 (resP NI103 [.bool] Q):=by rw [<- VgC_eq]; exact h
theorem pgC (l:List Int) (n:Int) (hl:l.length<=1000000):VgC l n (fun y0=>y0=hasN l n):=by
 unfold VgC
 refine ⟨fun x=>0<=x/\∀ j:Int,0<=j->j<x->ix l j≠n,fun x=>((l.length:Int)-x).toNat,⟨by omega,fun j h0 h1=>absurd h1 (by omega)⟩,?_⟩
 rintro x ⟨x0,hx⟩
 refine ⟨fun h=>⟨x0,h,fun _=>⟨fun e=>?_,fun e=>⟨⟨by omega,by omega⟩,⟨by omega,fun j j0 j1=>?_⟩,by dsimp only; omega⟩⟩⟩,fun h=>?_⟩
 . rw [decide_eq_true x0]; exact (hasN_yes x0 h e.symm).symm
 . by_cases ej:j=x
   . subst ej; exact fun h=>e h.symm
   . exact hx j j0 (by omega)
 . exact (hasN_no fun j j0 j1=>hx j j0 (by omega)).symm
def cgC (a:List (SV U)):Option (Q1 U):=match a with | [.sl 3 l,.int .i64 n]=>some ⟨[List.length (α:=Int) l<=1000000],[],blB (hasN l n)⟩ | _=>none
theorem cgC_ok (args:List (SV U)) (q:Q1 U) (h:cgC args=some q) (ho:allP q.ob):LendOK NI103 78 args ⟨q.ob,q.hy,q.v,[]⟩:=by
 unfold cgC at h
 split at h
 . rename_i l n
   cases h
   exact lend1 NI103_ok (inlHN_ok NI103_ok H0_ok angC 2) Tryz.func78 (k:=.bool) (x:=hasN l n) trivial (VgC_ok (pgC l n ho.1)) 0
 . cases h
noncomputable def NgC:Env:=NI103.addL 78 cgC
theorem NgC_ok:EnvOK NgC:=NI103_ok.addL Tryz.call78 cgC_ok
end Go.Proofs.YtdjfeninmbpflaaGreat
end
section
namespace Go.Proofs.YtdjfeninmbpflaaGreat
open Go Go.Wk Go.Wl Go.Rx Go.Re 
attribute [local irreducible] vcFun
def anxi:Nat->Ann:=fun | 50=>⟨18,fun | 2=>some ⟨[0,1],[.slot 5 (.int .i64)]⟩ | _=>none,fun _=>none⟩ | _=>⟨0,fun _=>none,fun _=>none⟩
def Vxi (l:List Int) (n:Int) (Q:Bool->Prop):Prop :=
∃ (I:Int->Prop),∃ (m:Int->Nat),I (0:Int)/\∀ (x:Int),I x->(x<(↑l.length:Int)->(0:Int)<=x/\x<(↑l.length:Int)/\(in64 (ix l x)->(ix l x=n->Q true)/\(¬ix l x=n->in64 (x+1)/\I (x+1)/\m (x+1)<m x)))/\(¬x<(↑l.length:Int)->Q false)
theorem Vxi_eq {l:List Int} {n:Int} {Q:Bool->Prop}:@Eq Prop (Vxi l n Q) (vcFun (E:=NgC) (inlHN NgC H0 anxi 2) (anxi 50) Tryz.f50 [.sl (N:=U) 3 l,.int .i64 n] [] [] 0 (resP NgC [.bool] Q)):=by kernel_rfl
theorem Vxi_ok {l:List Int} {n:Int} {Q:Bool->Prop} (h:Vxi l n Q):vcFun (E:=NgC) (inlHN NgC H0 anxi 2) (anxi 50) Tryz.f50 [.sl (N:=U) 3 l,.int .i64 n] [] [] 0 (resP NgC [.bool] Q):=by rw [<- Vxi_eq]; exact h
theorem pxi (l:List Int) (n:Int) (hl:l.length<=1000000):Vxi l n (fun y0=>y0=hasN l n):=by
 unfold Vxi
 refine ⟨fun x=>0<=x/\∀ j:Int,0<=j->j<x->ix l j≠n,fun x=>((l.length:Int)-x).toNat,⟨by omega,fun j h0 h1=>absurd h1 (by omega)⟩,?_⟩
 rintro x ⟨x0,hx⟩
 refine ⟨fun h=>⟨x0,h,fun _=>⟨fun e=>?_,fun e=>⟨⟨by omega,by omega⟩,⟨by omega,fun j j0 j1=>?_⟩,by dsimp only; omega⟩⟩⟩,fun h=>?_⟩
 . exact (hasN_yes x0 h e).symm
 . by_cases ej:j=x
   . subst ej; exact e
   . exact hx j j0 (by omega)
 . exact (hasN_no fun j j0 j1=>hx j j0 (by omega)).symm
def cxi (a:List (SV U)):Option (Q1 U):=match a with | [.sl 3 l,.int .i64 n]=>some ⟨[List.length (α:=Int) l<=1000000],[],blB (hasN l n)⟩ | _=>none
theorem cxi_ok (args:List (SV U)) (q:Q1 U) (h:cxi args=some q) (ho:allP q.ob):LendOK NgC 50 args ⟨q.ob,q.hy,q.v,[]⟩:=by
 unfold cxi at h
 split at h
 . rename_i l n
   cases h
   exact lend1 NgC_ok (inlHN_ok NgC_ok H0_ok anxi 2) Tryz.func50 (k:=.bool) (x:=hasN l n) trivial (Vxi_ok (pxi l n ho.1)) 0
 . cases h
noncomputable def Nxi:Env:=NgC.addL 50 cxi
theorem Nxi_ok:EnvOK Nxi:=NgC_ok.addL Tryz.call50 cxi_ok
end Go.Proofs.YtdjfeninmbpflaaGreat
end
section
namespace Go.Proofs.YtdjfeninmbpflaaGreat
open Go Go.Wk Go.Wl Go.Rx Go.Re 
noncomputable def NI113:Env:=Nxi.addI 113 Tryz.f113
theorem NI113_ok:EnvOK NI113:=Nxi_ok.addI Tryz.call113 Tryz.func113
end Go.Proofs.YtdjfeninmbpflaaGreat
end
section
namespace Go.Proofs.YtdjfeninmbpflaaGreat
open Go Go.Wk Go.Wl Go.Rx Go.Re 
attribute [local irreducible] vcFun
def angp:Nat->Ann:=fun | 102=>⟨20,fun _=>none,fun _=>none⟩ | 113=>⟨6,fun _=>none,fun _=>none⟩ | _=>⟨0,fun _=>none,fun _=>none⟩
def Vgp (x:Int) (y:Int) (Q:Int->Prop):Prop :=
(x≠x->(y≠y->Q (0:Int))/\(¬y≠y->Q (-1:Int)))/\(¬x≠x->(y≠y->Q (1:Int))/\(¬y≠y->(x<y->Q (-1:Int))/\(¬x<y->(y<x->Q (1:Int))/\(¬y<x->Q (0:Int)))))
theorem Vgp_eq {x:Int} {y:Int} {Q:Int->Prop}:@Eq Prop (Vgp x y Q) (vcFun (E:=NI113) (inlHN NI113 H0 angp 2) (angp 102) Tryz.f102 [.int .i64 x,.int .i64 y] [] [] 0 (resP NI113 [.int .i64] Q)):=by kernel_rfl
theorem Vgp_ok {x:Int} {y:Int} {Q:Int->Prop} (h:Vgp x y Q):vcFun (E:=NI113) (inlHN NI113 H0 angp 2) (angp 102) Tryz.f102 [.int .i64 x,.int .i64 y] [] [] 0 (resP NI113 [.int .i64] Q):=by rw [<- Vgp_eq]; exact h
theorem pgp (x:Int) (y:Int)  : Vgp x y (fun y0=>y0=cmpS x y):=by
 unfold Vgp cmpS
 refine ⟨fun h=>absurd rfl h,fun _=>⟨fun h=>absurd rfl h,fun _=>⟨fun h=>by rw [if_pos h],fun h=>⟨fun h2=>by rw [if_neg h,if_pos h2],fun h2=>by rw [if_neg h,if_neg h2]⟩⟩⟩⟩
def cgp (a:List (SV U)):Option (Q1 U):=match a with | [.int .i64 x,.int .i64 y]=>some ⟨[],[],.int .i64 (cmpS x y)⟩ | _=>none
theorem cgp_ok (args:List (SV U)) (q:Q1 U) (h:cgp args=some q) (ho:allP q.ob):LendOK NI113 102 args ⟨q.ob,q.hy,q.v,[]⟩:=by
 unfold cgp at h
 split at h
 . rename_i x y
   cases h
   exact lend1 NI113_ok (inlHN_ok NI113_ok H0_ok angp 2) Tryz.func102 (k:=.int .i64) (x:=cmpS x y) trivial (Vgp_ok (pgp x y )) 0
 . cases h
noncomputable def Ngp:Env:=NI113.addL 102 cgp
theorem Ngp_ok:EnvOK Ngp:=NI113_ok.addL Tryz.call102 cgp_ok
end Go.Proofs.YtdjfeninmbpflaaGreat
end
section
namespace Go.Proofs.YtdjfeninmbpflaaGreat
open Go Go.Wk Go.Wl Go.Rx Go.Re 
attribute [local irreducible] vcFun
def angO:Nat->Ann:=fun | 72=>⟨17,fun _=>none,fun _=>none⟩ | _=>⟨0,fun _=>none,fun _=>none⟩
def VgO (r:Rl) (Q:Int->Prop):Prop :=
(r.Freq=0/\(↑r.WeekNo.length:Int)=0->Q (53:Int))/\(¬(r.Freq=0/\(↑r.WeekNo.length:Int)=0)->(r.Freq=1->Q (5:Int))/\(¬r.Freq=1->Q (0:Int)))
theorem VgO_eq {r:Rl} {Q:Int->Prop}:@Eq Prop (VgO r Q) (vcFun (E:=Ngp) (inlHN Ngp H0 angO 2) (angO 72) Tryz.f72 [.agg [.int .i64 r.Freq,.int .i64 r.Interval,.int .i64 r.Count,.sl (N:=U) 25 r.Until,.sl (N:=U) 3 r.Month,.sl (N:=U) 3 r.WeekNo,.sl (N:=U) 3 r.YearDay,.sl (N:=U) 3 r.MonthDay,.sl (N:=U) 60 r.Days,.sl (N:=U) 3 r.Hour,.sl (N:=U) 3 r.Minute,.sl (N:=U) 3 r.Second,.sl (N:=U) 3 r.SetPos,.int .i64 r.Wkst]] [] [] 0 (resP Ngp [.int .i64] Q)):=by kernel_rfl
theorem VgO_ok {r:Rl} {Q:Int->Prop} (h:VgO r Q):vcFun (E:=Ngp) (inlHN Ngp H0 angO 2) (angO 72) Tryz.f72 [.agg [.int .i64 r.Freq,.int .i64 r.Interval,.int .i64 r.Count,.sl (N:=U) 25 r.Until,.sl (N:=U) 3 r.Month,.sl (N:=U) 3 r.WeekNo,.sl (N:=U) 3 r.YearDay,.sl (N:=U) 3 r.MonthDay,.sl (N:=U) 60 r.Days,.sl (N:=U) 3 r.Hour,.sl (N:=U) 3 r.Minute,.sl (N:=U) 3 r.Second,.sl (N:=U) 3 r.SetPos,.int .i64 r.Wkst]] [] [] 0 (resP Ngp [.int .i64] Q):=by rw [<- VgO_eq]; exact h
theorem pgO (r:Rl)  : VgO r (fun y0=>y0=mostR r):=by
 unfold VgO mostR
 refine ⟨fun h=>by rw [if_neg (by omega),if_pos h],fun h=>⟨fun h1=>by rw [if_pos h1],fun h1=>by rw [if_neg h1,if_neg h]⟩⟩
noncomputable def cgOs (r:Rl):Q1 U:=⟨[],[],.int .i64 (mostR r)⟩
noncomputable def cgO (a:List (SV U)):Option (Q1 U):=match a with | [.agg l_r]=>(y30.bk (.agg l_r)).bind fun r=>some (cgOs r) | _=>none
theorem cgO_ok (args:List (SV U)) (q:Q1 U) (h:cgO args=some q) (ho:allP q.ob):LendOK Ngp 72 args ⟨q.ob,q.hy,q.v,[]⟩:=by
 unfold cgO at h
 split at h
 . rename_i l_r
   obtain ⟨r,hb_r,h⟩:=Option.bind_eq_some_iff.1 h
   cases h
   refine LendOK.conv (E:=Ngp) (args':=[.agg [.int .i64 r.Freq,.int .i64 r.Interval,.int .i64 r.Count,.sl 25 r.Until,.sl 3 r.Month,.sl 3 r.WeekNo,.sl 3 r.YearDay,.sl 3 r.MonthDay,.sl 60 r.Days,.sl 3 r.Hour,.sl 3 r.Minute,.sl 3 r.Second,.sl 3 r.SetPos,.int .i64 r.Wkst]]) (lend1 Ngp_ok (inlHN_ok Ngp_ok H0_ok angO 2) Tryz.func72 (k:=.int .i64) trivial (VgO_ok (pgO r )) 0) fun D w vs hr=>tup_conv [.agg l_r] [.agg [.int .i64 r.Freq,.int .i64 r.Interval,.int .i64 r.Count,.sl (N:=U) 25 r.Until,.sl (N:=U) 3 r.Month,.sl (N:=U) 3 r.WeekNo,.sl (N:=U) 3 r.YearDay,.sl (N:=U) 3 r.MonthDay,.sl (N:=U) 60 r.Days,.sl (N:=U) 3 r.Hour,.sl (N:=U) 3 r.Minute,.sl (N:=U) 3 r.Second,.sl (N:=U) 3 r.SetPos,.int .i64 r.Wkst]] _ ⟨fun _ h=>agg_conv30 hb_r h,trivial⟩ hr
 . cases h
noncomputable def NgO:Env:=Ngp.addL 72 cgO
theorem NgO_ok:EnvOK NgO:=Ngp_ok.addL Tryz.call72 cgO_ok
end Go.Proofs.YtdjfeninmbpflaaGreat
end
section
namespace Go.Proofs.YtdjfeninmbpflaaGreat
open Go Go.Wk Go.Wl Go.Rx Go.Re 
attribute [local irreducible] vcFun
def angF:Nat->Ann:=fun | 74=>⟨24,fun _=>none,fun _=>none⟩ | _=>⟨0,fun _=>none,fun _=>none⟩
def VgF (r:Rl) (Q:Bool->Prop):Prop :=
(r.Freq=2->((0:Int)<(↑r.MonthDay.length:Int)->Q false)/\(¬(0:Int)<(↑r.MonthDay.length:Int)->((0:Int)<(↑r.YearDay.length:Int)->Q false)/\(¬(0:Int)<(↑r.YearDay.length:Int)->((0:Int)<(↑r.WeekNo.length:Int)->Q false)/\(¬(0:Int)<(↑r.WeekNo.length:Int)->Q true))))/\(¬r.Freq=2->(r.Freq=1->(r.Freq=1->((0:Int)<(↑r.YearDay.length:Int)->Q false)/\(¬(0:Int)<(↑r.YearDay.length:Int)->((0:Int)<(↑r.WeekNo.length:Int)->Q false)/\(¬(0:Int)<(↑r.WeekNo.length:Int)->Q true)))/\(¬r.Freq=1->(r.Freq=0->Q true)/\(¬r.Freq=0->((0:Int)<(↑r.WeekNo.length:Int)->Q false)/\(¬(0:Int)<(↑r.WeekNo.length:Int)->Q true))))/\(¬r.Freq=1->(r.Freq=3->((0:Int)<(↑r.YearDay.length:Int)->Q false)/\(¬(0:Int)<(↑r.YearDay.length:Int)->((0:Int)<(↑r.WeekNo.length:Int)->Q false)/\(¬(0:Int)<(↑r.WeekNo.length:Int)->Q true)))/\(¬r.Freq=3->(r.Freq=0->Q true)/\(¬r.Freq=0->((0:Int)<(↑r.WeekNo.length:Int)->Q false)/\(¬(0:Int)<(↑r.WeekNo.length:Int)->Q true)))))
theorem VgF_eq {r:Rl} {Q:Bool->Prop}:@Eq Prop (VgF r Q) (vcFun (E:=NgO) (inlHN NgO H0 angF 2) (angF 74) Tryz.f74 [.agg [.int .i64 r.Freq,.int .i64 r.Interval,.int .i64 r.Count,.sl (N:=U) 25 r.Until,.sl (N:=U) 3 r.Month,.sl (N:=U) 3 r.WeekNo,.sl (N:=U) 3 r.YearDay,.sl (N:=U) 3 r.MonthDay,.sl (N:=U) 60 r.Days,.sl (N:=U) 3 r.Hour,.sl (N:=U) 3 r.Minute,.sl (N:=U) 3 r.Second,.sl (N:=U) 3 r.SetPos,.int .i64 r.Wkst]] [] [] 0 (resP NgO [.bool] Q)):=by kernel_rfl
theorem VgF_ok {r:Rl} {Q:Bool->Prop} (h:VgF r Q):vcFun (E:=NgO) (inlHN NgO H0 angF 2) (angF 74) Tryz.f74 [.agg [.int .i64 r.Freq,.int .i64 r.Interval,.int .i64 r.Count,.sl (N:=U) 25 r.Until,.sl (N:=U) 3 r.Month,.sl (N:=U) 3 r.WeekNo,.sl (N:=U) 3 r.YearDay,.sl (N:=U) 3 r.MonthDay,.sl (N:=U) 60 r.Days,.sl (N:=U) 3 r.Hour,.sl (N:=U) 3 r.Minute,.sl (N:=U) 3 r.Second,.sl (N:=U) 3 r.SetPos,.int .i64 r.Wkst]] [] [] 0 (resP NgO [.bool] Q):=by rw [<- VgF_eq]; exact h
theorem pgF (r:Rl)  : VgF r (fun y0=>y0=fitR r):=by
 unfold VgF
 repeat' (first | intro _ | apply And.intro)
 all_goals first | exact fit_t (by unfold FitR; omega) | exact fit_f (by unfold FitR; omega)
noncomputable def cgFs (r:Rl):Q1 U:=⟨[],[],blB (fitR r)⟩
noncomputable def cgF (a:List (SV U)):Option (Q1 U):=match a with | [.agg l_r]=>(y30.bk (.agg l_r)).bind fun r=>some (cgFs r) | _=>none
theorem cgF_ok (args:List (SV U)) (q:Q1 U) (h:cgF args=some q) (ho:allP q.ob):LendOK NgO 74 args ⟨q.ob,q.hy,q.v,[]⟩:=by
 unfold cgF at h
 split at h
 . rename_i l_r
   obtain ⟨r,hb_r,h⟩:=Option.bind_eq_some_iff.1 h
   cases h
   refine LendOK.conv (E:=NgO) (args':=[.agg [.int .i64 r.Freq,.int .i64 r.Interval,.int .i64 r.Count,.sl 25 r.Until,.sl 3 r.Month,.sl 3 r.WeekNo,.sl 3 r.YearDay,.sl 3 r.MonthDay,.sl 60 r.Days,.sl 3 r.Hour,.sl 3 r.Minute,.sl 3 r.Second,.sl 3 r.SetPos,.int .i64 r.Wkst]]) (lend1 NgO_ok (inlHN_ok NgO_ok H0_ok angF 2) Tryz.func74 (k:=.bool) trivial (VgF_ok (pgF r )) 0) fun D w vs hr=>tup_conv [.agg l_r] [.agg [.int .i64 r.Freq,.int .i64 r.Interval,.int .i64 r.Count,.sl (N:=U) 25 r.Until,.sl (N:=U) 3 r.Month,.sl (N:=U) 3 r.WeekNo,.sl (N:=U) 3 r.YearDay,.sl (N:=U) 3 r.MonthDay,.sl (N:=U) 60 r.Days,.sl (N:=U) 3 r.Hour,.sl (N:=U) 3 r.Minute,.sl (N:=U) 3 r.Second,.sl (N:=U) 3 r.SetPos,.int .i64 r.Wkst]] _ ⟨fun _ h=>agg_conv30 hb_r h,trivial⟩ hr
 . cases h
noncomputable def NgF:Env:=NgO.addL 74 cgF
theorem NgF_ok:EnvOK NgF:=NgO_ok.addL Tryz.call74 cgF_ok
end Go.Proofs.YtdjfeninmbpflaaGreat
end
section
namespace Go.Proofs.YtdjfeninmbpflaaGreat
open Go Go.Wk Go.Wl Go.Rx Go.Re 
attribute [local irreducible] vcFun
def angB:Nat->Ann:=fun | 73=>⟨19,fun _=>none,fun _=>none⟩ | _=>⟨0,fun _=>none,fun _=>none⟩
def VgB (a:Nt) (b:Nt) (Q:Int->Prop):Prop :=
(cmpS a.Day b.Day≠0->Q (cmpS a.Day b.Day))/\(¬cmpS a.Day b.Day≠0->Q (cmpS a.N b.N))
theorem VgB_eq {a:Nt} {b:Nt} {Q:Int->Prop}:@Eq Prop (VgB a b Q) (vcFun (E:=NgF) (inlHN NgF H0 angB 2) (angB 73) Tryz.f73 [.agg [.int .i64 a.N,.int .i64 a.Day],.agg [.int .i64 b.N,.int .i64 b.Day]] [] [] 0 (resP NgF [.int .i64] Q)):=by kernel_rfl
theorem VgB_ok {a:Nt} {b:Nt} {Q:Int->Prop} (h:VgB a b Q):vcFun (E:=NgF) (inlHN NgF H0 angB 2) (angB 73) Tryz.f73 [.agg [.int .i64 a.N,.int .i64 a.Day],.agg [.int .i64 b.N,.int .i64 b.Day]] [] [] 0 (resP NgF [.int .i64] Q):=by rw [<- VgB_eq]; exact h
theorem pgB (a:Nt) (b:Nt)  : VgB a b (fun y0=>y0=byDayS a b):=by
 unfold VgB byDayS
 exact ⟨fun h=>by rw [if_pos h],fun h=>by rw [if_neg h]⟩
def cgBs (a:Nt) (b:Nt):Q1 U:=⟨[],[],.int .i64 (byDayS a b)⟩
def cgB (a:List (SV U)):Option (Q1 U):=match a with | [.agg [.int .i64 a0,.int .i64 a1],.agg [.int .i64 b0,.int .i64 b1]]=>some (cgBs (⟨a0,a1⟩) (⟨b0,b1⟩)) | _=>none
theorem cgB_ok (args:List (SV U)) (q:Q1 U) (h:cgB args=some q) (ho:allP q.ob):LendOK NgF 73 args ⟨q.ob,q.hy,q.v,[]⟩:=by
 unfold cgB at h
 split at h
 . rename_i a0 a1 b0 b1
   cases h
   exact lend1 NgF_ok (inlHN_ok NgF_ok H0_ok angB 2) Tryz.func73 (k:=.int .i64) (x:=byDayS (⟨a0,a1⟩:Nt) (⟨b0,b1⟩:Nt)) trivial (VgB_ok (pgB (⟨a0,a1⟩) (⟨b0,b1⟩) )) 0
 . cases h
noncomputable def NgB:Env:=NgF.addL 73 cgB
theorem NgB_ok:EnvOK NgB:=NgF_ok.addL Tryz.call73 cgB_ok
end Go.Proofs.YtdjfeninmbpflaaGreat
end
section
namespace Go.Proofs.YtdjfeninmbpflaaGreat
open Go Go.Wk Go.Wl Go.Rx Go.Re 
noncomputable def NI66:Env:=NgB.addI 66 Tryz.f66
theorem NI66_ok:EnvOK NI66:=NgB_ok.addI Tryz.call66 Tryz.func66
noncomputable def NI71:Env:=NI66.addI 71 Tryz.f71
theorem NI71_ok:EnvOK NI71:=NI66_ok.addI Tryz.call71 Tryz.func71
noncomputable def NI101:Env:=NI71.addI 101 Tryz.f101
theorem NI101_ok:EnvOK NI101:=NI71_ok.addI Tryz.call101 Tryz.func101
noncomputable def NI70:Env:=NI101.addI 70 Tryz.f70
theorem NI70_ok:EnvOK NI70:=NI101_ok.addI Tryz.call70 Tryz.func70
end Go.Proofs.YtdjfeninmbpflaaGreat
end
section
namespace Go.Re
open Go Go.Wk Go.Wl Go.Rx
def MayN (lo hi:Int) (b:Bool) (n:Int):Prop:=(lo<=n/\n<=hi) ∨ (b=true/\n<=-lo)/\-hi<=n
instance (lo hi:Int) (b:Bool) (n:Int):Decidable (MayN lo hi b n):=by unfold MayN; infer_instance
def badL (l:List Int) (lo hi:Int) (b:Bool):Bool:=l.any fun n=>decide (¬ MayN lo hi b n)
theorem badL_yes {l:List Int} {lo hi:Int} {b:Bool} {i:Int} (h0:0<=i) (h1:i<l.length) (h:¬ MayN lo hi b (ix l i)):badL l lo hi b=true:=List.any_eq_true.2 ⟨_,ix_memR h0 h1,decide_eq_true h⟩
theorem badL_no {l:List Int} {lo hi:Int} {b:Bool} (h:∀ i:Int,0<=i->i<l.length->MayN lo hi b (ix l i)):badL l lo hi b=false:=by
 cases hb:badL l lo hi b with
 | false=>rfl
 | true =>
  obtain ⟨n,hn,hd⟩:=List.any_eq_true.1 hb
  obtain ⟨i,h0,h1,rfl⟩:=ix_of_mem hn
  exact absurd (h i h0 h1) (of_decide_eq_true hd)
theorem may_ok {lo hi:Int} {b:Bool} {n:Int} (h0:0<=lo):MayN lo hi b n↔OkN lo hi b n:=by
 unfold MayN OkN
 cases b with
 | false=>simp
 | true =>
  simp only [true_and]
  split <;> constructor <;> intro h <;> omega
theorem risL_iff {l:List Int} {lo hi:Int} {b:Bool} (h0:0<=lo):RisL l lo hi b↔((l.length:Int)<=24/\l=setL l)/\badL l lo hi b=false:=by
 constructor
 . intro h
   exact ⟨⟨h.few,setL_iff.2 h.up⟩,badL_no fun i a c=>(may_ok h0).2 (h.ok i a c)⟩
 . rintro ⟨⟨h1,h2⟩,h3⟩
   refine ⟨fun i a c=>(may_ok h0).1 (Classical.not_not.1 fun hn=>?_),setL_iff.1 h2,h1⟩
   rw [badL_yes a c hn] at h3; cases h3
section
variable {l:List Int} {lo hi:Int} {b:Bool}
theorem ris_a (h:24<(l.length:Int)):¬ RisL l lo hi b:=fun r=>by have:=r.few; omega
theorem ris_b (h:False ∨ ¬ eqLS l (setL l)=true):¬ RisL l lo hi b:=fun r=>h.elim id fun h=>h (decide_eq_true (setL_iff.2 r.up))
theorem ris_c (h0:0<=lo) (h:False ∨ badL l lo hi b=true):¬ RisL l lo hi b:=fun r=>h.elim id fun h=>by rw [((risL_iff h0).1 r).2] at h; cases h
theorem ris_d (h0:0<=lo) (h1:¬ 24<(l.length:Int)) (h2:¬ (False ∨ ¬ eqLS l (setL l)=true)) (h3:¬ (False ∨ badL l lo hi b=true)):RisL l lo hi b :=
 (risL_iff h0).2 ⟨⟨by omega,of_decide_eq_true (Classical.not_not.1 fun hn=>h2 (.inr hn))⟩,by
  cases hb:badL l lo hi b with
  | false=>rfl
  | true=>exact absurd (.inr hb) h3⟩
theorem max_long (l:List Int):max 1 (l.length:Int)=longL l:=by unfold longL; split <;> omega
end
end Go.Re
end
section
namespace Go.Proofs.YtdjfeninmbpflaaGreat
open Go Go.Wk Go.Wl Go.Rx Go.Re 
attribute [local irreducible] vcFun
def angX:Nat->Ann:=fun | 69=>⟨9,fun _=>none,fun _=>none⟩ | 101=>⟨19,fun | 2=>some ⟨[0,1,7],[.slot 8 (.int .i64)]⟩ | _=>none,fun _=>none⟩ | 70=>⟨8,fun _=>none,fun _=>none⟩ | 71=>⟨33,fun _=>none,fun _=>none⟩ | _=>⟨0,fun _=>none,fun _=>none⟩
def VgX (l:List Int) (x:Ls) (Q:Bool->Prop):Prop :=
∃ (I:Int->Prop),∃ (m:Int->Nat),I (0:Int)/\∀ (x_1:Int),I x_1->(x_1<(↑l.length:Int)->(0:Int)<=x_1/\x_1<(↑l.length:Int)/\(in64 (ix l x_1)->(¬((ix [x] (0:Int)).lo<=ix l x_1/\ix l x_1<=(ix [x] (0:Int)).hi)/\(ix [x] (0:Int)).both=true->in64 ((0:Int)-(ix [x] (0:Int)).lo))/\(¬((ix [x] (0:Int)).lo<=ix l x_1/\ix l x_1<=(ix [x] (0:Int)).hi)/\(ix [x] (0:Int)).both=true/\ix l x_1<=(0:Int)-(ix [x] (0:Int)).lo->in64 ((0:Int)-(ix [x] (0:Int)).hi))/\(¬((ix [x] (0:Int)).lo<=ix l x_1/\ix l x_1<=(ix [x] (0:Int)).hi ∨ ((ix [x] (0:Int)).both=true/\ix l x_1<=(0:Int)-(ix [x] (0:Int)).lo)/\(0:Int)-(ix [x] (0:Int)).hi<=ix l x_1)->Q (decide ((0:Int)<=x_1)))/\(¬¬((ix [x] (0:Int)).lo<=ix l x_1/\ix l x_1<=(ix [x] (0:Int)).hi ∨ ((ix [x] (0:Int)).both=true/\ix l x_1<=(0:Int)-(ix [x] (0:Int)).lo)/\(0:Int)-(ix [x] (0:Int)).hi<=ix l x_1)->in64 (x_1+1)/\I (x_1+1)/\m (x_1+1)<m x_1)))/\(¬x_1<(↑l.length:Int)->Q (decide ((0:Int)<=(-1:Int))))
theorem VgX_eq {l:List Int} {x:Ls} {Q:Bool->Prop}:@Eq Prop (VgX l x Q) (vcFun (E:=NI70) (inlHN NI70 H0 angX 4) (angX 69) Tryz.f69 [.sl (N:=U) 3 l,.clo 70 [.fel (N:=U) 101 [x] 0 0]] [] [] 0 (resP NI70 [.bool] Q)):=by kernel_rfl
theorem VgX_ok {l:List Int} {x:Ls} {Q:Bool->Prop} (h:VgX l x Q):vcFun (E:=NI70) (inlHN NI70 H0 angX 4) (angX 69) Tryz.f69 [.sl (N:=U) 3 l,.clo 70 [.fel (N:=U) 101 [x] 0 0]] [] [] 0 (resP NI70 [.bool] Q):=by rw [<- VgX_eq]; exact h
theorem pgX (l:List Int) (x:Ls) (hl:l.length<=1000000) (l0:-1000<=x.lo) (l1:x.lo<=1000) (u0:-1000<=x.hi) (u1:x.hi<=1000):VgX l x (fun y0=>y0=badL l x.lo x.hi x.both):=by
 unfold VgX
 have ex:ix [x] 0=x:=rfl
 rw [ex]
 have z:∀ n:Int,0-n=-n:=fun n=>by omega
 simp only [z]
 refine ⟨fun i=>0<=i/\∀ j:Int,0<=j->j<i->MayN x.lo x.hi x.both (ix l j),fun i=>((l.length:Int)-i).toNat,⟨by omega,fun j a b=>absurd b (by omega)⟩,?_⟩
 rintro i ⟨i0,hi⟩
 refine ⟨fun h=>⟨i0,h,fun _=>⟨fun _=>⟨by omega,by omega⟩,fun _=>⟨by omega,by omega⟩,fun hn=>?_,fun hn=>⟨⟨by omega,by omega⟩,⟨by omega,fun j j0 j1=>?_⟩,by dsimp only; omega⟩⟩⟩,fun h=>?_⟩
 . rw [decide_eq_true i0]; exact (badL_yes i0 h hn).symm
 . by_cases e:j=i
   . subst e; exact Classical.not_not.1 hn
   . exact hi j j0 (by omega)
 . exact (badL_no fun j a b=>hi j a (by omega)).symm
def cgX (a:List (SV U)):Option (Q1 U):=match a with | [.sl 3 l,.clo 70 [.fel 101 [x] 0 0]]=>some ⟨[List.length (α:=Int) l<=1000000,-1000<=x.lo,x.lo<=1000,-1000<=x.hi,x.hi<=1000],[],blB (badL l x.lo x.hi x.both)⟩ | _=>none
theorem cgX_ok (args:List (SV U)) (q:Q1 U) (h:cgX args=some q) (ho:allP q.ob):LendOK NI70 69 args ⟨q.ob,q.hy,q.v,[]⟩:=by
 unfold cgX at h
 split at h
 . rename_i l x
   cases h
   exact lend1 NI70_ok (inlHN_ok NI70_ok H0_ok angX 4) Tryz.func69 (k:=.bool) (x:=badL l x.lo x.hi x.both) trivial (VgX_ok (pgX l x ho.1 ho.2.1 ho.2.2.1 ho.2.2.2.1 ho.2.2.2.2.1)) 0
 . cases h
theorem row_at {w:World} {L:Rx.Loc} {D:Nat->Prop} {x:Ls} {c:Value} (ho:Own w L.b 101 [sv x.wd,c,.int .i64 x.lo,.int .i64 x.hi,.bool x.both]) (hD:D L.b) (hp:plain1 c=true) (h1:x.wd.length<=9223372036854775807) (h2:InI x.lo) (h3:InI x.hi):(dSlice (U.tb 101).r).rd D w [.slice (some ⟨L.b,0,none⟩) [x].length 1] [x] :=
 ⟨by show (1:Nat)<=9223372036854775807; omega,_,_,rfl,⟨fun h=>(by cases h),Nat.le_refl _⟩,fun i hi=>by
  have hi:i<1:=hi
  have e:i=0:=by omega
  subst e
  exact ⟨_,_,_,rfl,hD,Own.cells ho 0 _ [] rfl,c,rfl,hp,h1,h2,h3⟩⟩
def cXr (args:List (SV U)) (its:Items U):Option (Q1 U):=match args with
 | [.sl 3 l,.clo 70 [.ref i 0]]=>(match lk its i with
  | some (.own 101 [.str wd,_,.int .i64 lo,.int .i64 hi,vb])=>(boolOf vb).bind fun b=>some ⟨[List.length (α:=Int) l<=1000000,-1000<=lo,lo<=1000,-1000<=hi,hi<=1000],[],blB (badL l lo hi b)⟩
  | _=>none)
 | _=>none
theorem cXr_ok (args:List (SV U)) (its:Items U) (q:Q1 U) (h:cXr args its=some q) (ho:allP q.ob):RocOK Tryz.prog U eT Gl 69 args its q:=by
 unfold cXr at h
 split at h
 . rename_i l i
   split at h
   . rename_i wd vc lo hi vb hi'
     obtain ⟨b,hb,h⟩:=Option.bind_eq_some_iff.1 h
     cases h
     intro ρ Z w vs _ hh ha
     obtain ⟨L,cs,hL,hbs,how,hr⟩:=hh _ _ hi'
     obtain ⟨v1,r1,rfl,h1,_,hr⟩:=RepL.cons_inv hr
     obtain ⟨v2,r2,rfl,_,p2,hr⟩:=RepL.cons_inv hr
     obtain ⟨v3,r3,rfl,h3,_,hr⟩:=RepL.cons_inv hr
     obtain ⟨v4,r4,rfl,h4,_,hr⟩:=RepL.cons_inv hr
     obtain ⟨v5,r5,rfl,h5,_,hr⟩:=RepL.cons_inv hr
     obtain rfl:=RepL.nil_inv hr
     have h5:=boolOf_rep (E:=NI70) hb h5
     cases h1 with | str q1 =>
     cases h3 with | int q3 =>
     cases h4 with | int q4 =>
     cases h5 with | bl =>
     rw [Bool.decide_eq_true] at how
     obtain ⟨u1,rr,rfl,g1,ha⟩:=Rep.tup_cons ha
     obtain ⟨u2,rr2,rfl,g2,ha⟩:=Rep.tup_cons ha
     obtain rfl:=tup0_inv ha
     obtain ⟨b1,b2,b3,b4,b5,_⟩:=ho
     have hrow:=row_at (L:=L) (D:=fun k=>(Z k/\k<w.heap.size) ∨ k=L.b) (x:=⟨wd,lo,hi,b⟩) how (.inr rfl) p2 q1 (q3 rfl) (q4 rfl)
     refine cgX_ok [.sl 3 l,.clo 70 [.fel (N:=U) 101 [Ls.mk wd lo hi b] 0 0]] _ rfl ⟨b1,b2,b3,b4,b5,trivial⟩ (fun k=>(Z k/\k<w.heap.size) ∨ k=L.b) w _ (fun k hk=>hk.elim (fun h=>h.2) fun h=>by rw [h]; exact how.lt) trivial ?_
     refine .tup1 (cs:=[_]) ?_ (.tup1 (cs:=[]) ?_ .tup0)
     . cases g1 with
       | sl g=>exact .sl (Rd.mono _ g (Ext.refl [] w) (fun _ h=>by cases h) fun k hz hk=>.inl ⟨hz,hk⟩)
     . cases g2 with
       | clo g =>
        obtain ⟨c1,cr,e1,hc1,hp1,hcr⟩:=RepL.cons_inv (cs:=_) g
        obtain rfl:=RepL.nil_inv hcr
        cases hc1 with
        | ref hL' =>
         rw [hL] at hL'; cases hL'
         have:=Rep.fel (N:=U) (T:=eT) (ρ:=fun _=>none) (t:=101) (off:=0) hrow (i:=0) (by omega) (by show (0:Int)<1; omega)
         rw [show _=_ from e1]
         exact .clo (RepL.cons this rfl RepL.nil)
   . cases h
 . cases h
end Go.Proofs.YtdjfeninmbpflaaGreat
end
section
namespace Go.Proofs.YtdjfeninmbpflaaGreat
open Go Go.Wk Go.Wl Go.Rx Go.Re 
noncomputable def NXr:Env:=NI70.addR 69 cXr
theorem NXr_ok:EnvOK NXr:=NI70_ok.addR Tryz.call69 cXr_ok
end Go.Proofs.YtdjfeninmbpflaaGreat
end
section
namespace Go.Proofs.YtdjfeninmbpflaaGreat
open Go Go.Wk Go.Wl Go.Rx Go.Re 
attribute [local irreducible] vcFun
def angR:Nat->Ann:=fun | 40=>⟨201,fun | 16=>some ⟨[1,3,6,127,128],[.slot 129 (.int .i64)]⟩ | 7=>some ⟨[1,3,80,81,82],[.unr 9]⟩ | _=>none,fun | 1000009=>some ⟨[6,19],[]⟩ | 2000007=>some ⟨[83],[]⟩ | 2000011=>some ⟨[115],[]⟩ | _=>none⟩ | 66=>⟨36,fun _=>none,fun _=>none⟩ | _=>⟨0,fun _=>none,fun _=>none⟩
def qgR0 (r:Rl):=Rl.mk r.Freq r.Interval r.Count r.Until r.Month r.WeekNo r.YearDay r.MonthDay r.Days r.Hour r.Minute r.Second r.SetPos r.Wkst
def qgR1 (r:Rl):=(bif true then max (1:Int) (↑r.Hour.length:Int) else min (1:Int) (↑r.Hour.length:Int)) * bif true then max (1:Int) (↑r.Minute.length:Int) else min (1:Int) (↑r.Minute.length:Int)
def VgR (r:Rl) (Q:Bool->Prop):Prop :=
(((((((r.Freq<0 ∨ (6:Int)<r.Freq) ∨ r.Interval<1) ∨ (9999:Int)<r.Interval) ∨ r.Count<0) ∨ (9999:Int)<r.Count) ∨ r.Wkst<0) ∨ (6:Int)<r.Wkst->Q false)/\(¬(((((((r.Freq<0 ∨ (6:Int)<r.Freq) ∨ r.Interval<1) ∨ (9999:Int)<r.Interval) ∨ r.Count<0) ∨ (9999:Int)<r.Count) ∨ r.Wkst<0) ∨ (6:Int)<r.Wkst)->((¬(1:Int)<(↑r.Until.length:Int)/\(↑r.Until.length:Int)=1)/\¬(0:Int)<r.Count->(0:Int)<=0)/\((¬(1:Int)<(↑r.Until.length:Int)/\(↑r.Until.length:Int)=1)/\¬(0:Int)<r.Count->(0:Int)<(↑r.Until.length:Int))/\(((¬(1:Int)<(↑r.Until.length:Int)/\(↑r.Until.length:Int)=1)/\¬(0:Int)<r.Count->in64 (ix r.Until (0:Int)).Day.Year)->((¬(1:Int)<(↑r.Until.length:Int)/\(↑r.Until.length:Int)=1)/\¬(0:Int)<r.Count->in64 (ix r.Until (0:Int)).Day.Month)->((¬(1:Int)<(↑r.Until.length:Int)/\(↑r.Until.length:Int)=1)/\¬(0:Int)<r.Count->in64 (ix r.Until (0:Int)).Day.Date)->((¬(1:Int)<(↑r.Until.length:Int)/\(↑r.Until.length:Int)=1)/\¬(0:Int)<r.Count->in64 (ix r.Until (0:Int)).Hour)->((¬(1:Int)<(↑r.Until.length:Int)/\(↑r.Until.length:Int)=1)/\¬(0:Int)<r.Count->in64 (ix r.Until (0:Int)).Min)->((¬(1:Int)<(↑r.Until.length:Int)/\(↑r.Until.length:Int)=1)/\¬(0:Int)<r.Count->in64 (ix r.Until (0:Int)).Sec)->(((1:Int)<(↑r.Until.length:Int) ∨ (↑r.Until.length:Int)=1/\((0:Int)<r.Count ∨ ¬rightT (Tm.mk (Dy.mk (ix r.Until (0:Int)).Day.Year (ix r.Until (0:Int)).Day.Month (ix r.Until (0:Int)).Day.Date) (ix r.Until (0:Int)).Hour (ix r.Until (0:Int)).Min (ix r.Until (0:Int)).Sec (decide ((ix r.Until (0:Int)).Bare=true)) (decide ((ix r.Until (0:Int)).UTC=true)))=true)) ∨ (24:Int)<(↑r.Days.length:Int)->Q false)/\(¬(((1:Int)<(↑r.Until.length:Int) ∨ (↑r.Until.length:Int)=1/\((0:Int)<r.Count ∨ ¬rightT (Tm.mk (Dy.mk (ix r.Until (0:Int)).Day.Year (ix r.Until (0:Int)).Day.Month (ix r.Until (0:Int)).Day.Date) (ix r.Until (0:Int)).Hour (ix r.Until (0:Int)).Min (ix r.Until (0:Int)).Sec (decide ((ix r.Until (0:Int)).Bare=true)) (decide ((ix r.Until (0:Int)).UTC=true)))=true)) ∨ (24:Int)<(↑r.Days.length:Int))->(0:Int)<=0/\(0:Int)<(↑(8:Nat):Int)/\((24:Int)<(↑r.Month.length:Int)->((↑r.Month.length:Int)-((24:Int)+1)).NonNeg/\Q false)/\(¬(24:Int)<(↑r.Month.length:Int)->(False ∨ ¬eqLS r.Month (setL r.Month)=true->((24:Int)<(↑r.Month.length:Int)->False)/\(¬False/\r.Month.length<=1000000)/\(¬False->r.Month.length<=1000000)/\(False ∨ ¬eqLS r.Month (setL r.Month)=true)/\Q false)/\(¬(False ∨ ¬eqLS r.Month (setL r.Month)=true)->((24:Int)<(↑r.Month.length:Int)->False)/\(¬False/\r.Month.length<=1000000)/\(¬False->r.Month.length<=1000000)/\(False ∨ ¬eqLS r.Month (setL r.Month)=true->False)/\((¬False->r.Month.length<=1000000)/\(¬False->(-1000:Int)<=1)/\(¬False->(1:Int)<=1000)/\(¬False->(-1000:Int)<=12)/\(¬False->(12:Int)<=1000))/\(False ∨ badL r.Month (1:Int) (12:Int) false=true->Q false)/\(¬(False ∨ badL r.Month (1:Int) (12:Int) false=true)->in64 ((↑r.Days.length:Int)+(↑r.Month.length:Int))/\in64 ((0:Int)+1)/\(0:Int)<=(0:Int)+1/\(0:Int)+1<(↑(8:Nat):Int)/\((24:Int)<(↑r.WeekNo.length:Int)->((↑r.WeekNo.length:Int)-((24:Int)+1)).NonNeg/\Q false)/\(¬(24:Int)<(↑r.WeekNo.length:Int)->(False ∨ ¬eqLS r.WeekNo (setL r.WeekNo)=true->((24:Int)<(↑r.WeekNo.length:Int)->False)/\(¬False/\r.WeekNo.length<=1000000)/\(¬False->r.WeekNo.length<=1000000)/\(False ∨ ¬eqLS r.WeekNo (setL r.WeekNo)=true)/\Q false)/\(¬(False ∨ ¬eqLS r.WeekNo (setL r.WeekNo)=true)->((24:Int)<(↑r.WeekNo.length:Int)->False)/\(¬False/\r.WeekNo.length<=1000000)/\(¬False->r.WeekNo.length<=1000000)/\(False ∨ ¬eqLS r.WeekNo (setL r.WeekNo)=true->False)/\((¬False->r.WeekNo.length<=1000000)/\(¬False->(-1000:Int)<=1)/\(¬False->(1:Int)<=1000)/\(¬False->(-1000:Int)<=53)/\(¬False->(53:Int)<=1000))/\(False ∨ badL r.WeekNo (1:Int) (53:Int) true=true->Q false)/\(¬(False ∨ badL r.WeekNo (1:Int) (53:Int) true=true)->in64 ((↑r.Days.length:Int)+(↑r.Month.length:Int)+(↑r.WeekNo.length:Int))/\in64 ((0:Int)+1+1)/\(0:Int)<=(0:Int)+1+1/\(0:Int)+1+1<(↑(8:Nat):Int)/\((24:Int)<(↑r.YearDay.length:Int)->((↑r.YearDay.length:Int)-((24:Int)+1)).NonNeg/\Q false)/\(¬(24:Int)<(↑r.YearDay.length:Int)->(False ∨ ¬eqLS r.YearDay (setL r.YearDay)=true->((24:Int)<(↑r.YearDay.length:Int)->False)/\(¬False/\r.YearDay.length<=1000000)/\(¬False->r.YearDay.length<=1000000)/\(False ∨ ¬eqLS r.YearDay (setL r.YearDay)=true)/\Q false)/\(¬(False ∨ ¬eqLS r.YearDay (setL r.YearDay)=true)->((24:Int)<(↑r.YearDay.length:Int)->False)/\(¬False/\r.YearDay.length<=1000000)/\(¬False->r.YearDay.length<=1000000)/\(False ∨ ¬eqLS r.YearDay (setL r.YearDay)=true->False)/\((¬False->r.YearDay.length<=1000000)/\(¬False->(-1000:Int)<=1)/\(¬False->(1:Int)<=1000)/\(¬False->(-1000:Int)<=366)/\(¬False->(366:Int)<=1000))/\(False ∨ badL r.YearDay (1:Int) (366:Int) true=true->Q false)/\(¬(False ∨ badL r.YearDay (1:Int) (366:Int) true=true)->in64 ((↑r.Days.length:Int)+(↑r.Month.length:Int)+(↑r.WeekNo.length:Int)+(↑r.YearDay.length:Int))/\in64 ((0:Int)+1+1+1)/\(0:Int)<=(0:Int)+1+1+1/\(0:Int)+1+1+1<(↑(8:Nat):Int)/\((24:Int)<(↑r.MonthDay.length:Int)->((↑r.MonthDay.length:Int)-((24:Int)+1)).NonNeg/\Q false)/\(¬(24:Int)<(↑r.MonthDay.length:Int)->(False ∨ ¬eqLS r.MonthDay (setL r.MonthDay)=true->((24:Int)<(↑r.MonthDay.length:Int)->False)/\(¬False/\r.MonthDay.length<=1000000)/\(¬False->r.MonthDay.length<=1000000)/\(False ∨ ¬eqLS r.MonthDay (setL r.MonthDay)=true)/\Q false)/\(¬(False ∨ ¬eqLS r.MonthDay (setL r.MonthDay)=true)->((24:Int)<(↑r.MonthDay.length:Int)->False)/\(¬False/\r.MonthDay.length<=1000000)/\(¬False->r.MonthDay.length<=1000000)/\(False ∨ ¬eqLS r.MonthDay (setL r.MonthDay)=true->False)/\((¬False->r.MonthDay.length<=1000000)/\(¬False->(-1000:Int)<=1)/\(¬False->(1:Int)<=1000)/\(¬False->(-1000:Int)<=31)/\(¬False->(31:Int)<=1000))/\(False ∨ badL r.MonthDay (1:Int) (31:Int) true=true->Q false)/\(¬(False ∨ badL r.MonthDay (1:Int) (31:Int) true=true)->in64 ((↑r.Days.length:Int)+(↑r.Month.length:Int)+(↑r.WeekNo.length:Int)+(↑r.YearDay.length:Int)+(↑r.MonthDay.length:Int))/\in64 ((0:Int)+1+1+1+1)/\(0:Int)<=(0:Int)+1+1+1+1/\(0:Int)+1+1+1+1<(↑(8:Nat):Int)/\((24:Int)<(↑r.Hour.length:Int)->((↑r.Hour.length:Int)-((24:Int)+1)).NonNeg/\Q false)/\(¬(24:Int)<(↑r.Hour.length:Int)->(False ∨ ¬eqLS r.Hour (setL r.Hour)=true->((24:Int)<(↑r.Hour.length:Int)->False)/\(¬False/\r.Hour.length<=1000000)/\(¬False->r.Hour.length<=1000000)/\(False ∨ ¬eqLS r.Hour (setL r.Hour)=true)/\Q false)/\(¬(False ∨ ¬eqLS r.Hour (setL r.Hour)=true)->((24:Int)<(↑r.Hour.length:Int)->False)/\(¬False/\r.Hour.length<=1000000)/\(¬False->r.Hour.length<=1000000)/\(False ∨ ¬eqLS r.Hour (setL r.Hour)=true->False)/\((¬False->r.Hour.length<=1000000)/\(¬False->(-1000:Int)<=0)/\(¬False->(0:Int)<=1000)/\(¬False->(-1000:Int)<=23)/\(¬False->(23:Int)<=1000))/\(False ∨ badL r.Hour (0:Int) (23:Int) false=true->Q false)/\(¬(False ∨ badL r.Hour (0:Int) (23:Int) false=true)->in64 ((↑r.Days.length:Int)+(↑r.Month.length:Int)+(↑r.WeekNo.length:Int)+(↑r.YearDay.length:Int)+(↑r.MonthDay.length:Int)+(↑r.Hour.length:Int))/\in64 ((0:Int)+1+1+1+1+1)/\(0:Int)<=(0:Int)+1+1+1+1+1/\(0:Int)+1+1+1+1+1<(↑(8:Nat):Int)/\((24:Int)<(↑r.Minute.length:Int)->((↑r.Minute.length:Int)-((24:Int)+1)).NonNeg/\Q false)/\(¬(24:Int)<(↑r.Minute.length:Int)->(False ∨ ¬eqLS r.Minute (setL r.Minute)=true->((24:Int)<(↑r.Minute.length:Int)->False)/\(¬False/\r.Minute.length<=1000000)/\(¬False->r.Minute.length<=1000000)/\(False ∨ ¬eqLS r.Minute (setL r.Minute)=true)/\Q false)/\(¬(False ∨ ¬eqLS r.Minute (setL r.Minute)=true)->((24:Int)<(↑r.Minute.length:Int)->False)/\(¬False/\r.Minute.length<=1000000)/\(¬False->r.Minute.length<=1000000)/\(False ∨ ¬eqLS r.Minute (setL r.Minute)=true->False)/\((¬False->r.Minute.length<=1000000)/\(¬False->(-1000:Int)<=0)/\(¬False->(0:Int)<=1000)/\(¬False->(-1000:Int)<=59)/\(¬False->(59:Int)<=1000))/\(False ∨ badL r.Minute (0:Int) (59:Int) false=true->Q false)/\(¬(False ∨ badL r.Minute (0:Int) (59:Int) false=true)->in64 ((↑r.Days.length:Int)+(↑r.Month.length:Int)+(↑r.WeekNo.length:Int)+(↑r.YearDay.length:Int)+(↑r.MonthDay.length:Int)+(↑r.Hour.length:Int)+(↑r.Minute.length:Int))/\in64 ((0:Int)+1+1+1+1+1+1)/\(0:Int)<=(0:Int)+1+1+1+1+1+1/\(0:Int)+1+1+1+1+1+1<(↑(8:Nat):Int)/\((24:Int)<(↑r.Second.length:Int)->((↑r.Second.length:Int)-((24:Int)+1)).NonNeg/\Q false)/\(¬(24:Int)<(↑r.Second.length:Int)->(False ∨ ¬eqLS r.Second (setL r.Second)=true->((24:Int)<(↑r.Second.length:Int)->False)/\(¬False/\r.Second.length<=1000000)/\(¬False->r.Second.length<=1000000)/\(False ∨ ¬eqLS r.Second (setL r.Second)=true)/\Q false)/\(¬(False ∨ ¬eqLS r.Second (setL r.Second)=true)->((24:Int)<(↑r.Second.length:Int)->False)/\(¬False/\r.Second.length<=1000000)/\(¬False->r.Second.length<=1000000)/\(False ∨ ¬eqLS r.Second (setL r.Second)=true->False)/\((¬False->r.Second.length<=1000000)/\(¬False->(-1000:Int)<=0)/\(¬False->(0:Int)<=1000)/\(¬False->(-1000:Int)<=59)/\(¬False->(59:Int)<=1000))/\(False ∨ badL r.Second (0:Int) (59:Int) false=true->Q false)/\(¬(False ∨ badL r.Second (0:Int) (59:Int) false=true)->in64 ((↑r.Days.length:Int)+(↑r.Month.length:Int)+(↑r.WeekNo.length:Int)+(↑r.YearDay.length:Int)+(↑r.MonthDay.length:Int)+(↑r.Hour.length:Int)+(↑r.Minute.length:Int)+(↑r.Second.length:Int))/\in64 ((0:Int)+1+1+1+1+1+1+1)/\(0:Int)<=(0:Int)+1+1+1+1+1+1+1/\(0:Int)+1+1+1+1+1+1+1<(↑(8:Nat):Int)/\((24:Int)<(↑r.SetPos.length:Int)->((↑r.SetPos.length:Int)-((24:Int)+1)).NonNeg/\Q false)/\(¬(24:Int)<(↑r.SetPos.length:Int)->(False ∨ ¬eqLS r.SetPos (setL r.SetPos)=true->((24:Int)<(↑r.SetPos.length:Int)->False)/\(¬False/\r.SetPos.length<=1000000)/\(¬False->r.SetPos.length<=1000000)/\(False ∨ ¬eqLS r.SetPos (setL r.SetPos)=true)/\Q false)/\(¬(False ∨ ¬eqLS r.SetPos (setL r.SetPos)=true)->((24:Int)<(↑r.SetPos.length:Int)->False)/\(¬False/\r.SetPos.length<=1000000)/\(¬False->r.SetPos.length<=1000000)/\(False ∨ ¬eqLS r.SetPos (setL r.SetPos)=true->False)/\((¬False->r.SetPos.length<=1000000)/\(¬False->(-1000:Int)<=1)/\(¬False->(1:Int)<=1000)/\(¬False->(-1000:Int)<=366)/\(¬False->(366:Int)<=1000))/\(False ∨ badL r.SetPos (1:Int) (366:Int) true=true->Q false)/\(¬(False ∨ badL r.SetPos (1:Int) (366:Int) true=true)->in64 ((0:Int)+1+1+1+1+1+1+1+1)/\∃ (I:Int->Prop),∃ (m:Int->Nat),I (0:Int)/\∀ (x:Int),I x->(x<(↑r.Days.length:Int)->(0:Int)<=x/\x<(↑r.Days.length:Int)/\(in64 (ix r.Days x).N->in64 (ix r.Days x).Day->(¬(((ix r.Days x).Day<0 ∨ (6:Int)<(ix r.Days x).Day) ∨ mostR (qgR0 r)<(ix r.Days x).N)->in64 ((0:Int)-mostR (qgR0 r)))/\(¬((((ix r.Days x).Day<0 ∨ (6:Int)<(ix r.Days x).Day) ∨ mostR (qgR0 r)<(ix r.Days x).N) ∨ (ix r.Days x).N<(0:Int)-mostR (qgR0 r))/\(0:Int)<x->in64 (x-1))/\((¬((((ix r.Days x).Day<0 ∨ (6:Int)<(ix r.Days x).Day) ∨ mostR (qgR0 r)<(ix r.Days x).N) ∨ (ix r.Days x).N<(0:Int)-mostR (qgR0 r))/\(0:Int)<x->(0:Int)<=x-1)/\(¬((((ix r.Days x).Day<0 ∨ (6:Int)<(ix r.Days x).Day) ∨ mostR (qgR0 r)<(ix r.Days x).N) ∨ (ix r.Days x).N<(0:Int)-mostR (qgR0 r))/\(0:Int)<x->x-1<(↑r.Days.length:Int)))/\((¬((((ix r.Days x).Day<0 ∨ (6:Int)<(ix r.Days x).Day) ∨ mostR (qgR0 r)<(ix r.Days x).N) ∨ (ix r.Days x).N<(0:Int)-mostR (qgR0 r))/\(0:Int)<x->in64 (ix r.Days (x-1)).N)->(¬((((ix r.Days x).Day<0 ∨ (6:Int)<(ix r.Days x).Day) ∨ mostR (qgR0 r)<(ix r.Days x).N) ∨ (ix r.Days x).N<(0:Int)-mostR (qgR0 r))/\(0:Int)<x->in64 (ix r.Days (x-1)).Day)->(((((ix r.Days x).Day<0 ∨ (6:Int)<(ix r.Days x).Day) ∨ mostR (qgR0 r)<(ix r.Days x).N) ∨ (ix r.Days x).N<(0:Int)-mostR (qgR0 r)) ∨ (0:Int)<x/\(0:Int)<=byDayS (Nt.mk (ix r.Days (x-1)).N (ix r.Days (x-1)).Day) (Nt.mk (ix r.Days x).N (ix r.Days x).Day)->Q false)/\(¬(((((ix r.Days x).Day<0 ∨ (6:Int)<(ix r.Days x).Day) ∨ mostR (qgR0 r)<(ix r.Days x).N) ∨ (ix r.Days x).N<(0:Int)-mostR (qgR0 r)) ∨ (0:Int)<x/\(0:Int)<=byDayS (Nt.mk (ix r.Days (x-1)).N (ix r.Days (x-1)).Day) (Nt.mk (ix r.Days x).N (ix r.Days x).Day))->in64 (x+1)/\I (x+1)/\m (x+1)<m x))))/\(¬x<(↑r.Days.length:Int)->in64 (qgR1 r)/\in64 ((qgR1 r) * bif true then max (1:Int) (↑r.Second.length:Int) else min (1:Int) (↑r.Second.length:Int))/\Q (decide ((fitR (qgR0 r)=true/\((0:Int)<(↑r.Days.length:Int)+(↑r.Month.length:Int)+(↑r.WeekNo.length:Int)+(↑r.YearDay.length:Int)+(↑r.MonthDay.length:Int)+(↑r.Hour.length:Int)+(↑r.Minute.length:Int)+(↑r.Second.length:Int) ∨ (↑r.SetPos.length:Int)=0))/\((qgR1 r) * bif true then max (1:Int) (↑r.Second.length:Int) else min (1:Int) (↑r.Second.length:Int))<=48))))))))))))))))))))))))))))))
theorem VgR_eq {r:Rl} {Q:Bool->Prop}:@Eq Prop (VgR r Q) (vcFun (E:=NXr) (inlHN NXr H0 angR 4) (angR 40) Tryz.f40 [.agg [.int .i64 r.Freq,.int .i64 r.Interval,.int .i64 r.Count,.sl (N:=U) 25 r.Until,.sl (N:=U) 3 r.Month,.sl (N:=U) 3 r.WeekNo,.sl (N:=U) 3 r.YearDay,.sl (N:=U) 3 r.MonthDay,.sl (N:=U) 60 r.Days,.sl (N:=U) 3 r.Hour,.sl (N:=U) 3 r.Minute,.sl (N:=U) 3 r.Second,.sl (N:=U) 3 r.SetPos,.int .i64 r.Wkst]] [] [] 0 (resP NXr [.bool] Q)):=by kernel_rfl
theorem VgR_ok {r:Rl} {Q:Bool->Prop} (h:VgR r Q):vcFun (E:=NXr) (inlHN NXr H0 angR 4) (angR 40) Tryz.f40 [.agg [.int .i64 r.Freq,.int .i64 r.Interval,.int .i64 r.Count,.sl (N:=U) 25 r.Until,.sl (N:=U) 3 r.Month,.sl (N:=U) 3 r.WeekNo,.sl (N:=U) 3 r.YearDay,.sl (N:=U) 3 r.MonthDay,.sl (N:=U) 60 r.Days,.sl (N:=U) 3 r.Hour,.sl (N:=U) 3 r.Minute,.sl (N:=U) 3 r.Second,.sl (N:=U) 3 r.SetPos,.int .i64 r.Wkst]] [] [] 0 (resP NXr [.bool] Q):=by rw [<- VgR_eq]; exact h
set_option maxHeartbeats 2000000 in
theorem pgR (r:Rl) (hfw:fewR r=true):VgR r (fun y0=>y0=rightR r):=by
 unfold VgR qgR1 qgR0
 obtain ⟨wmo,wwn,wyd,wmd,wdy,who,wmi,wse,wsp,wti⟩:=fewR_ok hfw
 rw [show (Rl.mk r.Freq r.Interval r.Count r.Until r.Month r.WeekNo r.YearDay r.MonthDay r.Days r.Hour r.Minute r.Second r.SetPos r.Wkst)=r from rfl]
 refine ⟨fun h=>(rightR_no fun R=>by obtain ⟨a1,a2,a3,a4,a5,a6,a7,a8⟩:=R.head; omega).symm,fun h=>?_⟩
 have hH:HeadR r:=⟨by omega,by omega,by omega,by omega,by omega,by omega,by omega,by omega⟩
 clear h
 refine ⟨fun _=>by decide,fun h=>by omega,fun _ _ _ _ _ _=>?_⟩
 refine ⟨fun hu=>(rightR_no fun R=>?_).symm,fun hu=>?_⟩
 . simp only [Bool.decide_eq_true] at hu
   obtain ⟨a,b⟩:=R.til
   have c:=R.few
   rcases hu with (hu | ⟨h1,hu | hu⟩) | hu
   . omega
   . have:=(b h1).1; omega
   . exact hu (b h1).2
   . omega
 simp only [Bool.decide_eq_true] at hu
 have hU:UntilR r:=by
  have u1:¬ 1<(r.Until.length:Int):=fun h=>hu (.inl (.inl h))
  exact ⟨by omega,fun h1=>⟨by have:¬ 0<r.Count:=fun h=>hu (.inl (.inr ⟨h1,.inl h⟩)); omega,Classical.not_not.1 fun hn=>hu (.inl (.inr ⟨h1,.inr hn⟩))⟩⟩
 have h24:(r.Days.length:Int)<=24:=by have:¬ 24<(r.Days.length:Int):=fun h=>hu (.inr h); omega
 clear hu
 refine ⟨by decide,by decide,fun a=>⟨a,(rightR_no fun R=>ris_a a R.lists.mo).symm⟩,fun a=>⟨fun e=>⟨fun x=>a x,⟨not_false,by omega⟩,fun _=>by omega,e,(rightR_no fun R=>ris_b e R.lists.mo).symm⟩,fun e=>⟨fun x=>a x,⟨not_false,by omega⟩,fun _=>by omega,fun x=>e x,⟨fun _=>by omega,fun _=>by decide,fun _=>by decide,fun _=>by decide,fun _=>by decide⟩,fun c=>(rightR_no fun R=>ris_c (by decide) c R.lists.mo).symm,fun c=>?_⟩⟩⟩
 have r_mo:RisL r.Month 1 12 false:=ris_d (by decide) a e c
 clear a e c
 refine ⟨⟨by omega,by omega⟩,⟨by omega,by omega⟩,?_⟩
 refine ⟨by decide,by decide,fun a=>⟨a,(rightR_no fun R=>ris_a a R.lists.wn).symm⟩,fun a=>⟨fun e=>⟨fun x=>a x,⟨not_false,by omega⟩,fun _=>by omega,e,(rightR_no fun R=>ris_b e R.lists.wn).symm⟩,fun e=>⟨fun x=>a x,⟨not_false,by omega⟩,fun _=>by omega,fun x=>e x,⟨fun _=>by omega,fun _=>by decide,fun _=>by decide,fun _=>by decide,fun _=>by decide⟩,fun c=>(rightR_no fun R=>ris_c (by decide) c R.lists.wn).symm,fun c=>?_⟩⟩⟩
 have r_wn:RisL r.WeekNo 1 53 true:=ris_d (by decide) a e c
 clear a e c
 refine ⟨⟨by omega,by omega⟩,⟨by omega,by omega⟩,?_⟩
 refine ⟨by decide,by decide,fun a=>⟨a,(rightR_no fun R=>ris_a a R.lists.yd).symm⟩,fun a=>⟨fun e=>⟨fun x=>a x,⟨not_false,by omega⟩,fun _=>by omega,e,(rightR_no fun R=>ris_b e R.lists.yd).symm⟩,fun e=>⟨fun x=>a x,⟨not_false,by omega⟩,fun _=>by omega,fun x=>e x,⟨fun _=>by omega,fun _=>by decide,fun _=>by decide,fun _=>by decide,fun _=>by decide⟩,fun c=>(rightR_no fun R=>ris_c (by decide) c R.lists.yd).symm,fun c=>?_⟩⟩⟩
 have r_yd:RisL r.YearDay 1 366 true:=ris_d (by decide) a e c
 clear a e c
 refine ⟨⟨by omega,by omega⟩,⟨by omega,by omega⟩,?_⟩
 refine ⟨by decide,by decide,fun a=>⟨a,(rightR_no fun R=>ris_a a R.lists.md).symm⟩,fun a=>⟨fun e=>⟨fun x=>a x,⟨not_false,by omega⟩,fun _=>by omega,e,(rightR_no fun R=>ris_b e R.lists.md).symm⟩,fun e=>⟨fun x=>a x,⟨not_false,by omega⟩,fun _=>by omega,fun x=>e x,⟨fun _=>by omega,fun _=>by decide,fun _=>by decide,fun _=>by decide,fun _=>by decide⟩,fun c=>(rightR_no fun R=>ris_c (by decide) c R.lists.md).symm,fun c=>?_⟩⟩⟩
 have r_md:RisL r.MonthDay 1 31 true:=ris_d (by decide) a e c
 clear a e c
 refine ⟨⟨by omega,by omega⟩,⟨by omega,by omega⟩,?_⟩
 refine ⟨by decide,by decide,fun a=>⟨a,(rightR_no fun R=>ris_a a R.lists.ho).symm⟩,fun a=>⟨fun e=>⟨fun x=>a x,⟨not_false,by omega⟩,fun _=>by omega,e,(rightR_no fun R=>ris_b e R.lists.ho).symm⟩,fun e=>⟨fun x=>a x,⟨not_false,by omega⟩,fun _=>by omega,fun x=>e x,⟨fun _=>by omega,fun _=>by decide,fun _=>by decide,fun _=>by decide,fun _=>by decide⟩,fun c=>(rightR_no fun R=>ris_c (by decide) c R.lists.ho).symm,fun c=>?_⟩⟩⟩
 have r_ho:RisL r.Hour 0 23 false:=ris_d (by decide) a e c
 clear a e c
 refine ⟨⟨by omega,by omega⟩,⟨by omega,by omega⟩,?_⟩
 refine ⟨by decide,by decide,fun a=>⟨a,(rightR_no fun R=>ris_a a R.lists.mi).symm⟩,fun a=>⟨fun e=>⟨fun x=>a x,⟨not_false,by omega⟩,fun _=>by omega,e,(rightR_no fun R=>ris_b e R.lists.mi).symm⟩,fun e=>⟨fun x=>a x,⟨not_false,by omega⟩,fun _=>by omega,fun x=>e x,⟨fun _=>by omega,fun _=>by decide,fun _=>by decide,fun _=>by decide,fun _=>by decide⟩,fun c=>(rightR_no fun R=>ris_c (by decide) c R.lists.mi).symm,fun c=>?_⟩⟩⟩
 have r_mi:RisL r.Minute 0 59 false:=ris_d (by decide) a e c
 clear a e c
 refine ⟨⟨by omega,by omega⟩,⟨by omega,by omega⟩,?_⟩
 refine ⟨by decide,by decide,fun a=>⟨a,(rightR_no fun R=>ris_a a R.lists.se).symm⟩,fun a=>⟨fun e=>⟨fun x=>a x,⟨not_false,by omega⟩,fun _=>by omega,e,(rightR_no fun R=>ris_b e R.lists.se).symm⟩,fun e=>⟨fun x=>a x,⟨not_false,by omega⟩,fun _=>by omega,fun x=>e x,⟨fun _=>by omega,fun _=>by decide,fun _=>by decide,fun _=>by decide,fun _=>by decide⟩,fun c=>(rightR_no fun R=>ris_c (by decide) c R.lists.se).symm,fun c=>?_⟩⟩⟩
 have r_se:RisL r.Second 0 59 false:=ris_d (by decide) a e c
 clear a e c
 refine ⟨⟨by omega,by omega⟩,⟨by omega,by omega⟩,?_⟩
 refine ⟨by decide,by decide,fun a=>⟨a,(rightR_no fun R=>ris_a a R.lists.sp).symm⟩,fun a=>⟨fun e=>⟨fun x=>a x,⟨not_false,by omega⟩,fun _=>by omega,e,(rightR_no fun R=>ris_b e R.lists.sp).symm⟩,fun e=>⟨fun x=>a x,⟨not_false,by omega⟩,fun _=>by omega,fun x=>e x,⟨fun _=>by omega,fun _=>by decide,fun _=>by decide,fun _=>by decide,fun _=>by decide⟩,fun c=>(rightR_no fun R=>ris_c (by decide) c R.lists.sp).symm,fun c=>?_⟩⟩⟩
 have r_sp:RisL r.SetPos 1 366 true:=ris_d (by decide) a e c
 clear a e c
 refine ⟨⟨by omega,by omega⟩,?_⟩
 have hL:ListsR r:=⟨r_mo,r_wn,r_yd,r_md,r_ho,r_mi,r_se,r_sp⟩
 have m0:0<=mostR r/\mostR r<=53:=by
  unfold mostR
  split
  . omega
  . split <;> omega
 refine ⟨fun x=>0<=x/\x<=r.Days.length/\DaysUp r.Days (mostR r) x,fun x=>((r.Days.length:Int)-x).toNat,⟨Int.le_refl _,by omega,DaysUp.nil⟩,?_⟩
 rintro x ⟨x0,x1,hd⟩
 rw [show Nt.mk (ix r.Days (x-1)).N (ix r.Days (x-1)).Day=ix r.Days (x-1) from rfl,show Nt.mk (ix r.Days x).N (ix r.Days x).Day=ix r.Days x from rfl]
 refine ⟨fun hx=>⟨x0,hx,fun _ _=>⟨fun _=>⟨by omega,by omega⟩,fun h=>⟨by omega,by omega⟩,⟨fun h=>by omega,fun h=>by omega⟩,fun _ _=>⟨fun hb=>?_,fun hb=>?_⟩⟩⟩,fun hx=>?_⟩
 . refine (rightR_no fun R=>?_).symm
   obtain ⟨a1,a2,a3,a4⟩:=R.days.ok x x0 hx
   rcases hb with (((h | h) | h) | h) | ⟨h0,h⟩
   . omega
   . omega
   . omega
   . omega
   . exact byDay_less.1 h (R.days.up x h0 hx)
 . have hb':=fun h=>hb (.inl h)
   exact ⟨⟨by omega,by omega⟩,⟨by omega,by omega,hd.step ⟨by omega,by omega,by omega,by omega⟩ fun h0=>Classical.not_not.1 fun hn=>hb (.inr ⟨h0,byDay_less.2 hn⟩)⟩,by dsimp only; omega⟩
 . have b1:∀ a b:Int,(bif true then a else b)=a:=fun _ _=>rfl
   rw [b1,b1,b1,max_long,max_long,max_long]
   have l1:=@longL_rg r.Hour
   have l2:=@longL_rg r.Minute
   have l3:=@longL_rg r.Second
   have k:=long3 (a:=longL r.Hour) (b:=longL r.Minute) (c:=longL r.Second) (by omega) (by omega) (by omega)
   refine ⟨k.1,k.2,?_⟩
   refine Bool.eq_iff_iff.2 (Iff.trans decide_eq_true_iff (Iff.trans ?_ rightR_iff.symm))
   constructor
   . rintro ⟨⟨hf,hs⟩,hc⟩
     exact ⟨hH,hU,hL,h24,hd.done hx,Classical.not_not.1 fun hn=>(by rw [<- fit_f hn] at hf; cases hf),⟨by omega,hc⟩⟩
   . intro R
     obtain ⟨s1,s2⟩:=R.some
     exact ⟨⟨(fit_t R.fit).symm,by omega⟩,s2⟩
noncomputable def cgRs (r:Rl):Q1 U:=⟨[fewR r=true],[],blB (rightR r)⟩
noncomputable def cgR (a:List (SV U)):Option (Q1 U):=match a with | [.agg l_r]=>(y30.bk (.agg l_r)).bind fun r=>some (cgRs r) | _=>none
theorem cgR_ok (args:List (SV U)) (q:Q1 U) (h:cgR args=some q) (ho:allP q.ob):LendOK NXr 40 args ⟨q.ob,q.hy,q.v,[]⟩:=by
 unfold cgR at h
 split at h
 . rename_i l_r
   obtain ⟨r,hb_r,h⟩:=Option.bind_eq_some_iff.1 h
   cases h
   refine LendOK.conv (E:=NXr) (args':=[.agg [.int .i64 r.Freq,.int .i64 r.Interval,.int .i64 r.Count,.sl 25 r.Until,.sl 3 r.Month,.sl 3 r.WeekNo,.sl 3 r.YearDay,.sl 3 r.MonthDay,.sl 60 r.Days,.sl 3 r.Hour,.sl 3 r.Minute,.sl 3 r.Second,.sl 3 r.SetPos,.int .i64 r.Wkst]]) (lend1 NXr_ok (inlHN_ok NXr_ok H0_ok angR 4) Tryz.func40 (k:=.bool) trivial (VgR_ok (pgR r ho.1)) 0) fun D w vs hr=>tup_conv [.agg l_r] [.agg [.int .i64 r.Freq,.int .i64 r.Interval,.int .i64 r.Count,.sl (N:=U) 25 r.Until,.sl (N:=U) 3 r.Month,.sl (N:=U) 3 r.WeekNo,.sl (N:=U) 3 r.YearDay,.sl (N:=U) 3 r.MonthDay,.sl (N:=U) 60 r.Days,.sl (N:=U) 3 r.Hour,.sl (N:=U) 3 r.Minute,.sl (N:=U) 3 r.Second,.sl (N:=U) 3 r.SetPos,.int .i64 r.Wkst]] _ ⟨fun _ h=>agg_conv30 hb_r h,trivial⟩ hr
 . cases h
noncomputable def NgR:Env:=NXr.addL 40 cgR
theorem NgR_ok:EnvOK NgR:=NXr_ok.addL Tryz.call40 cgR_ok
end Go.Proofs.YtdjfeninmbpflaaGreat
end
section
namespace Go.Re
open Go Go.Wk Go.Wl Go.Rx
theorem dec_eq {p:Prop} [Decidable p] {b:Bool} (h:p↔b=true):decide p=b:=Bool.eq_iff_iff.2 (decide_eq_true_iff.trans h)
structure FitsP (s:Tm) (r:Rl):Prop where
 rt:rightT s=true
 rr:rightR r=true
 un:0<(r.Until.length:Int)->(((ix r.Until 0).Bare=true↔s.Bare=true)/\((ix r.Until 0).UTC=true↔s.UTC=true))
 ba:s.Bare=true->r.Freq<=3/\(r.Hour.length:Int)=0/\(r.Minute.length:Int)=0/\(r.Second.length:Int)=0
open Classical in
noncomputable def fitsS (s:Tm) (r:Rl):Bool:=decide (FitsP s r)
open Classical in
theorem fits_iff {s:Tm} {r:Rl}:fitsS s r=true↔FitsP s r:=by unfold fitsS; exact decide_eq_true_iff
theorem fits_no {s:Tm} {r:Rl} (h:¬ FitsP s r):false=fitsS s r:=by
 cases e:fitsS s r with
 | true=>exact absurd (fits_iff.1 e) h
 | false=>rfl
def idxR (r:Rl) (t:Int):Int :=
 if r.Freq=0 then (ofS (t / 86400+1)).Year else if r.Freq=1 then 12 * (ofS (t / 86400+1)).Year+(ofS (t / 86400+1)).Month
 else if r.Freq=2 then (t / 86400+1+6-r.Wkst) / 7 else if r.Freq=3 then t / 86400+1 else if r.Freq=4 then t / 3600 else if r.Freq=5 then t / 60 else t
def idxP (r:Rl) (t:Int):Int:=idxR r t-(if r.Freq=1 then 1 else 0)
def nbP (n:Int):Int:=if n=0 ∨ 3652059<n then 315537897600 else (n-1) * 86400
def begP (r:Rl) (i:Int):Int :=
 if r.Freq=0 then nbP (numS ⟨i,1,1⟩) else if r.Freq=1 then nbP (numS ⟨i / 12,i % 12+1,1⟩) else if r.Freq=2 then nbP (max 1 (7 * i-6+r.Wkst))
 else if r.Freq=3 then nbP i else if r.Freq=4 then min i 87649416 * 3600 else if r.Freq=5 then min i 5258964960 * 60 else min i 315537897600
theorem num_rg0 (d:Dy):0<=numS d/\numS d<=3652059:=by
 unfold numS
 split
 . rename_i h; have:=num_rg h; omega
 . omega
theorem of_rg (n:Int):(0<=(ofS n).Year/\(ofS n).Year<=9999)/\(0<=(ofS n).Month/\(ofS n).Month<=12)/\0<=(ofS n).Date/\(ofS n).Date<=31:=by
 by_cases h:n<1 ∨ 3652059<n
 . have e:ofS n=⟨0,0,0⟩:=by unfold ofS; rw [if_pos h]
   rw [e]
   exact ⟨by decide,by decide,by decide⟩
 . obtain ⟨h1,_⟩:=of_ok (n:=n) (by omega) (by omega)
   obtain ⟨a,b,c,d,e,f⟩:=h1.ym
   exact ⟨⟨by omega,b⟩,⟨by omega,d⟩,by omega,f⟩
def weeks1 (y f:Int):Int:=if weeksS y f=0 then 1 else weeksS y f
def atW (r:Rl) (n:Int):Int:=if r.Freq=1 ∨ 0<(r.Month.length:Int) then (ofS n).Date else ydS (ofS n)
def allW (r:Rl) (n:Int):Int:=if r.Freq=1 ∨ 0<(r.Month.length:Int) then longS (ofS n).Year (ofS n).Month else ydS ⟨(ofS n).Year,12,31⟩
def WdP (r:Rl) (n:Int) (x:Nt):Prop:=x.Day=wdS n/\((x.N=0 ∨ x.N=1+(atW r n-1) / 7) ∨ -x.N=1+(allW r n-atW r n) / 7)
instance (r:Rl) (n:Int) (x:Nt):Decidable (WdP r n x):=by unfold WdP; infer_instance
def wdB (r:Rl) (n:Int):Bool:=r.Days.any fun x=>decide (WdP r n x)
def LikeP (s:Tm) (r:Rl) (dy n:Int):Prop :=
 if 0<(r.WeekNo.length:Int) then wdS n=wdS dy
 else ¬ (((r.Freq<=1/\(ofS n).Date≠s.Day.Date) ∨ ((r.Freq=0/\(r.Month.length:Int)=0)/\(ofS n).Month≠s.Day.Month)))/\(r.Freq≠2 ∨ wdS n=wdS dy)
instance (s:Tm) (r:Rl) (dy n:Int):Decidable (LikeP s r dy n):=by unfold LikeP; infer_instance
def dayS (s:Tm) (r:Rl) (dy n:Int):Bool :=
 (((decide ((r.Month.length:Int)=0) || hasN r.Month (ofS n).Month) && partE r.WeekNo (weekS n r.Wkst).2 (weeks1 (weekS n r.Wkst).1 r.Wkst)) && (partE r.YearDay (ydS (ofS n)) (ydS ⟨(ofS n).Year,12,31⟩) && partE r.MonthDay (ofS n).Date (longS (ofS n).Year (ofS n).Month))) &&
 (if 0<(r.Days.length:Int) then wdB r n else if 0<(r.YearDay.length:Int) ∨ 0<(r.MonthDay.length:Int) then true else decide (LikeP s r dy n))
theorem wk_rg (n f:Int):-1000000<=(weekS n f).2/\(weekS n f).2<=1000000:=by
 unfold weekS
 split
 . exact ⟨by decide,by decide⟩
 . show -1000000<=(n-begS (wkY n f) f) / 7+1/\_
   obtain ⟨⟨y0,y1⟩,_⟩:=of_rg n
   have hy:0-1<=wkY n f/\wkY n f<=10000:=by unfold wkY; split; omega; split <;> omega
   have b:=beg_rg (wkY n f) f
   have a0:=ahead_mono (show -1<=wkY n f by omega)
   have a1:=ahead_mono (show wkY n f<=10000 by omega)
   have a2:aheadS (-1)=-731:=by decide
   have a3:aheadS 10000=3652059:=by decide
   show -1000000<=(n-begS (wkY n f) f) / 7+1/\(n-begS (wkY n f) f) / 7+1<=1000000
   omega
theorem wks_rg (y f:Int):-1000000<=weeks1 y f/\weeks1 y f<=1000000:=by
 unfold weeks1
 have h:-1000000<=weeksS y f/\weeksS y f<=1000000:=by
  unfold weeksS
  split
  . omega
  . have b:=beg_rg y f
    have c:=beg_rg (y+1) f
    have a0:=ahead_rg (y:=y) (by omega) (by omega)
    have a1:=ahead_rg (y:=y+1) (by omega) (by omega)
    omega
 split <;> omega
theorem yd_rg (d:Dy):-5000000<=ydS d/\ydS d<=5000000:=by
 unfold ydS
 split
 . rename_i h
   obtain ⟨y0,y1,_⟩:=h.ym
   have a:=num_rg h
   have b:=ahead_rg (y:=d.Year) (by omega) (by omega)
   omega
 . omega
theorem long_rg (y m:Int):0<=longS y m/\longS y m<=31:=by unfold longS; (repeat' split) <;> omega
theorem wdB_yes {r:Rl} {n i:Int} (h0:0<=i) (h1:i<r.Days.length) (h:WdP r n (ix r.Days i)):true=wdB r n:=(List.any_eq_true.2 ⟨_,ix_memR h0 h1,decide_eq_true h⟩).symm
theorem wdB_no {r:Rl} {n:Int} (h:∀ i:Int,0<=i->i<r.Days.length->¬ WdP r n (ix r.Days i)):false=wdB r n:=by
 cases hb:wdB r n with
 | false=>rfl
 | true =>
  obtain ⟨x,hx,hd⟩:=List.any_eq_true.1 hb
  obtain ⟨i,h0,h1,rfl⟩:=ix_of_mem hx
  exact absurd (of_decide_eq_true hd) (h i h0 h1)
theorem atW_rg (r:Rl) (n:Int):0<=atW r n+5000000/\atW r n<=5000000/\0<=allW r n+5000000/\allW r n<=5000000:=by
 have a:=yd_rg (ofS n)
 have b:=yd_rg ⟨(ofS n).Year,12,31⟩
 have c:=long_rg (ofS n).Year (ofS n).Month
 obtain ⟨_,_,d⟩:=of_rg n
 unfold atW allW
 split <;> omega
theorem yd_ok {n:Int} (h0:1<=n) (h1:n<=3652059):1<=ydS (ofS n)/\ydS (ofS n)<=ydS ⟨(ofS n).Year,12,31⟩:=by
 obtain ⟨hr,hn⟩:=of_ok h0 h1
 obtain ⟨y0,y1,m0,m1,_⟩:=hr.ym
 have i1:=num_in hr
 have hr2:RightD ⟨(ofS n).Year,12,31⟩:=by
  refine ⟨show (1:Int)<=31 by decide,?_⟩
  show (31:Int)<=longS (ofS n).Year 12
  unfold longS
  rw [if_neg (by omega),if_neg (by decide)]
  decide
 have e1:ydS (ofS n)=numD (ofS n)-aheadS (ofS n).Year:=by unfold ydS; rw [if_pos hr]
 have e2:ydS ⟨(ofS n).Year,12,31⟩=cumS (ofS n).Year 12+31:=by
  unfold ydS; rw [if_pos hr2]
  show aheadS (ofS n).Year+cumS (ofS n).Year 12+31-aheadS (ofS n).Year=_
  omega
 have:=year_sum (ofS n).Year
 omega
theorem at_ok {r:Rl} {n:Int} (h0:1<=n) (h1:n<=3652059):1<=atW r n/\atW r n<=allW r n:=by
 obtain ⟨hr,hn⟩:=of_ok h0 h1
 have a:=yd_ok h0 h1
 unfold atW allW
 split
 . exact hr
 . exact a
end Go.Re
end
section
namespace Go.Proofs.YtdjfeninmbpflaaGreat
open Go Go.Wk Go.Wl Go.Rx Go.Re 
attribute [local irreducible] vcFun
def ancF:Nat->Ann:=fun | 18=>⟨57,fun | 4=>some ⟨[2,3,16,17],[.slot 18 (.int .i64)]⟩ | _=>none,fun _=>none⟩ | _=>⟨0,fun _=>none,fun _=>none⟩
def VcF (s:Tm) (r:Rl) (Q:Bool->Prop):Prop :=
(¬¬rightT (Tm.mk (Dy.mk s.Day.Year s.Day.Month s.Day.Date) s.Hour s.Min s.Sec (decide (s.Bare=true)) (decide (s.UTC=true)))=true->fewR (Rl.mk r.Freq r.Interval r.Count r.Until r.Month r.WeekNo r.YearDay r.MonthDay r.Days r.Hour r.Minute r.Second r.SetPos r.Wkst)=true)/\(¬rightT (Tm.mk (Dy.mk s.Day.Year s.Day.Month s.Day.Date) s.Hour s.Min s.Sec (decide (s.Bare=true)) (decide (s.UTC=true)))=true ∨ ¬rightR (Rl.mk r.Freq r.Interval r.Count r.Until r.Month r.WeekNo r.YearDay r.MonthDay r.Days r.Hour r.Minute r.Second r.SetPos r.Wkst)=true->Q false)/\(¬(¬rightT (Tm.mk (Dy.mk s.Day.Year s.Day.Month s.Day.Date) s.Hour s.Min s.Sec (decide (s.Bare=true)) (decide (s.UTC=true)))=true ∨ ¬rightR (Rl.mk r.Freq r.Interval r.Count r.Until r.Month r.WeekNo r.YearDay r.MonthDay r.Days r.Hour r.Minute r.Second r.SetPos r.Wkst)=true)->∃ (I:Int->Prop),∃ (m:Int->Nat),I (0:Int)/\∀ (x:Int),I x->(x<(↑r.Until.length:Int)->(0:Int)<=x/\x<(↑r.Until.length:Int)/\(in64 (ix r.Until x).Day.Year->in64 (ix r.Until x).Day.Month->in64 (ix r.Until x).Day.Date->in64 (ix r.Until x).Hour->in64 (ix r.Until x).Min->in64 (ix r.Until x).Sec->(¬((ix r.Until x).Bare=true↔s.Bare=true) ∨ ¬((ix r.Until x).UTC=true↔s.UTC=true)->Q false)/\(¬(¬((ix r.Until x).Bare=true↔s.Bare=true) ∨ ¬((ix r.Until x).UTC=true↔s.UTC=true))->in64 (x+1)/\I (x+1)/\m (x+1)<m x)))/\(¬x<(↑r.Until.length:Int)->(¬¬s.Bare=true/\r.Freq<=3->in64 ((↑r.Hour.length:Int)+(↑r.Minute.length:Int)))/\(¬¬s.Bare=true/\r.Freq<=3->in64 ((↑r.Hour.length:Int)+(↑r.Minute.length:Int)+(↑r.Second.length:Int)))/\Q (decide (¬s.Bare=true ∨ r.Freq<=3/\(↑r.Hour.length:Int)+(↑r.Minute.length:Int)+(↑r.Second.length:Int)=0))))
theorem VcF_eq {s:Tm} {r:Rl} {Q:Bool->Prop}:@Eq Prop (VcF s r Q) (vcFun (E:=NgR) (inlHN NgR H0 ancF 2) (ancF 18) Tryz.f18 [.agg [.int .i64 s.Day.Year,.int .i64 s.Day.Month,.int .i64 s.Day.Date,.int .i64 s.Hour,.int .i64 s.Min,.int .i64 s.Sec,blB s.Bare,blB s.UTC],.agg [.int .i64 r.Freq,.int .i64 r.Interval,.int .i64 r.Count,.sl (N:=U) 25 r.Until,.sl (N:=U) 3 r.Month,.sl (N:=U) 3 r.WeekNo,.sl (N:=U) 3 r.YearDay,.sl (N:=U) 3 r.MonthDay,.sl (N:=U) 60 r.Days,.sl (N:=U) 3 r.Hour,.sl (N:=U) 3 r.Minute,.sl (N:=U) 3 r.Second,.sl (N:=U) 3 r.SetPos,.int .i64 r.Wkst]] [] [] 0 (resP NgR [.bool] Q)):=by kernel_rfl
theorem VcF_ok {s:Tm} {r:Rl} {Q:Bool->Prop} (h:VcF s r Q):vcFun (E:=NgR) (inlHN NgR H0 ancF 2) (ancF 18) Tryz.f18 [.agg [.int .i64 s.Day.Year,.int .i64 s.Day.Month,.int .i64 s.Day.Date,.int .i64 s.Hour,.int .i64 s.Min,.int .i64 s.Sec,blB s.Bare,blB s.UTC],.agg [.int .i64 r.Freq,.int .i64 r.Interval,.int .i64 r.Count,.sl (N:=U) 25 r.Until,.sl (N:=U) 3 r.Month,.sl (N:=U) 3 r.WeekNo,.sl (N:=U) 3 r.YearDay,.sl (N:=U) 3 r.MonthDay,.sl (N:=U) 60 r.Days,.sl (N:=U) 3 r.Hour,.sl (N:=U) 3 r.Minute,.sl (N:=U) 3 r.Second,.sl (N:=U) 3 r.SetPos,.int .i64 r.Wkst]] [] [] 0 (resP NgR [.bool] Q):=by rw [<- VcF_eq]; exact h
theorem pcF (s:Tm) (r:Rl) (hfw:fewR r=true):VcF s r (fun y0=>y0=fitsS s r):=by
 unfold VcF
 rw [show (Rl.mk r.Freq r.Interval r.Count r.Until r.Month r.WeekNo r.YearDay r.MonthDay r.Days r.Hour r.Minute r.Second r.SetPos r.Wkst)=r from rfl]
 simp only [Bool.decide_eq_true]
 refine ⟨fun _=>hfw,fun h=>fits_no fun F=>h.elim (fun h=>h F.rt) fun h=>h F.rr,fun h=>?_⟩
 have rt:rightT s=true:=Classical.not_not.1 fun hn=>h (.inl hn)
 have rr:rightR r=true:=Classical.not_not.1 fun hn=>h (.inr hn)
 obtain ⟨wmo,wwn,wyd,wmd,wdy,who,wmi,wse,wsp,wti⟩:=fewR_ok hfw
 have hl:(r.Until.length:Int)<=1:=(rightR_iff.1 rr).til.1
 refine ⟨fun x=>0<=x/\(0<x->(((ix r.Until 0).Bare=true↔s.Bare=true)/\((ix r.Until 0).UTC=true↔s.UTC=true))),fun x=>((r.Until.length:Int)-x).toNat,⟨Int.le_refl _,fun h=>by omega⟩,?_⟩
 rintro x ⟨x0,hx⟩
 refine ⟨fun h1=>?_,fun h1=>?_⟩
 . obtain rfl:x=0:=by omega
   refine ⟨x0,h1,fun _ _ _ _ _ _=>⟨fun hn=>fits_no fun F=>?_,fun hn=>⟨by decide,⟨by decide,fun _=>⟨Classical.not_not.1 fun h=>hn (.inl h),Classical.not_not.1 fun h=>hn (.inr h)⟩⟩,by dsimp only; omega⟩⟩⟩
   obtain ⟨a,b⟩:=F.un h1
   exact hn.elim (fun h=>h a) fun h=>h b
 . refine ⟨fun _=>⟨by omega,by omega⟩,fun _=>⟨by omega,by omega⟩,?_⟩
   refine Bool.eq_iff_iff.2 (Iff.trans decide_eq_true_iff (Iff.trans ?_ fits_iff.symm))
   constructor
   . intro hb
     exact ⟨rt,rr,fun h0=>hx (by omega),fun hs=>by rcases hb with hb | ⟨hb,hc⟩; exact absurd hs hb; exact ⟨hb,by omega,by omega,by omega⟩⟩
   . intro F
     by_cases hs:s.Bare=true
     . obtain ⟨a,b,c,d⟩:=F.ba hs
       exact .inr ⟨a,by omega⟩
     . exact .inl hs
noncomputable def ccFs (s:Tm) (r:Rl):Q1 U:=⟨[fewR r=true],[],blB (fitsS s r)⟩
noncomputable def ccF (a:List (SV U)):Option (Q1 U):=match a with | [.agg l_s,.agg l_r]=>(y25.bk (.agg l_s)).bind fun s=>(y30.bk (.agg l_r)).bind fun r=>some (ccFs s r) | _=>none
theorem ccF_ok (args:List (SV U)) (q:Q1 U) (h:ccF args=some q) (ho:allP q.ob):LendOK NgR 18 args ⟨q.ob,q.hy,q.v,[]⟩:=by
 unfold ccF at h
 split at h
 . rename_i l_s l_r
   obtain ⟨s,hb_s,h⟩:=Option.bind_eq_some_iff.1 h
   obtain ⟨r,hb_r,h⟩:=Option.bind_eq_some_iff.1 h
   cases h
   refine LendOK.conv (E:=NgR) (args':=[.agg [.int .i64 s.Day.Year,.int .i64 s.Day.Month,.int .i64 s.Day.Date,.int .i64 s.Hour,.int .i64 s.Min,.int .i64 s.Sec,blB s.Bare,blB s.UTC],.agg [.int .i64 r.Freq,.int .i64 r.Interval,.int .i64 r.Count,.sl 25 r.Until,.sl 3 r.Month,.sl 3 r.WeekNo,.sl 3 r.YearDay,.sl 3 r.MonthDay,.sl 60 r.Days,.sl 3 r.Hour,.sl 3 r.Minute,.sl 3 r.Second,.sl 3 r.SetPos,.int .i64 r.Wkst]]) (lend1 NgR_ok (inlHN_ok NgR_ok H0_ok ancF 2) Tryz.func18 (k:=.bool) trivial (VcF_ok (pcF s r ho.1)) 0) fun D w vs hr=>tup_conv [.agg l_s,.agg l_r] [.agg [.int .i64 s.Day.Year,.int .i64 s.Day.Month,.int .i64 s.Day.Date,.int .i64 s.Hour,.int .i64 s.Min,.int .i64 s.Sec,blB s.Bare,blB s.UTC],.agg [.int .i64 r.Freq,.int .i64 r.Interval,.int .i64 r.Count,.sl (N:=U) 25 r.Until,.sl (N:=U) 3 r.Month,.sl (N:=U) 3 r.WeekNo,.sl (N:=U) 3 r.YearDay,.sl (N:=U) 3 r.MonthDay,.sl (N:=U) 60 r.Days,.sl (N:=U) 3 r.Hour,.sl (N:=U) 3 r.Minute,.sl (N:=U) 3 r.Second,.sl (N:=U) 3 r.SetPos,.int .i64 r.Wkst]] _ ⟨fun _ h=>agg_conv25 hb_s h,fun _ h=>agg_conv30 hb_r h,trivial⟩ hr
 . cases h
noncomputable def NcF:Env:=NgR.addL 18 ccF
theorem NcF_ok:EnvOK NcF:=NgR_ok.addL Tryz.call18 ccF_ok
end Go.Proofs.YtdjfeninmbpflaaGreat
end
