/- 19 texts, one behind the other. -/
import Derived.Test.YtdjfeninmbpflaaGreatJ7
import Derived.Test.YtdjfeninmbpflaaGreatJ4
import Derived.Test.YtdjfeninmbpflaaGreatRows
import Derived.Test.YtdjfeninmbpflaaGreatJ1
import Derived.ChangeSame
import Derived.ChangeVars
import Derived.JoinedOf
import Derived.RowKit
import Derived.RowKit2
import Derived.Carry
import Derived.ProofKit
set_option linter.unusedVariables false
set_option linter.unusedSimpArgs false
set_option maxRecDepth 100000
section
namespace Go.Proofs.YtdjfeninmbpflaaGreat
open Go Go.Wk Go.Wl Go.Rx Go.Re Go.Re
attribute [local irreducible] vcFun vdFun
def ancm:Nat->Ann:=fun | 22=>⟨71,fun | 9=>some ⟨[6],[.tree [] [.own (some 6) 4 [.v .bool]]]⟩ | _=>none,fun _=>none⟩ | 30=>⟨12,fun _=>none,fun _=>none⟩ | _=>⟨0,fun _=>none,fun _=>none⟩
def Vcm (s:Tm) (r:Rl) (t:Tm) (Q:Bool->Prop):Prop :=
fewR (etR r)=true/\(((¬fitsS (etT s) (etR r)=true ∨ ¬rightT (etT t)=true) ∨ ¬(t.Bare=true↔s.Bare=true)) ∨ ¬(t.UTC=true↔s.UTC=true)->Q false)/\(¬(((¬fitsS (etT s) (etR r)=true ∨ ¬rightT (etT t)=true) ∨ ¬(t.Bare=true↔s.Bare=true)) ∨ ¬(t.UTC=true↔s.UTC=true))->((0:Int)<=secsT (etT t)/\secsT (etT t)<=400000000000/\(0:Int)<=r.Wkst/\r.Wkst<=6)/\((0:Int)<=secsT (etT s)/\secsT (etT s)<=400000000000/\(0:Int)<=r.Wkst/\r.Wkst<=6)/\in64 (idxP (etR r) (secsT (etT t))-idxP (etR r) (secsT (etT s)))/\(¬idxP (etR r) (secsT (etT t))-idxP (etR r) (secsT (etT s))<0->r.Interval≠0)/\(¬(idxP (etR r) (secsT (etT t))-idxP (etR r) (secsT (etT s))<0 ∨ (idxP (etR r) (secsT (etT t))-idxP (etR r) (secsT (etT s))).tmod r.Interval≠0)->(86400:Int)≠0)/\(¬(idxP (etR r) (secsT (etT t))-idxP (etR r) (secsT (etT s))<0 ∨ (idxP (etR r) (secsT (etT t))-idxP (etR r) (secsT (etT s))).tmod r.Interval≠0)->in64 ((secsT (etT t)).tdiv (86400:Int)))/\(¬(idxP (etR r) (secsT (etT t))-idxP (etR r) (secsT (etT s))<0 ∨ (idxP (etR r) (secsT (etT t))-idxP (etR r) (secsT (etT s))).tmod r.Interval≠0)->in64 ((secsT (etT t)).tdiv (86400:Int)+1))/\(¬(idxP (etR r) (secsT (etT t))-idxP (etR r) (secsT (etT s))<0 ∨ (idxP (etR r) (secsT (etT t))-idxP (etR r) (secsT (etT s))).tmod r.Interval≠0)->fewR (etR r)=true)/\(¬(idxP (etR r) (secsT (etT t))-idxP (etR r) (secsT (etT s))<0 ∨ (idxP (etR r) (secsT (etT t))-idxP (etR r) (secsT (etT s))).tmod r.Interval≠0)->(1:Int)<=(secsT (etT t)).tdiv (86400:Int)+1)/\(¬(idxP (etR r) (secsT (etT t))-idxP (etR r) (secsT (etT s))<0 ∨ (idxP (etR r) (secsT (etT t))-idxP (etR r) (secsT (etT s))).tmod r.Interval≠0)->(secsT (etT t)).tdiv (86400:Int)+1<=3652059)/\(¬(idxP (etR r) (secsT (etT t))-idxP (etR r) (secsT (etT s))<0 ∨ (idxP (etR r) (secsT (etT t))-idxP (etR r) (secsT (etT s))).tmod r.Interval≠0)->rightR (etR r)=true)/\((idxP (etR r) (secsT (etT t))-idxP (etR r) (secsT (etT s))<0 ∨ (idxP (etR r) (secsT (etT t))-idxP (etR r) (secsT (etT s))).tmod r.Interval≠0) ∨ ¬dayS (etT s) (etR r) (numS (etD s.Day)) ((secsT (etT t)).tdiv (86400:Int)+1)=true->Q false)/\(¬((idxP (etR r) (secsT (etT t))-idxP (etR r) (secsT (etT s))<0 ∨ (idxP (etR r) (secsT (etT t))-idxP (etR r) (secsT (etT s))).tmod r.Interval≠0) ∨ ¬dayS (etT s) (etR r) (numS (etD s.Day)) ((secsT (etT t)).tdiv (86400:Int)+1)=true)->(86400:Int)≠0/\(86400:Int)≠0/\in64 ((secsT (etT t)).tmod (86400:Int)+1)/\∃ (I:List Int->Bool->Prop),∃ (pre:List Int->Int->Prop),∃ (res:List Int->Int->Bool),I [] false/\(∀ (xs:List Int) (t:Int),pre xs t->stopB res xs=false)/\(∀ (xs:List Int) (t:Int),in64 t->pre xs t->∀ (x:Bool),I xs x->res xs t=false/\I (xs++[t]) true)/\(fitsS (etT s) (etR r)=true/\okY pre res [] (clkP (etT s) (etR r) ((secsT (etT t)).tmod (86400:Int)) ((secsT (etT t)).tmod (86400:Int)+1)))/\∀ (x:Bool),I (goY res [] (clkP (etT s) (etR r) ((secsT (etT t)).tmod (86400:Int)) ((secsT (etT t)).tmod (86400:Int)+1))) x->(stopB res (goY res [] (clkP (etT s) (etR r) ((secsT (etT t)).tmod (86400:Int)) ((secsT (etT t)).tmod (86400:Int)+1)))=true->Q (decide (x=true)))/\(stopB res (goY res [] (clkP (etT s) (etR r) ((secsT (etT t)).tmod (86400:Int)) ((secsT (etT t)).tmod (86400:Int)+1)))=false->Q false)))
theorem Vcm_eq {s:Tm} {r:Rl} {t:Tm} {Q:Bool->Prop}:@Eq Prop (Vcm s r t Q) (vdFun (E:=NI47) (inlHN NI47 H0 ancm 3) (ancm 22) tellR Tryz.f22 [.agg [.int .i64 s.Day.Year,.int .i64 s.Day.Month,.int .i64 s.Day.Date,.int .i64 s.Hour,.int .i64 s.Min,.int .i64 s.Sec,blB s.Bare,blB s.UTC],.agg [.int .i64 r.Freq,.int .i64 r.Interval,.int .i64 r.Count,.sl (N:=U) 25 r.Until,.sl (N:=U) 3 r.Month,.sl (N:=U) 3 r.WeekNo,.sl (N:=U) 3 r.YearDay,.sl (N:=U) 3 r.MonthDay,.sl (N:=U) 60 r.Days,.sl (N:=U) 3 r.Hour,.sl (N:=U) 3 r.Minute,.sl (N:=U) 3 r.Second,.sl (N:=U) 3 r.SetPos,.int .i64 r.Wkst],.agg [.int .i64 t.Day.Year,.int .i64 t.Day.Month,.int .i64 t.Day.Date,.int .i64 t.Hour,.int .i64 t.Min,.int .i64 t.Sec,blB t.Bare,blB t.UTC]] [] [] 0 (resP NI47 [.bool] Q)):=by kernel_rfl
theorem Vcm_ok {s:Tm} {r:Rl} {t:Tm} {Q:Bool->Prop} (h:Vcm s r t Q):vdFun (E:=NI47) (inlHN NI47 H0 ancm 3) (ancm 22) tellR Tryz.f22 [.agg [.int .i64 s.Day.Year,.int .i64 s.Day.Month,.int .i64 s.Day.Date,.int .i64 s.Hour,.int .i64 s.Min,.int .i64 s.Sec,blB s.Bare,blB s.UTC],.agg [.int .i64 r.Freq,.int .i64 r.Interval,.int .i64 r.Count,.sl (N:=U) 25 r.Until,.sl (N:=U) 3 r.Month,.sl (N:=U) 3 r.WeekNo,.sl (N:=U) 3 r.YearDay,.sl (N:=U) 3 r.MonthDay,.sl (N:=U) 60 r.Days,.sl (N:=U) 3 r.Hour,.sl (N:=U) 3 r.Minute,.sl (N:=U) 3 r.Second,.sl (N:=U) 3 r.SetPos,.int .i64 r.Wkst],.agg [.int .i64 t.Day.Year,.int .i64 t.Day.Month,.int .i64 t.Day.Date,.int .i64 t.Hour,.int .i64 t.Min,.int .i64 t.Sec,blB t.Bare,blB t.UTC]] [] [] 0 (resP NI47 [.bool] Q):=by rw [<- Vcm_eq]; exact h
set_option maxHeartbeats 2000000 in
theorem pcm (s:Tm) (r:Rl) (t:Tm) (hfw:fewR r=true):Vcm s r t (fun y=>y=matR s r t):=by
 unfold Vcm matR
 simp only [etT_eq,etR_eq,etD_eq]
 refine ⟨hfw,fun h=>by rw [if_pos (show MatN s r t from h)],fun h=>?_⟩
 rw [if_neg (show ¬ MatN s r t from h)]
 have hf:fitsS s r=true:=Classical.not_not.1 fun e=>h (.inl (.inl (.inl e)))
 have ht:rightT t=true:=Classical.not_not.1 fun e=>h (.inl (.inl (.inr e)))
 have hF:=fits_iff.1 hf
 obtain ⟨s0,s1⟩:=secs_rg hF.rt
 obtain ⟨x0,x1⟩:=secs_rg ht
 obtain ⟨_,_,i0,i1,_,_,w0,w1⟩:=(rightR_iff.1 hF.rr).head
 obtain ⟨a0,a1,_⟩:=idxR_rg (r:=r) s0 s1 w0 w1
 obtain ⟨b0,b1,_⟩:=idxR_rg (r:=r) x0 x1 w0 w1
 have ek:idxP r (secsT t)-idxP r (secsT s)=idxR r (secsT t)-idxR r (secsT s):=by unfold idxP; omega
 rw [ek]
 unfold matK
 generalize secsT t=x at *
 have e1:x.tdiv 86400=x / 86400:=Int.tdiv_eq_ediv_of_nonneg x0
 have e2:x.tmod 86400=x % 86400:=Int.tmod_eq_emod_of_nonneg x0
 rw [e1,e2]
 have kr:-400000000000<=idxR r x-idxR r (secsT s)/\idxR r x-idxR r (secsT s)<=400000000000:=by omega
 generalize idxR r x-idxR r (secsT s)=k at *
 have hk:¬ (k<0 ∨ k.tmod r.Interval≠0)↔(0<=k/\k % r.Interval=0):=by
  by_cases k0:k<0
  . exact ⟨fun hh=>absurd (.inl k0) hh,fun hh=>absurd hh.1 (by omega)⟩
  . rw [Int.tmod_eq_emod_of_nonneg (by omega)]
    exact ⟨fun hh=>⟨by omega,Classical.not_not.1 fun e=>hh (.inr e)⟩,fun hh e=>e.elim (fun e=>k0 e) fun e=>e hh.2⟩
 refine ⟨⟨x0,by omega,w0,w1⟩,⟨s0,by omega,w0,w1⟩,⟨by omega,by omega⟩,fun _=>by omega,fun _=>by decide,fun _=>⟨by omega,by omega⟩,fun _=>⟨by omega,by omega⟩,fun _=>hfw,fun _=>by omega,fun _=>by omega,fun _=>hF.rr,fun hb=>?_,fun hg=>?_⟩
 . symm
   rcases hb with hb | hb
   . rw [decide_eq_false (fun e=>(hk.2 e) hb),Bool.false_and,Bool.false_and]
   . rw [Bool.not_eq_true] at hb
     rw [hb,Bool.and_false,Bool.false_and]
 . have g1:0<=k/\k % r.Interval=0:=hk.1 fun e=>hg (.inl e)
   have g2:dayS s r (numS s.Day) (x / 86400+1)=true:=Classical.not_not.1 fun e=>hg (.inr e)
   have eg:∀ z:Bool,(z=((decide (0<=k/\k % r.Interval=0) && dayS s r (numS s.Day) (x / 86400+1)) && hasN (clkS s r) (x % 86400)))=(z=hasN (clkS s r) (x % 86400)):=fun z=>by rw [decide_eq_true g1,g2,Bool.and_self,Bool.true_and]
   simp only [eg]
   clear eg
   generalize hT:clkP s r (x % 86400) (x % 86400+1)=T
   refine ⟨by decide,by decide,⟨by omega,by omega⟩,(fun xs b=>b=!xs.isEmpty),(fun xs _=>xs=[]),(fun _ _=>false),(show false=!true from Bool.not_true.symm),?_,?_,?_,fun b hb=>?_⟩
   rotate_left 2
   . refine And.intro hf ?_
     cases T with
     | nil=>trivial
     | cons a T=>exact ⟨rfl,fun e=>by cases e⟩
   . refine And.intro (fun h2=>?_) (fun h2=>?_)
     . rw [goY_false] at hb h2
       have hne:¬ T.take 1=[]:=fun e=>by rw [e] at h2; cases h2
       have h3:hasN (clkS s r) (x % 86400)=true:=by rw [<- Bool.not_eq_false]; exact fun e=>hne (by rw [<- hT]; exact (clk_one hF).2 e)
       rw [h3,hb]
       generalize T.take 1=q at hne
       cases q with
       | nil=>exact absurd rfl hne
       | cons=>rfl
     . rw [goY_false] at h2
       have he:T.take 1=[]:=by
        cases T with
        | nil=>rfl
        | cons a T=>simp [stopB] at h2
       rw [<- hT] at he
       exact ((clk_one hF).1 he).symm
   . rintro xs t rfl; rfl
   . rintro xs t _ _ b _; exact ⟨rfl,by simp⟩
noncomputable def ccms (s:Tm) (r:Rl) (t:Tm):Q1 U:=⟨[fewR r=true],[],blB (matR s r t)⟩
noncomputable def ccm (a:List (SV U)):Option (Q1 U):=match a with | [.agg l_s,.agg l_r,.agg l_t]=>(y25.bk (.agg l_s)).bind fun s=>(y30.bk (.agg l_r)).bind fun r=>(y25.bk (.agg l_t)).bind fun t=>some (ccms s r t) | _=>none
theorem ccm_ok (args:List (SV U)) (q:Q1 U) (h:ccm args=some q) (ho:allP q.ob):LendOK NI47 22 args ⟨q.ob,q.hy,q.v,[]⟩:=by
 unfold ccm at h
 split at h
 . rename_i l_s l_r l_t
   obtain ⟨s,hb_s,h⟩:=Option.bind_eq_some_iff.1 h
   obtain ⟨r,hb_r,h⟩:=Option.bind_eq_some_iff.1 h
   obtain ⟨t,hb_t,h⟩:=Option.bind_eq_some_iff.1 h
   cases h
   refine LendOK.conv (E:=NI47) (args':=[.agg [.int .i64 s.Day.Year,.int .i64 s.Day.Month,.int .i64 s.Day.Date,.int .i64 s.Hour,.int .i64 s.Min,.int .i64 s.Sec,blB s.Bare,blB s.UTC],.agg [.int .i64 r.Freq,.int .i64 r.Interval,.int .i64 r.Count,.sl 25 r.Until,.sl 3 r.Month,.sl 3 r.WeekNo,.sl 3 r.YearDay,.sl 3 r.MonthDay,.sl 60 r.Days,.sl 3 r.Hour,.sl 3 r.Minute,.sl 3 r.Second,.sl 3 r.SetPos,.int .i64 r.Wkst],.agg [.int .i64 t.Day.Year,.int .i64 t.Day.Month,.int .i64 t.Day.Date,.int .i64 t.Hour,.int .i64 t.Min,.int .i64 t.Sec,blB t.Bare,blB t.UTC]]) (lend1D NI47_ok ((inlHN_ok NI47_ok H0_ok ancm 3)) tellR Tryz.func22 (k:=.bool) trivial (Vcm_ok (pcm s r t ho.1)) 0) fun D w vs hr=>tup_conv [.agg l_s,.agg l_r,.agg l_t] [.agg [.int .i64 s.Day.Year,.int .i64 s.Day.Month,.int .i64 s.Day.Date,.int .i64 s.Hour,.int .i64 s.Min,.int .i64 s.Sec,blB s.Bare,blB s.UTC],.agg [.int .i64 r.Freq,.int .i64 r.Interval,.int .i64 r.Count,.sl 25 r.Until,.sl 3 r.Month,.sl 3 r.WeekNo,.sl 3 r.YearDay,.sl 3 r.MonthDay,.sl 60 r.Days,.sl 3 r.Hour,.sl 3 r.Minute,.sl 3 r.Second,.sl 3 r.SetPos,.int .i64 r.Wkst],.agg [.int .i64 t.Day.Year,.int .i64 t.Day.Month,.int .i64 t.Day.Date,.int .i64 t.Hour,.int .i64 t.Min,.int .i64 t.Sec,blB t.Bare,blB t.UTC]] _ ⟨fun _ h=>agg_conv25 hb_s h,fun _ h=>agg_conv30 hb_r h,fun _ h=>agg_conv25 hb_t h,trivial⟩ hr
 . cases h
theorem ccm_raw (args:List (SV U)) (q:Q1 U) (h:ccm args=some q) (ho:allP q.ob) (D:Nat->Prop) (w:World) (vs:List Value) (h1:∀ b,D b->b<w.heap.size) (h2:Gl.is D w) (h3:Rep U eT (fun _=>none) D w (.tuple vs.toArray) (.tup args)):CallR Tryz.prog 22 vs w (fun v w'=>Ext [] w w'/\Rep U eT (fun _=>none) (fun _=>False) w' v q.v/\allP q.hy):=ccm_ok args q h ho D w vs h1 h2 h3
noncomputable def Ncm:Env:=Ncc.addL 22 ccm
theorem Ncm_ok:EnvOK Ncm:=Ncc_ok.addL Tryz.call22 fun args q h ho D w vs h1 h2 h3=>ccm_raw args q h ho D w vs h1 h2 h3
end Go.Proofs.YtdjfeninmbpflaaGreat
end
section
namespace Go.Proofs.YtdjfeninmbpflaaGreat
open Go Go.Wk Go.Wl Go.Rx Go.Re 
noncomputable def NI34:Env:=Ncm.addI 34 Tryz.f34
theorem NI34_ok:EnvOK NI34:=Ncm_ok.addI Tryz.call34 Tryz.func34
noncomputable def NI58:Env:=NI34.addI 58 Tryz.f58
theorem NI58_ok:EnvOK NI58:=NI34_ok.addI Tryz.call58 Tryz.func58
end Go.Proofs.YtdjfeninmbpflaaGreat
end
section
namespace Go.Proofs.YtdjfeninmbpflaaGreat
open Go Go.Wk Go.Wl Go.Rx Go.Re 
attribute [local irreducible] vcFun
def anfa:Nat->Ann:=fun | 32=>⟨74,fun | 6=>some ⟨[2,6,39,40],[.slot 41 (.int .i64)]⟩ | _=>none,fun _=>none⟩ | 34=>⟨171,fun | 16=>some ⟨[0,2,3,9,11,14],[.slot 10 (.int .i64),.slot 15 (.int .i64),.own 1000003 [.int .i64]]⟩ | 23=>some ⟨[0,2,3,9,11,14,15,130,131],[.slot 10 (.int .i64),.slot 132 (.int .i64),.own 1000003 [.int .i64]]⟩ | 7=>some ⟨[0,1,2,3,9,10,42,43],[.slot 11 (.int .i64),.slot 44 (.int .i64)]⟩ | _=>none,fun | 5=>some ⟨[0,1,2,3,9,10],[.own 1000003 [.int .i64]]⟩ | 16=>some ⟨[0,2,3,9,10,11,14],[.slot 15 (.int .i64)]⟩ | _=>none⟩ | 58=>⟨14,fun _=>none,fun _=>none⟩ | _=>⟨0,fun _=>none,fun _=>none⟩
def qfa0 (l:Lk) (x_4:Int):=idxP l.Rule (secsT (etT l.start))+x_4 * l.Rule.Interval
def qfa1 (l:Lk):=idxP l.Rule (secsT (etT l.start))+40000 * l.Rule.Interval
def qfa2 (l:Lk):=idxP l.Rule (bif false then max (0:Int) (315537897599:Int) else min (0:Int) (315537897599:Int))-idxP l.Rule (secsT (etT l.start))
def Vfa (l:Lk) (to:Int) (Q:Err->Prop):Prop :=
((0:Int)<=secsT (etT l.start)/\secsT (etT l.start)<=400000000000/\(0:Int)<=l.Rule.Wkst/\l.Rule.Wkst<=6)/\in64 ((40000:Int) * l.Rule.Interval)/\in64 (qfa1 l)/\(0:Int)<=idxP l.Rule (secsT (etT l.start))+40000 * l.Rule.Interval/\idxP l.Rule (secsT (etT l.start))+40000 * l.Rule.Interval<=1000000000000/\(0:Int)<=l.Rule.Wkst/\l.Rule.Wkst<=6/\(to<=begP l.Rule (qfa1 l) ∨ (315537897600:Int)<=begP l.Rule (qfa1 l)->Q Err.nil)/\(¬(to<=begP l.Rule (qfa1 l) ∨ (315537897600:Int)<=begP l.Rule (qfa1 l))->∃ (I:Int->Prop),∃ (m:Int->Nat),I (0:Int)/\∀ (x:Int),I x->(x<(↑l.Rule.Until.length:Int)->(0:Int)<=x/\x<(↑l.Rule.Until.length:Int)/\(in64 (ix l.Rule.Until x).Day.Year->in64 (ix l.Rule.Until x).Day.Month->in64 (ix l.Rule.Until x).Day.Date->in64 (ix l.Rule.Until x).Hour->in64 (ix l.Rule.Until x).Min->in64 (ix l.Rule.Until x).Sec->(secsT (etT (ix l.Rule.Until x))<begP l.Rule (qfa1 l)->Q Err.nil)/\(¬secsT (etT (ix l.Rule.Until x))<begP l.Rule (qfa1 l)->in64 (x+1)/\I (x+1)/\m (x+1)<m x)))/\(¬x<(↑l.Rule.Until.length:Int)->((0:Int)<l.Rule.Count->∃ (J:Int->Prop),((secsT (etT l.start)<begP l.Rule (qfa1 l)/\(0:Int)<=secsT (etT l.start)->in64 ((0:Int)+1)/\(¬(0:Int)+1<l.Rule.Count->(l.Rule.Count<=(0:Int)+1 ∨ Err.nil≠Err.nil->Q Err.nil)/\(¬(l.Rule.Count<=(0:Int)+1 ∨ Err.nil≠Err.nil)->Q (Err.w (87:Nat) [] (Err.no (5:Int)))))/\(¬¬(0:Int)+1<l.Rule.Count->J ((0:Int)+1)))/\(¬(secsT (etT l.start)<begP l.Rule (qfa1 l)/\(0:Int)<=secsT (etT l.start))->J (0:Int)))/\∀ (x:Int),J x->∃ (I:Int->Int->Prop),∃ (m:Int->Int->Nat),I (315537897600:Int) (0:Int)/\∀ (x_1 x_2:Int),I x_1 x_2->(x_2<(↑l.Rule.Until.length:Int)->(0:Int)<=x_2/\x_2<(↑l.Rule.Until.length:Int)/\(in64 (ix l.Rule.Until x_2).Day.Year->in64 (ix l.Rule.Until x_2).Day.Month->in64 (ix l.Rule.Until x_2).Day.Date->in64 (ix l.Rule.Until x_2).Hour->in64 (ix l.Rule.Until x_2).Min->in64 (ix l.Rule.Until x_2).Sec->in64 (x_2+1)/\I (secsT (etT (ix l.Rule.Until x_2))) (x_2+1)/\m (secsT (etT (ix l.Rule.Until x_2))) (x_2+1)<m x_1 x_2))/\(¬x_2<(↑l.Rule.Until.length:Int)->(0:Int)<=secsT (etT l.start)/\secsT (etT l.start)<=400000000000/\(0:Int)<=l.Rule.Wkst/\l.Rule.Wkst<=6/\∃ (J:Int->Prop),((l.Rule.Count=0/\secsT (etT l.start)<0->(((0:Int)<=bif false then max (0:Int) (315537897599:Int) else min (0:Int) (315537897599:Int))/\(bif false then max (0:Int) (315537897599:Int) else min (0:Int) (315537897599:Int))<=400000000000/\(0:Int)<=l.Rule.Wkst/\l.Rule.Wkst<=6)/\in64 (qfa2 l)/\(l.Rule.Interval≠0/\in64 ((qfa2 l).tdiv l.Rule.Interval))/\in64 ((qfa2 l).tdiv l.Rule.Interval-1)/\J (bif true then max (0:Int) ((qfa2 l).tdiv l.Rule.Interval-1) else min (0:Int) ((qfa2 l).tdiv l.Rule.Interval-1)))/\(¬(l.Rule.Count=0/\secsT (etT l.start)<0)->J (0:Int)))/\∀ (x_3:Int),J x_3->∃ (I:Int->Int->Int->Prop),∃ (m:Int->Int->Int->Nat),I (1:Int) x_3 x/\∀ (x x_4 x_5:Int),I x x_4 x_5->in64 (x_4 * l.Rule.Interval)/\in64 (qfa0 l x_4)/\(0:Int)<=idxP l.Rule (secsT (etT l.start))+x_4 * l.Rule.Interval/\idxP l.Rule (secsT (etT l.start))+x_4 * l.Rule.Interval<=1000000000000/\(0:Int)<=l.Rule.Wkst/\l.Rule.Wkst<=6/\(((begP l.Rule (qfa1 l)<=begP l.Rule (qfa0 l x_4) ∨ x_1<begP l.Rule (qfa0 l x_4)) ∨ (0:Int)<l.Rule.Count/\l.Rule.Count<=x) ∨ (315537897600:Int)<=begP l.Rule (qfa0 l x_4)->(l.Rule.Count<=x_5 ∨ Err.nil≠Err.nil->Q Err.nil)/\(¬(l.Rule.Count<=x_5 ∨ Err.nil≠Err.nil)->Q (Err.w (87:Nat) [] (Err.no (5:Int)))))/\(¬(((begP l.Rule (qfa1 l)<=begP l.Rule (qfa0 l x_4) ∨ x_1<begP l.Rule (qfa0 l x_4)) ∨ (0:Int)<l.Rule.Count/\l.Rule.Count<=x) ∨ (315537897600:Int)<=begP l.Rule (qfa0 l x_4))->((40000:Int)<=x_4->(l.Rule.Count<=x_5 ∨ Err.w (87:Nat) [] (Err.no (5:Int))≠Err.nil->Q (Err.w (87:Nat) [] (Err.no (5:Int))))/\(¬(l.Rule.Count<=x_5 ∨ Err.w (87:Nat) [] (Err.no (5:Int))≠Err.nil)->Q (Err.w (87:Nat) [] (Err.no (5:Int)))))/\(¬(40000:Int)<=x_4->fewR l.Rule=true/\fitsS l.start l.Rule=true/\(0:Int)<=idxP l.Rule (secsT (etT l.start))+x_4 * l.Rule.Interval/\idxP l.Rule (secsT (etT l.start))+x_4 * l.Rule.Interval<=999999999999/\∃ (I_1:Int->Int->Int->Prop),∃ (m_1:Int->Int->Int->Nat),I_1 x (0:Int) x_5/\∀ (x_6 x_7 x_8:Int),I_1 x_6 x_7 x_8->(x_7<(↑(candP l.start l.Rule l.day (qfa0 l x_4)).length:Int)->(0:Int)<=x_7/\x_7<(↑(candP l.start l.Rule l.day (qfa0 l x_4)).length:Int)/\(in64 (ix (candP l.start l.Rule l.day (qfa0 l x_4)) x_7)->(ix (candP l.start l.Rule l.day (qfa0 l x_4)) x_7<=secsT (etT l.start)->in64 (x_7+1)/\I_1 x_6 (x_7+1) x_8/\m_1 x_6 (x_7+1) x_8<m_1 x_6 x_7 x_8)/\(¬ix (candP l.start l.Rule l.day (qfa0 l x_4)) x_7<=secsT (etT l.start)->((begP l.Rule (qfa1 l)<=ix (candP l.start l.Rule l.day (qfa0 l x_4)) x_7 ∨ x_1<ix (candP l.start l.Rule l.day (qfa0 l x_4)) x_7) ∨ (0:Int)<l.Rule.Count/\l.Rule.Count<=x_6->in64 (x_4+1)/\I x_6 (x_4+1) x_8/\m x_6 (x_4+1) x_8<m x x_4 x_5)/\(¬((begP l.Rule (qfa1 l)<=ix (candP l.start l.Rule l.day (qfa0 l x_4)) x_7 ∨ x_1<ix (candP l.start l.Rule l.day (qfa0 l x_4)) x_7) ∨ (0:Int)<l.Rule.Count/\l.Rule.Count<=x_6)->in64 (x_6+1)/\in64 (x_8+1)/\(¬x_8+1<l.Rule.Count->(l.Rule.Count<=x_8+1 ∨ Err.nil≠Err.nil->Q Err.nil)/\(¬(l.Rule.Count<=x_8+1 ∨ Err.nil≠Err.nil)->Q (Err.w (87:Nat) [] (Err.no (5:Int)))))/\(¬¬x_8+1<l.Rule.Count->in64 (x_7+1)/\I_1 (x_6+1) (x_7+1) (x_8+1)/\m_1 (x_6+1) (x_7+1) (x_8+1)<m_1 x_6 x_7 x_8)))))/\(¬x_7<(↑(candP l.start l.Rule l.day (qfa0 l x_4)).length:Int)->in64 (x_4+1)/\I x_6 (x_4+1) x_8/\m x_6 (x_4+1) x_8<m x x_4 x_5)))))/\(¬(0:Int)<l.Rule.Count->Q (Err.w (87:Nat) [] (Err.no (5:Int))))))
theorem Vfa_eq {l:Lk} {to:Int} {Q:Err->Prop}:@Eq Prop (Vfa l to Q) (vcFun (E:=NI58) (inlHN NI58 H0 anfa 4) (anfa 32) Tryz.f32 [.fel (N:=U) 85 [l] 0 0,.int .i64 to] [] [] 0 (resP NI58 [.err] Q)):=by kernel_rfl
theorem Vfa_ok {l:Lk} {to:Int} {Q:Err->Prop} (h:Vfa l to Q):vcFun (E:=NI58) (inlHN NI58 H0 anfa 4) (anfa 32) Tryz.f32 [.fel (N:=U) 85 [l] 0 0,.int .i64 to] [] [] 0 (resP NI58 [.err] Q):=by rw [<- Vfa_eq]; exact h
set_option maxHeartbeats 2000000 in
theorem pfa (l:Lk) (to:Int) (hfw:fewR l.Rule=true) (hf:fitsS l.start l.Rule=true):Vfa l to (fun y0=>y0=errB (farB l.start l.Rule l.day to)):=by
 unfold Vfa qfa2 qfa1 qfa0
 simp only [etT_eq]
 have hF:=fits_iff.1 hf
 obtain ⟨s0,s1⟩:=secs_rg hF.rt
 obtain ⟨_,_,v0,v1,n0,n1,w0,w1⟩:=(rightR_iff.1 hF.rr).head
 obtain ⟨u1,u2⟩:=(rightR_iff.1 hF.rr).til
 obtain ⟨a0,a1⟩:=idxP_rg (r:=l.Rule) s0 s1 w0 w1
 obtain ⟨fb,hfb⟩:∃ fb,farB l.start l.Rule l.day to=fb:=⟨_,rfl⟩
 rw [hfb]
 unfold farB at hfb
 have lt:∀ n i:Int,i<n->(n-(i+1)).toNat<(n-i).toNat:=fun n i h=>by omega
 generalize begP l.Rule (idxP l.Rule (secsT l.start)+40000 * l.Rule.Interval)=b at *
 refine ⟨⟨s0,by omega,w0,w1⟩,⟨by omega,by omega⟩,⟨by omega,by omega⟩,by omega,by omega,w0,w1,fun h=>?_,fun h=>⟨fun x=>0<=x/\x<=(l.Rule.Until.length:Int)/\(0<x->¬ secsT (ix l.Rule.Until 0)<b),fun x=>((l.Rule.Until.length:Int)-x).toNat,⟨Int.le_refl 0,by omega,fun h=>absurd h (by decide)⟩,fun x hx=>⟨fun hlt=>⟨hx.1,hlt,fun _ _ _ _ _ _=>⟨fun hs=>?_,fun hs=>⟨⟨by omega,by omega⟩,⟨by omega,by omega,fun _=>?_⟩,lt _ _ hlt⟩⟩⟩,fun hge=>⟨fun hc=>?_,fun hc=>?_⟩⟩⟩⟩
 . rw [if_pos h] at hfb; rw [<- hfb]; rfl
 . have e:x=0:=by omega
   subst e
   rw [if_neg h,if_pos ⟨hlt,hs⟩] at hfb; rw [<- hfb]; rfl
 . have e:x=0:=by omega
   subst e; exact hs
 . have hnu:¬ (0<(l.Rule.Until.length:Int)/\secsT (ix l.Rule.Until 0)<b):=fun hh=>hx.2.2 (by omega) hh.2
   rw [if_neg h,if_neg hnu,if_pos hc] at hfb
   generalize hg:runE (farR l.Rule) [] (insS l.start l.Rule l.day 0 b).1 (insS l.start l.Rule l.day 0 b).2=g at hfb
   have R0:RunI (farR l.Rule) g [] (insS l.start l.Rule l.day 0 b).1 (insS l.start l.Rule l.day 0 b).2:=⟨hg⟩
   clear hg
   unfold insS at R0
   have ek:k0S l.start l.Rule 0=0:=by unfold k0S; rw [if_neg (fun hh=>absurd hh.1 (by omega))]
   rw [ek] at R0
   generalize secsT l.start=fi at *
   generalize idxP l.Rule fi=i0 at *
   have yes:∀ y:List Int,∀ t n:Int,(y.length:Int)=n->n+1<l.Rule.Count->farR l.Rule y t=true:=fun y t n hn hh=>decide_eq_true (by rw [hn]; exact hh)
   have no:∀ y:List Int,∀ t n:Int,(y.length:Int)=n->¬ n+1<l.Rule.Count->¬ farR l.Rule y t=true:=fun y t n hn hh e=>hh (by have:=of_decide_eq_true e; rw [hn] at this; exact this)
   have len1:∀ (y:List Int) (t n:Int),(y.length:Int)=n->((y++[t]).length:Int)=n+1:=fun y t n hn=>by rw [List.length_append,List.length_singleton]; omega
   refine ⟨fun n=>∃ y:List Int,(y.length:Int)=n/\n<=1/\OutI (farR l.Rule) g l.start l.Rule l.day fi b (tilS l.Rule) i0 0 1 y,⟨fun hfst=>⟨by decide,fun hst=>?_,fun hgo=>?_⟩,fun hnf=>?_⟩,fun n hn=>⟨fun til x=>0<=x/\x<=(l.Rule.Until.length:Int)/\til=if 0<x then secsT (ix l.Rule.Until 0) else 315537897600,fun _ x=>((l.Rule.Until.length:Int)-x).toNat,⟨Int.le_refl 0,by omega,rfl⟩,fun til x hx=>⟨fun hlt=>⟨hx.1,hlt,fun _ _ _ _ _ _=>⟨⟨by omega,by omega⟩,⟨by omega,by omega,?_⟩,lt _ _ hlt⟩⟩,fun hge=>?_⟩⟩⟩
   . rw [if_pos hfst.1,List.cons_append,List.nil_append] at R0
     have e:=R0.stop (no [] fi 0 rfl hst)
     have q:=farE_of hfb e (len1 [] fi 0 rfl)
     refine ⟨fun h1=>?_,fun h1=>absurd (.inl (by omega)) h1⟩
     rw [q.1 (by omega)]; rfl
   . rw [if_pos hfst.1,List.cons_append,List.nil_append] at R0
     exact ⟨[fi],rfl,by decide,⟨R0.go (yes [] fi 0 rfl (Classical.not_not.1 hgo))⟩⟩
   . rw [if_neg (fun hh=>hnf ⟨hh,s0⟩),List.nil_append] at R0
     exact ⟨[],rfl,by decide,⟨R0⟩⟩
   . have e:x=0:=by omega
     subst e; rfl
   . have etil:til=tilS l.Rule:=by
       rw [hx.2.2]
       unfold tilS
       by_cases hl:0<(l.Rule.Until.length:Int)
       . rw [if_pos hl,if_pos (by omega)]
       . rw [if_neg hl,if_neg (by omega)]
     rw [etil]
     generalize tilS l.Rule=til at *
     refine ⟨s0,by omega,w0,w1,fun k=>k=0,⟨fun hh=>absurd hh.2 (by omega),fun _=>rfl⟩,fun k hk=>⟨fun c k n=>∃ y:List Int,(y.length:Int)=n/\n<=c/\1<=c/\c<=l.Rule.Count/\0<=k/\k<=40000/\OutI (farR l.Rule) g l.start l.Rule l.day fi b til i0 k c y,fun _ k _=>(40001-k).toNat,?_,fun c k n hI=>?_⟩⟩
     . obtain ⟨y,h1,h2,h3⟩:=hn
       subst hk
       exact ⟨y,h1,h2,by decide,by omega,by decide,by decide,h3⟩
     . obtain ⟨y,hy,hnc,c0,c1,k0,k1,ho⟩:=hI
       obtain ⟨q0,q1⟩:=k_int hF.rr k0 k1
       refine ⟨⟨by omega,by omega⟩,⟨by omega,by omega⟩,by omega,by omega,w0,w1,fun he=>?_,fun he=>⟨fun h4=>?_,fun h4=>⟨hfw,hf,by omega,by omega,fun c' j n'=>∃ y:List Int,(y.length:Int)=n'/\n'<=c'/\1<=c'/\c'<=l.Rule.Count/\0<=j/\j<=((candP l.start l.Rule l.day (i0+k * l.Rule.Interval)).length:Int)/\InI' (farR l.Rule) g l.start l.Rule l.day fi b til i0 k c' ((candP l.start l.Rule l.day (i0+k * l.Rule.Interval)).drop j.toNat) y,fun _ j _=>(((candP l.start l.Rule l.day (i0+k * l.Rule.Interval)).length:Int)-j).toNat,⟨y,hy,hnc,c0,c1,Int.le_refl 0,by omega,by simpa using ho.enter he h4⟩,fun c' j n' hI'=>?_⟩⟩⟩
       . have q:=farE_of hfb (ho.fin he) hy
         refine ⟨fun h1=>?_,fun h1=>?_⟩
         . rw [q.1 (h1.resolve_right fun hh=>hh rfl)]; rfl
         . rw [q.2.2 (fun hh=>h1 (.inl hh)) rfl]; rfl
       . have q:=farE_of hfb (ho.many he h4) hy
         rw [q.2.1 rfl]
         exact ⟨fun _=>rfl,fun _=>rfl⟩
       . have hcl:=candP_len (day:=l.day) (i:=i0+k * l.Rule.Interval) hF (by omega)
         obtain ⟨y,hy,hnc,c0,c1,j0,j1,hi⟩:=hI'
         generalize candP l.start l.Rule l.day (i0+k * l.Rule.Interval)=L at *
         refine ⟨fun hj=>⟨j0,hj,fun _=>?_⟩,fun hj=>⟨⟨by omega,by omega⟩,⟨y,hy,hnc,c0,c1,by omega,by omega,?_⟩,by show (_:Int).toNat<(_:Int).toNat; omega⟩⟩
         . rw [drop_step j0 hj] at hi
           refine ⟨fun hs=>⟨⟨by omega,by omega⟩,⟨y,hy,hnc,c0,c1,by omega,by omega,hi.skip hs⟩,lt _ _ hj⟩,fun hs=>⟨fun hb=>⟨⟨by omega,by omega⟩,⟨y,hy,hnc,c0,c1,by omega,by omega,hi.leave hs hb⟩,by show (_:Int).toNat<(_:Int).toNat; omega⟩,fun hb=>?_⟩⟩
           have hcc:¬ l.Rule.Count<=c':=fun e=>hb (.inr ⟨hc,e⟩)
           refine ⟨⟨by omega,by omega⟩,⟨by omega,by omega⟩,fun hst=>?_,fun hgo=>⟨⟨by omega,by omega⟩,⟨y++[ix L j],len1 y _ _ hy,by omega,by omega,by omega,by omega,by omega,(hi.one hs hb).1 (yes y _ _ hy (Classical.not_not.1 hgo))⟩,lt _ _ hj⟩⟩
           have q:=farE_of hfb ((hi.one hs hb).2 (no y _ _ hy hst)) (len1 y _ _ hy)
           refine ⟨fun h1=>?_,fun h1=>absurd (.inl (by omega)) h1⟩
           rw [q.1 (by omega)]; rfl
         . rw [List.drop_eq_nil_of_le (by omega)] at hi
           exact hi.nil
 . have hnu:¬ (0<(l.Rule.Until.length:Int)/\secsT (ix l.Rule.Until 0)<b):=fun hh=>hx.2.2 (by omega) hh.2
   rw [if_neg h,if_neg hnu,if_neg hc] at hfb
   rw [<- hfb]; rfl
def cfa (a:List (SV U)) (nx:Nat):Option (CR U):=match a with | [.fel 85 [l] 0 0,.int .i64 to]=>some ⟨[fewR l.Rule=true,fitsS l.start l.Rule=true],[],.err (errB (farB l.start l.Rule l.day to)),[]⟩ | _=>none
theorem cfa_ok (args:List (SV U)) (nx:Nat) (c:CR U) (h:cfa args nx=some c) (hp:args.all pureS=true) (ho:allP c.ob):ConOK NI58.P NI58.N NI58.T NI58.G 32 args nx c:=by
 unfold cfa at h
 split at h
 . rename_i l to
   cases h
   exact con1 NI58_ok (inlHN_ok NI58_ok H0_ok anfa 4) Tryz.func32 (k:=.err) (x:=errB (farB l.start l.Rule l.day to)) hp (Vfa_ok (pfa l to ho.1 ho.2.1))
 . cases h
noncomputable def Nfa:Env:=NI58.addC 32 cfa
theorem Nfa_ok:EnvOK Nfa:=NI58_ok.addC Tryz.call32 cfa_ok
end Go.Proofs.YtdjfeninmbpflaaGreat
end
section
namespace Go.Proofs.YtdjfeninmbpflaaGreat
open Go Go.Wk Go.Wl Go.Rx Go.Re 
noncomputable def NI35:Env:=Nfa.addI 35 Tryz.f35
theorem NI35_ok:EnvOK NI35:=Nfa_ok.addI Tryz.call35 Tryz.func35
end Go.Proofs.YtdjfeninmbpflaaGreat
end
section
namespace Go.Re
open Go Go.Wk Go.Wl Go.Rx
theorem frA_snoc {s a:Tm} {y:List Int} {t:Int}:frA s a (y++[t])=if secsT a<=t then frA s a y++[atS t s] else frA s a y:=by
 rw [frA_app]
 show frA s a y++(if secsT a<=t then [atS t s] else [])=_
 split
 . rfl
 . exact List.append_nil _
theorem frA_yes {s a:Tm} {y:List Int} {t:Int} (h:secsT a<=t):frA s a (y++[t])=frA s a y++[atS t s]:=by rw [frA_snoc,if_pos h]
theorem frA_no {s a:Tm} {y:List Int} {t:Int} (h:¬ secsT a<=t):frA s a (y++[t])=frA s a y:=by rw [frA_snoc,if_neg h]
def expR (s a:Tm):List Int->Int->Bool:=fun y t=>decide (((frA s a (y++[t])).length:Int)<=1000)
def expG (s:Tm) (r:Rl) (a b:Tm):List Int×Bool:=runE (expR s a) [] (insS s r (numS s.Day) (secsT a) (secsT b)).1 (insS s r (numS s.Day) (secsT a) (secsT b)).2
def expF (s a:Tm) (g:List Int×Bool):List Tm×Err:=if g.2=true then ([],.no 5) else if 1000<((frA s a g.1).length:Int) then ([],.no 16) else (frA s a g.1,.nil)
open Classical in
noncomputable def expP (s:Tm) (r:Rl) (a b:Tm):List Tm×Err:=if BadX s r a b then ([],.no 2) else if farB s r (numS s.Day) (secsT b)=true then ([],.no 5) else expF s a (expG s r a b)
theorem is_many:(Err.w 87 [] (.no 5)).is 5:=by decide
theorem told_many:toldE (.w 87 [] (.no 5))=.no 5:=by unfold toldE; rw [if_pos is_many]
theorem expF_of {s a:Tm} {g:List Int×Bool} {px:List Tm×Err} {y:List Int} {e:Bool} (h:expF s a g=px) (hg:g=(y,e)):(e=true->px=([],.no 5))/\(e=false->(1000<((frA s a y).length:Int)->px=([],.no 16))/\(¬ 1000<((frA s a y).length:Int)->px=(frA s a y,.nil))):=by
 subst hg
 unfold expF at h
 refine ⟨fun he=>by rw [if_pos he] at h; exact h.symm,fun he=>⟨fun hl=>?_,fun hl=>?_⟩⟩
 . subst he; rw [if_neg Bool.false_ne_true,if_pos hl] at h; exact h.symm
 . subst he; rw [if_neg Bool.false_ne_true,if_neg hl] at h; exact h.symm
theorem tdivA_rg {d n:Int}:-(d.natAbs:Int)<=d.tdiv n/\d.tdiv n<=d.natAbs:=by
 have h2:(d.tdiv n).natAbs<=d.natAbs:=by rw [Int.natAbs_tdiv]; exact Nat.div_le_self _ _
 omega
theorem k0_rg {s:Tm} {r:Rl} {fr:Int} (hn:1<=r.Interval) (hd:∀ x,0<=x->x<315537897600->0<=idxP r x/\idxP r x<=315537897600) (hf:0<=fr) (hs:0<=secsT s/\secsT s<315537897600):0<=k0S s r fr/\0<=k0S s r fr * r.Interval/\k0S s r fr * r.Interval<=315537897600:=by
 unfold k0S
 split
 . obtain ⟨a0,a1⟩:=hd (secsT s) hs.1 hs.2
   obtain ⟨b0,b1⟩:=hd (min fr 315537897599) (by omega) (by omega)
   generalize idxP r (min fr 315537897599)=x at *
   generalize idxP r (secsT s)=z at *
   by_cases hz:(x-z).tdiv r.Interval-1<=0
   . rw [Int.max_eq_left hz]; simp
   . rw [Int.max_eq_right (by omega)]
     have hpos:0<=x-z:=by
      rcases Int.lt_or_le (x-z) 0 with h | h
      . exfalso
        have h2:(x-z).tdiv r.Interval<=0:=by
         have e:(x-z).tdiv r.Interval=-((z-x).tdiv r.Interval):=by rw [<- Int.neg_tdiv]; congr 1; omega
         have:0<=(z-x).tdiv r.Interval:=Int.tdiv_nonneg (by omega) (by omega)
         omega
        omega
      . exact h
     rw [Int.tdiv_eq_ediv_of_nonneg hpos] at *
     have h3:=Int.ediv_mul_le (x-z) (show r.Interval≠0 by omega)
     have h4:((x-z) / r.Interval-1) * r.Interval=(x-z) / r.Interval * r.Interval-r.Interval:=by rw [Int.sub_mul,Int.one_mul]
     have h5:0<=((x-z) / r.Interval-1) * r.Interval:=Int.mul_nonneg (by omega) (by omega)
     omega
 . simp
end Go.Re
end
section
namespace Go.Proofs.YtdjfeninmbpflaaGreat
open Go Go.Wk Go.Wl Go.Rx Go.Re 
attribute [local irreducible] vcFun
def anex:Nat->Ann:=fun | 13=>⟨61,fun _=>none,fun _=>none⟩ | 34=>⟨171,fun | 16=>some ⟨[0,2,3,9,11,14],[.slot 10 (.int .i64),.slot 15 (.int .i64),.own 2000003 [.acc 25]]⟩ | 23=>some ⟨[0,2,3,9,11,14,15,130,131],[.slot 10 (.int .i64),.slot 132 (.int .i64),.own 2000003 [.acc 25]]⟩ | 7=>some ⟨[0,1,2,3,9,10,42,43],[.slot 11 (.int .i64),.slot 44 (.int .i64)]⟩ | _=>none,fun | 5=>some ⟨[0,1,2,3,9,10],[.own 2000003 [.acc 25]]⟩ | 16=>some ⟨[0,2,3,9,10,11,14],[.slot 15 (.int .i64)]⟩ | _=>none⟩ | 35=>⟨18,fun _=>none,fun _=>none⟩ | _=>⟨0,fun _=>none,fun _=>none⟩
def qex0 (s:Tm) (r:Rl) (x_4:Int):=candP (etT s) (etR r) (numS (etD s.Day)) (idxP (etR r) (secsT (etT (etT s)))+x_4 * r.Interval)
def qex1 (r:Rl) (a:Tm) (s:Tm):=idxP (etR r) (bif false then max (secsT (etT a)) (315537897599:Int) else min (secsT (etT a)) (315537897599:Int))-idxP (etR r) (secsT (etT (etT s)))
def Vex (s:Tm) (r:Rl) (a:Tm) (b:Tm) (Q:List Tm->Err->Prop):Prop :=
fewR (etR r)=true/\((¬fitsS (etT s) (etR r)=true ∨ ¬rightT (etT a)=true) ∨ ¬rightT (etT b)=true->Q [] (Err.no (2:Int)))/\(¬((¬fitsS (etT s) (etR r)=true ∨ ¬rightT (etT a)=true) ∨ ¬rightT (etT b)=true)->fewR (etR r)=true/\fitsS (etT s) (etR r)=true/\(errB (farB (etT s) (etR r) (numS (etD s.Day)) (secsT (etT b)))≠Err.nil->((errB (farB (etT s) (etR r) (numS (etD s.Day)) (secsT (etT b)))).is (5:Int) ∨ errB (farB (etT s) (etR r) (numS (etD s.Day)) (secsT (etT b)))=Err.nil)/\Q [] (toldE (errB (farB (etT s) (etR r) (numS (etD s.Day)) (secsT (etT b))))))/\(¬errB (farB (etT s) (etR r) (numS (etD s.Day)) (secsT (etT b)))≠Err.nil->∃ (J:List Tm->Prop),((secsT (etT (etT s))<secsT (etT b)/\(0:Int)<=secsT (etT (etT s))->(secsT (etT a)<=secsT (etT (etT s))->secsT (etT (etT s))<=9000000000000000000/\[etT (atS (secsT (etT (etT s))) (etT s))].length * (some (56:Nat)).getD (0:Nat)<=140737488355328/\(¬(↑[etT (atS (secsT (etT (etT s))) (etT s))].length:Int)<=1000->(Err.nil≠Err.nil->(Err.nil.is (5:Int) ∨ Err.nil=Err.nil)/\Q [] (toldE Err.nil))/\(¬Err.nil≠Err.nil->((1000:Int)<(↑[etT (atS (secsT (etT (etT s))) (etT s))].length:Int)->Q [] (Err.no (16:Int)))/\(¬(1000:Int)<(↑[etT (atS (secsT (etT (etT s))) (etT s))].length:Int)->Q [etT (atS (secsT (etT (etT s))) (etT s))] Err.nil)))/\(¬¬(↑[etT (atS (secsT (etT (etT s))) (etT s))].length:Int)<=1000->J [etT (atS (secsT (etT (etT s))) (etT s))]))/\(¬secsT (etT a)<=secsT (etT (etT s))->(¬(0:Int)<=1000->(Err.nil≠Err.nil->(Err.nil.is (5:Int) ∨ Err.nil=Err.nil)/\Q [] (toldE Err.nil))/\(¬Err.nil≠Err.nil->((1000:Int)<0->Q [] (Err.no (16:Int)))/\(¬(1000:Int)<0->Q [] Err.nil)))/\(¬¬(0:Int)<=1000->J [])))/\(¬(secsT (etT (etT s))<secsT (etT b)/\(0:Int)<=secsT (etT (etT s)))->J []))/\∀ (x:List Tm),J x->∃ (I:Int->Int->Prop),∃ (m:Int->Int->Nat),I (315537897600:Int) (0:Int)/\∀ (x_1 x_2:Int),I x_1 x_2->(x_2<(↑r.Until.length:Int)->(0:Int)<=x_2/\x_2<(↑r.Until.length:Int)/\(in64 (ix r.Until x_2).Day.Year->in64 (ix r.Until x_2).Day.Month->in64 (ix r.Until x_2).Day.Date->in64 (ix r.Until x_2).Hour->in64 (ix r.Until x_2).Min->in64 (ix r.Until x_2).Sec->in64 (x_2+1)/\I (secsT (etT (ix r.Until x_2))) (x_2+1)/\m (secsT (etT (ix r.Until x_2))) (x_2+1)<m x_1 x_2))/\(¬x_2<(↑r.Until.length:Int)->(0:Int)<=secsT (etT (etT s))/\secsT (etT (etT s))<=400000000000/\(0:Int)<=r.Wkst/\r.Wkst<=6/\∃ (J:Int->Prop),((r.Count=0/\secsT (etT (etT s))<secsT (etT a)->(((0:Int)<=bif false then max (secsT (etT a)) (315537897599:Int) else min (secsT (etT a)) (315537897599:Int))/\(bif false then max (secsT (etT a)) (315537897599:Int) else min (secsT (etT a)) (315537897599:Int))<=400000000000/\(0:Int)<=r.Wkst/\r.Wkst<=6)/\in64 (qex1 r a s)/\(r.Interval≠0/\in64 ((qex1 r a s).tdiv r.Interval))/\in64 ((qex1 r a s).tdiv r.Interval-1)/\J (bif true then max (0:Int) ((qex1 r a s).tdiv r.Interval-1) else min (0:Int) ((qex1 r a s).tdiv r.Interval-1)))/\(¬(r.Count=0/\secsT (etT (etT s))<secsT (etT a))->J (0:Int)))/\∀ (x_3:Int),J x_3->∃ (I:Int->Int->List Tm->Prop),∃ (m:Int->Int->List Tm->Nat),I (1:Int) x_3 x/\∀ (x x_4:Int) (x_5:List Tm),I x x_4 x_5->in64 (x_4 * r.Interval)/\in64 (idxP (etR r) (secsT (etT (etT s)))+x_4 * r.Interval)/\(0:Int)<=idxP (etR r) (secsT (etT (etT s)))+x_4 * r.Interval/\idxP (etR r) (secsT (etT (etT s)))+x_4 * r.Interval<=1000000000000/\(0:Int)<=r.Wkst/\r.Wkst<=6/\(((secsT (etT b)<=begP (etR r) (idxP (etR r) (secsT (etT (etT s)))+x_4 * r.Interval) ∨ x_1<begP (etR r) (idxP (etR r) (secsT (etT (etT s)))+x_4 * r.Interval)) ∨ (0:Int)<r.Count/\r.Count<=x) ∨ (315537897600:Int)<=begP (etR r) (idxP (etR r) (secsT (etT (etT s)))+x_4 * r.Interval)->(Err.nil≠Err.nil->(Err.nil.is (5:Int) ∨ Err.nil=Err.nil)/\Q [] (toldE Err.nil))/\(¬Err.nil≠Err.nil->((1000:Int)<(↑x_5.length:Int)->Q [] (Err.no (16:Int)))/\(¬(1000:Int)<(↑x_5.length:Int)->Q x_5 Err.nil)))/\(¬(((secsT (etT b)<=begP (etR r) (idxP (etR r) (secsT (etT (etT s)))+x_4 * r.Interval) ∨ x_1<begP (etR r) (idxP (etR r) (secsT (etT (etT s)))+x_4 * r.Interval)) ∨ (0:Int)<r.Count/\r.Count<=x) ∨ (315537897600:Int)<=begP (etR r) (idxP (etR r) (secsT (etT (etT s)))+x_4 * r.Interval))->((40000:Int)<=x_4->(Err.w (87:Nat) [] (Err.no (5:Int))≠Err.nil->((Err.w (87:Nat) [] (Err.no (5:Int))).is (5:Int) ∨ Err.w (87:Nat) [] (Err.no (5:Int))=Err.nil)/\Q [] (toldE (Err.w (87:Nat) [] (Err.no (5:Int)))))/\(¬Err.w (87:Nat) [] (Err.no (5:Int))≠Err.nil->((1000:Int)<(↑x_5.length:Int)->Q [] (Err.no (16:Int)))/\(¬(1000:Int)<(↑x_5.length:Int)->Q x_5 Err.nil)))/\(¬(40000:Int)<=x_4->fewR (etR r)=true/\fitsS (etT s) (etR r)=true/\(0:Int)<=idxP (etR r) (secsT (etT (etT s)))+x_4 * r.Interval/\idxP (etR r) (secsT (etT (etT s)))+x_4 * r.Interval<=999999999999/\∃ (I_1:Int->Int->List Tm->Prop),∃ (m_1:Int->Int->List Tm->Nat),I_1 x (0:Int) x_5/\∀ (x_6 x_7:Int) (x_8:List Tm),I_1 x_6 x_7 x_8->(x_7<(↑(qex0 s r x_4).length:Int)->(0:Int)<=x_7/\x_7<(↑(qex0 s r x_4).length:Int)/\(in64 (ix (qex0 s r x_4) x_7)->(ix (qex0 s r x_4) x_7<=secsT (etT (etT s))->in64 (x_7+1)/\I_1 x_6 (x_7+1) x_8/\m_1 x_6 (x_7+1) x_8<m_1 x_6 x_7 x_8)/\(¬ix (qex0 s r x_4) x_7<=secsT (etT (etT s))->((secsT (etT b)<=ix (qex0 s r x_4) x_7 ∨ x_1<ix (qex0 s r x_4) x_7) ∨ (0:Int)<r.Count/\r.Count<=x_6->in64 (x_4+1)/\I x_6 (x_4+1) x_8/\m x_6 (x_4+1) x_8<m x x_4 x_5)/\(¬((secsT (etT b)<=ix (qex0 s r x_4) x_7 ∨ x_1<ix (qex0 s r x_4) x_7) ∨ (0:Int)<r.Count/\r.Count<=x_6)->in64 (x_6+1)/\(secsT (etT a)<=ix (qex0 s r x_4) x_7->ix (qex0 s r x_4) x_7<=9000000000000000000/\(x_8.length+[etT (atS (ix (qex0 s r x_4) x_7) (etT s))].length) * (some (56:Nat)).getD (0:Nat)<=140737488355328/\(¬(↑(x_8++[etT (atS (ix (qex0 s r x_4) x_7) (etT s))]).length:Int)<=1000->(Err.nil≠Err.nil->(Err.nil.is (5:Int) ∨ Err.nil=Err.nil)/\Q [] (toldE Err.nil))/\(¬Err.nil≠Err.nil->((1000:Int)<(↑(x_8++[etT (atS (ix (qex0 s r x_4) x_7) (etT s))]).length:Int)->Q [] (Err.no (16:Int)))/\(¬(1000:Int)<(↑(x_8++[etT (atS (ix (qex0 s r x_4) x_7) (etT s))]).length:Int)->Q (x_8++[etT (atS (ix (qex0 s r x_4) x_7) (etT s))]) Err.nil)))/\(¬¬(↑(x_8++[etT (atS (ix (qex0 s r x_4) x_7) (etT s))]).length:Int)<=1000->in64 (x_7+1)/\I_1 (x_6+1) (x_7+1) (x_8++[etT (atS (ix (qex0 s r x_4) x_7) (etT s))])/\m_1 (x_6+1) (x_7+1) (x_8++[etT (atS (ix (qex0 s r x_4) x_7) (etT s))])<m_1 x_6 x_7 x_8))/\(¬secsT (etT a)<=ix (qex0 s r x_4) x_7->(¬(↑x_8.length:Int)<=1000->(Err.nil≠Err.nil->(Err.nil.is (5:Int) ∨ Err.nil=Err.nil)/\Q [] (toldE Err.nil))/\(¬Err.nil≠Err.nil->((1000:Int)<(↑x_8.length:Int)->Q [] (Err.no (16:Int)))/\(¬(1000:Int)<(↑x_8.length:Int)->Q x_8 Err.nil)))/\(¬¬(↑x_8.length:Int)<=1000->in64 (x_7+1)/\I_1 (x_6+1) (x_7+1) x_8/\m_1 (x_6+1) (x_7+1) x_8<m_1 x_6 x_7 x_8))))))/\(¬x_7<(↑(qex0 s r x_4).length:Int)->in64 (x_4+1)/\I x_6 (x_4+1) x_8/\m x_6 (x_4+1) x_8<m x x_4 x_5))))))
theorem Vex_eq {s:Tm} {r:Rl} {a:Tm} {b:Tm} {Q:List Tm->Err->Prop}:@Eq Prop (Vex s r a b Q) (vcFun (E:=NI35) (inlHN NI35 H0 anex 4) (anex 13) Tryz.f13 [.agg [.int .i64 s.Day.Year,.int .i64 s.Day.Month,.int .i64 s.Day.Date,.int .i64 s.Hour,.int .i64 s.Min,.int .i64 s.Sec,blB s.Bare,blB s.UTC],.agg [.int .i64 r.Freq,.int .i64 r.Interval,.int .i64 r.Count,.sl (N:=U) 25 r.Until,.sl (N:=U) 3 r.Month,.sl (N:=U) 3 r.WeekNo,.sl (N:=U) 3 r.YearDay,.sl (N:=U) 3 r.MonthDay,.sl (N:=U) 60 r.Days,.sl (N:=U) 3 r.Hour,.sl (N:=U) 3 r.Minute,.sl (N:=U) 3 r.Second,.sl (N:=U) 3 r.SetPos,.int .i64 r.Wkst],.agg [.int .i64 a.Day.Year,.int .i64 a.Day.Month,.int .i64 a.Day.Date,.int .i64 a.Hour,.int .i64 a.Min,.int .i64 a.Sec,blB a.Bare,blB a.UTC],.agg [.int .i64 b.Day.Year,.int .i64 b.Day.Month,.int .i64 b.Day.Date,.int .i64 b.Hour,.int .i64 b.Min,.int .i64 b.Sec,blB b.Bare,blB b.UTC]] [] [] 0 (resP NI35 [.acc 25,.err] Q)):=by kernel_rfl
theorem Vex_ok {s:Tm} {r:Rl} {a:Tm} {b:Tm} {Q:List Tm->Err->Prop} (h:Vex s r a b Q):vcFun (E:=NI35) (inlHN NI35 H0 anex 4) (anex 13) Tryz.f13 [.agg [.int .i64 s.Day.Year,.int .i64 s.Day.Month,.int .i64 s.Day.Date,.int .i64 s.Hour,.int .i64 s.Min,.int .i64 s.Sec,blB s.Bare,blB s.UTC],.agg [.int .i64 r.Freq,.int .i64 r.Interval,.int .i64 r.Count,.sl (N:=U) 25 r.Until,.sl (N:=U) 3 r.Month,.sl (N:=U) 3 r.WeekNo,.sl (N:=U) 3 r.YearDay,.sl (N:=U) 3 r.MonthDay,.sl (N:=U) 60 r.Days,.sl (N:=U) 3 r.Hour,.sl (N:=U) 3 r.Minute,.sl (N:=U) 3 r.Second,.sl (N:=U) 3 r.SetPos,.int .i64 r.Wkst],.agg [.int .i64 a.Day.Year,.int .i64 a.Day.Month,.int .i64 a.Day.Date,.int .i64 a.Hour,.int .i64 a.Min,.int .i64 a.Sec,blB a.Bare,blB a.UTC],.agg [.int .i64 b.Day.Year,.int .i64 b.Day.Month,.int .i64 b.Day.Date,.int .i64 b.Hour,.int .i64 b.Min,.int .i64 b.Sec,blB b.Bare,blB b.UTC]] [] [] 0 (resP NI35 [.acc 25,.err] Q):=by rw [<- Vex_eq]; exact h
set_option maxHeartbeats 2000000 in
theorem pex (s:Tm) (r:Rl) (a:Tm) (b:Tm) (hfw:fewR r=true):Vex s r a b (fun y0 y1=>y0=(expP s r a b).1/\y1=(expP s r a b).2):=by
 unfold Vex qex1 qex0
 simp only [etT_eq,etR_eq,etD_eq]
 refine ⟨hfw,fun h=>?_,fun h=>?_⟩
 . unfold expP
   rw [if_pos (show BadX s r a b from h)]; exact ⟨rfl,rfl⟩
 have hnb:¬ BadX s r a b:=h
 have hf:fitsS s r=true:=Classical.not_not.1 fun e=>h (.inl (.inl e))
 have ha:rightT a=true:=Classical.not_not.1 fun e=>h (.inl (.inr e))
 have hb:rightT b=true:=Classical.not_not.1 fun e=>h (.inr e)
 have hF:=fits_iff.1 hf
 obtain ⟨px,hpx⟩:∃ p,expP s r a b=p:=⟨_,rfl⟩
 rw [hpx]
 unfold expP at hpx
 rw [if_neg hnb] at hpx
 obtain ⟨fb,hfb⟩:∃ fb,farB s r (numS s.Day) (secsT b)=fb:=⟨_,rfl⟩
 rw [hfb] at hpx ⊢
 refine ⟨hfw,hf,fun he=>?_,fun he=>?_⟩
 . cases fb with
   | false=>exact absurd rfl he
   | true =>
    rw [if_pos rfl] at hpx
    rw [<- hpx]
    exact ⟨.inl is_many,rfl,told_many⟩
 cases fb with
 | true=>exact absurd (fun e=>by cases e) he
 | false =>
 rw [if_neg Bool.false_ne_true] at hpx
 obtain ⟨s0,s1⟩:=secs_rg hF.rt
 obtain ⟨g0,g1⟩:=secs_rg ha
 obtain ⟨d0,d1⟩:=secs_rg hb
 obtain ⟨_,_,v0,v1,n0,n1,w0,w1⟩:=(rightR_iff.1 hF.rr).head
 obtain ⟨u1,u2⟩:=(rightR_iff.1 hF.rr).til
 have hix:∀ x,0<=x->x<315537897600->0<=idxP r x/\idxP r x<=315537897600:=fun x x0 x1=>idxP_rg x0 x1 w0 w1
 obtain ⟨z0,z1,z2⟩:=k0_rg (s:=s) v0 hix g0 ⟨s0,s1⟩
 obtain ⟨a0,a1⟩:=hix _ s0 s1
 obtain ⟨b0,b1⟩:=hix (min (secsT a) 315537897599) (by omega) (by omega)
 have lt:∀ n i:Int,i<n->(n-(i+1)).toNat<(n-i).toNat:=fun n i h=>by omega
 generalize hg:expG s r a b=g at hpx
 unfold expG at hg
 have R0:RunI (expR s a) g [] (insS s r (numS s.Day) (secsT a) (secsT b)).1 (insS s r (numS s.Day) (secsT a) (secsT b)).2:=⟨hg⟩
 clear hg
 unfold insS at R0
 have e1:∀ x y:Int,(bif false then max x y else min x y)=min x y:=fun _ _=>rfl
 have e2:∀ x y:Int,(bif true then max x y else min x y)=max x y:=fun _ _=>rfl
 simp only [e1,e2]
 have hk0:∀ p:Prop,(r.Count=0/\secsT s<secsT a->k0S s r (secsT a)=max 0 ((idxP r (min (secsT a) 315537897599)-idxP r (secsT s)).tdiv r.Interval-1))/\(¬ (r.Count=0/\secsT s<secsT a)->k0S s r (secsT a)=0):=fun _=>⟨fun hh=>if_pos hh,fun hh=>if_neg hh⟩
 have hk0:=hk0 True
 generalize k0S s r (secsT a)=kz at *
 obtain ⟨t0,t1⟩:=tdivA_rg (d:=idxP r (min (secsT a) 315537897599)-idxP r (secsT s)) (n:=r.Interval)
 generalize (idxP r (min (secsT a) 315537897599)-idxP r (secsT s)).tdiv r.Interval=td at *
 generalize idxP r (min (secsT a) 315537897599)=ia at *
 generalize hfi:secsT s=fi at *
 generalize idxP r fi=i0 at *
 generalize secsT b=to at *
 have yes:∀ (y:List Int) (t:Int),((frA s a (y++[t])).length:Int)<=1000->expR s a y t=true:=fun y t hh=>decide_eq_true hh
 have no:∀ (y:List Int) (t:Int),¬ ((frA s a (y++[t])).length:Int)<=1000->¬ expR s a y t=true:=fun y t hh e=>hh (of_decide_eq_true e)
 refine ⟨fun out=>∃ y,out=frA s a y/\(out.length:Int)<=1/\OutI (expR s a) g s r (numS s.Day) fi to (tilS r) i0 kz 1 y,⟨fun hfst=>⟨fun hs=>⟨by omega,by show 1 * 56<=140737488355328; decide,fun hst=>absurd (show ((1:Nat):Int)<=1000 by decide) hst,fun _=>?_⟩,fun hs=>⟨fun hst=>absurd (by decide) hst,fun _=>?_⟩⟩,fun hnf=>?_⟩,fun out hn=>⟨fun til x=>0<=x/\x<=(r.Until.length:Int)/\til=if 0<x then secsT (ix r.Until 0) else 315537897600,fun _ x=>((r.Until.length:Int)-x).toNat,⟨Int.le_refl 0,by omega,rfl⟩,fun til x hx=>⟨fun hlt=>⟨hx.1,hlt,fun _ _ _ _ _ _=>⟨⟨by omega,by omega⟩,⟨by omega,by omega,?_⟩,lt _ _ hlt⟩⟩,fun hge=>?_⟩⟩⟩
 . rw [if_pos hfst.1,List.cons_append,List.nil_append] at R0
   have e:=frA_yes (s:=s) (y:=[]) hs
   exact ⟨[fi],e.symm,(show ((1:Nat):Int)<=1 by decide),⟨R0.go (yes [] fi (by rw [e]; show ((1:Nat):Int)<=1000; decide))⟩⟩
 . rw [if_pos hfst.1,List.cons_append,List.nil_append] at R0
   have e:=frA_no (s:=s) (y:=[]) hs
   exact ⟨[fi],e.symm,(show ((0:Nat):Int)<=1 by decide),⟨R0.go (yes [] fi (by rw [e]; show ((0:Nat):Int)<=1000; decide))⟩⟩
 . rw [if_neg (fun hh=>hnf ⟨hh,s0⟩),List.nil_append] at R0
   exact ⟨[],rfl,by decide,⟨R0⟩⟩
 . have e:x=0:=by omega
   subst e; rfl
 . have etil:til=tilS r:=by
     rw [hx.2.2]
     unfold tilS
     by_cases hl:0<(r.Until.length:Int)
     . rw [if_pos hl,if_pos (by omega)]
     . rw [if_neg hl,if_neg (by omega)]
   rw [etil]
   generalize tilS r=til at *
   refine ⟨s0,by omega,w0,w1,fun k=>k=kz,⟨fun hh=>⟨⟨by omega,by omega,w0,w1⟩,⟨by omega,by omega⟩,⟨by omega,by omega,by omega⟩,⟨by omega,by omega⟩,(hk0.1 hh).symm⟩,fun hh=>(hk0.2 hh).symm⟩,fun k hk=>⟨fun c k out=>∃ y,out=frA s a y/\(out.length:Int)<=1000/\1<=c/\c<=1+k * 1000000000000/\0<=k/\0<=k * r.Interval/\k * r.Interval<=400000000000/\OutI (expR s a) g s r (numS s.Day) fi to til i0 k c y,fun _ k _=>(40001-k).toNat,?_,fun c k out hI=>?_⟩⟩
   . obtain ⟨y,h1,h2,h3⟩:=hn
     subst hk
     exact ⟨y,h1,by omega,by decide,by omega,z0,z1,by omega,h3⟩
   . obtain ⟨y,hy,ol,c0,c1,k0,k1,k2,ho⟩:=hI
     refine ⟨⟨by omega,by omega⟩,⟨by omega,by omega⟩,by omega,by omega,w0,w1,fun he=>?_,fun he=>⟨fun h4=>?_,fun h4=>⟨hfw,hf,by omega,by omega,fun c' j out'=>∃ y,out'=frA s a y/\(out'.length:Int)<=1000/\1<=c'/\c'<=1+k * 1000000000000+j/\0<=j/\j<=((candP s r (numS s.Day) (i0+k * r.Interval)).length:Int)/\InI' (expR s a) g s r (numS s.Day) fi to til i0 k c' ((candP s r (numS s.Day) (i0+k * r.Interval)).drop j.toNat) y,fun _ j _=>(((candP s r (numS s.Day) (i0+k * r.Interval)).length:Int)-j).toNat,⟨y,hy,ol,c0,by omega,Int.le_refl 0,by omega,by simpa using ho.enter he h4⟩,fun c' j out' hI'=>?_⟩⟩⟩
     . have q:=(expF_of hpx (ho.fin he)).2 rfl
       refine ⟨fun hh=>absurd rfl hh,fun _=>⟨fun hl=>absurd hl (by omega),fun hl=>?_⟩⟩
       rw [q.2 (by rw [<- hy]; omega),hy]; exact ⟨rfl,rfl⟩
     . have q:=(expF_of hpx (ho.many he h4)).1 rfl
       rw [q]
       exact ⟨fun _=>⟨.inl is_many,rfl,told_many⟩,fun hh=>absurd (fun e=>by cases e) hh⟩
     . have hcl:=candP_len (day:=numS s.Day) (i:=i0+k * r.Interval) hF (by omega)
       obtain ⟨q0,q1⟩:=k_int hF.rr (k:=k+1) (by omega) (by omega)
       obtain ⟨y,hy,ol,c0,c1,j0,j1,hi⟩:=hI'
       generalize candP s r (numS s.Day) (i0+k * r.Interval)=L at *
       refine ⟨fun hj=>⟨j0,hj,fun _=>?_⟩,fun hj=>⟨⟨by omega,by omega⟩,⟨y,hy,ol,c0,by omega,by omega,q0,by omega,?_⟩,by show (_:Int).toNat<(_:Int).toNat; omega⟩⟩
       . rw [drop_step j0 hj] at hi
         refine ⟨fun hs=>⟨⟨by omega,by omega⟩,⟨y,hy,ol,c0,by omega,by omega,by omega,hi.skip hs⟩,lt _ _ hj⟩,fun hs=>⟨fun hb=>⟨⟨by omega,by omega⟩,⟨y,hy,ol,c0,by omega,by omega,q0,by omega,hi.leave hs hb⟩,by show (_:Int).toNat<(_:Int).toNat; omega⟩,fun hb=>?_⟩⟩
         have hbt:ix L j<to:=by
          rcases Int.lt_or_le (ix L j) to with hh | hh
          . exact hh
          . exact absurd (.inl (.inl hh)) hb
         refine ⟨⟨by omega,by omega⟩,fun hsa=>?_,fun hsa=>?_⟩
         . have e:=frA_yes (s:=s) (y:=y) hsa
           rw [<- hy] at e
           refine ⟨by omega,?_,fun hst=>?_,fun hgo=>⟨⟨by omega,by omega⟩,⟨y++[ix L j],e.symm,by omega,by omega,by omega,by omega,by omega,(hi.one hs hb).1 (yes y _ (by rw [e]; omega))⟩,lt _ _ hj⟩⟩
           . show (out'.length+1) * 56<=140737488355328
             omega
           . have q:=(expF_of hpx ((hi.one hs hb).2 (no y _ (by rw [e]; exact hst)))).2 rfl
             rw [e] at q
             refine ⟨fun hh=>absurd rfl hh,fun _=>⟨fun hl=>?_,fun hl=>?_⟩⟩
             . rw [q.1 hl]; exact ⟨rfl,rfl⟩
             . rw [q.2 hl]; exact ⟨rfl,rfl⟩
         . have e:=frA_no (s:=s) (y:=y) hsa
           rw [<- hy] at e
           exact ⟨fun hst=>absurd ol hst,fun hgo=>⟨⟨by omega,by omega⟩,⟨y++[ix L j],e.symm,ol,by omega,by omega,by omega,by omega,(hi.one hs hb).1 (yes y _ (by rw [e]; exact ol))⟩,lt _ _ hj⟩⟩
       . rw [List.drop_eq_nil_of_le (by omega)] at hi
         exact hi.nil
noncomputable def cexs (s:Tm) (r:Rl) (a:Tm) (b:Tm) (nx:Nat):CR U:=⟨[fewR r=true],[],.tup [.acc nx,.err ((expP s r a b).2)],[.ac 25 ((expP s r a b).1)]⟩
noncomputable def cex (a:List (SV U)) (nx:Nat):Option (CR U):=match a with | [.agg l_s,.agg l_r,.agg l_a,.agg l_b]=>(y25.bk (.agg l_s)).bind fun s=>(y30.bk (.agg l_r)).bind fun r=>(y25.bk (.agg l_a)).bind fun a=>(y25.bk (.agg l_b)).bind fun b=>some (cexs s r a b nx) | _=>none
theorem cex_ok (args:List (SV U)) (nx:Nat) (c:CR U) (h:cex args nx=some c) (hp:args.all pureS=true) (ho:allP c.ob):ConOK NI35.P NI35.N NI35.T NI35.G 13 args nx c:=by
 unfold cex at h
 split at h
 . rename_i l_s l_r l_a l_b
   obtain ⟨s,hb_s,h⟩:=Option.bind_eq_some_iff.1 h
   obtain ⟨r,hb_r,h⟩:=Option.bind_eq_some_iff.1 h
   obtain ⟨a,hb_a,h⟩:=Option.bind_eq_some_iff.1 h
   obtain ⟨b,hb_b,h⟩:=Option.bind_eq_some_iff.1 h
   cases h
   exact ConOK.weak (b:=[.agg [.int .i64 s.Day.Year,.int .i64 s.Day.Month,.int .i64 s.Day.Date,.int .i64 s.Hour,.int .i64 s.Min,.int .i64 s.Sec,blB s.Bare,blB s.UTC],.agg [.int .i64 r.Freq,.int .i64 r.Interval,.int .i64 r.Count,.sl (N:=U) 25 r.Until,.sl (N:=U) 3 r.Month,.sl (N:=U) 3 r.WeekNo,.sl (N:=U) 3 r.YearDay,.sl (N:=U) 3 r.MonthDay,.sl (N:=U) 60 r.Days,.sl (N:=U) 3 r.Hour,.sl (N:=U) 3 r.Minute,.sl (N:=U) 3 r.Second,.sl (N:=U) 3 r.SetPos,.int .i64 r.Wkst],.agg [.int .i64 a.Day.Year,.int .i64 a.Day.Month,.int .i64 a.Day.Date,.int .i64 a.Hour,.int .i64 a.Min,.int .i64 a.Sec,blB a.Bare,blB a.UTC],.agg [.int .i64 b.Day.Year,.int .i64 b.Day.Month,.int .i64 b.Day.Date,.int .i64 b.Hour,.int .i64 b.Min,.int .i64 b.Sec,blB b.Bare,blB b.UTC]]) (con2 NI35_ok (inlHN_ok NI35_ok H0_ok anex 4) Tryz.func13 (k1:=.acc 25) (k2:=.err) rfl rfl (Vex_ok (pex s r a b ho.1))) fun ρ Z w v hr=>tup_conv [.agg l_s,.agg l_r,.agg l_a,.agg l_b] [.agg [.int .i64 s.Day.Year,.int .i64 s.Day.Month,.int .i64 s.Day.Date,.int .i64 s.Hour,.int .i64 s.Min,.int .i64 s.Sec,blB s.Bare,blB s.UTC],.agg [.int .i64 r.Freq,.int .i64 r.Interval,.int .i64 r.Count,.sl (N:=U) 25 r.Until,.sl (N:=U) 3 r.Month,.sl (N:=U) 3 r.WeekNo,.sl (N:=U) 3 r.YearDay,.sl (N:=U) 3 r.MonthDay,.sl (N:=U) 60 r.Days,.sl (N:=U) 3 r.Hour,.sl (N:=U) 3 r.Minute,.sl (N:=U) 3 r.Second,.sl (N:=U) 3 r.SetPos,.int .i64 r.Wkst],.agg [.int .i64 a.Day.Year,.int .i64 a.Day.Month,.int .i64 a.Day.Date,.int .i64 a.Hour,.int .i64 a.Min,.int .i64 a.Sec,blB a.Bare,blB a.UTC],.agg [.int .i64 b.Day.Year,.int .i64 b.Day.Month,.int .i64 b.Day.Date,.int .i64 b.Hour,.int .i64 b.Min,.int .i64 b.Sec,blB b.Bare,blB b.UTC]] _ ⟨fun _ h=>agg_conv25 hb_s h,fun _ h=>agg_conv30 hb_r h,fun _ h=>agg_conv25 hb_a h,fun _ h=>agg_conv25 hb_b h,trivial⟩ hr
 . cases h
noncomputable def Nex:Env:=NI35.addC 13 cex
theorem Nex_ok:EnvOK Nex:=NI35_ok.addC Tryz.call13 cex_ok
end Go.Proofs.YtdjfeninmbpflaaGreat
end
section
namespace Go.Proofs.YtdjfeninmbpflaaGreat
open Go Go.Wk Go.Wl Go.Rx Go.Re 
attribute [local irreducible] vcFun
def anno:Nat->Ann:=fun | 16=>⟨15,fun | 4=>some ⟨[0],[.slot 3 (.int .i64)]⟩ | _=>none,fun _=>none⟩ | _=>⟨0,fun _=>none,fun _=>none⟩
def Vno (e:Err) (Q:Int->Prop):Prop :=
(e=Err.nil->Q (0:Int))/\(¬e=Err.nil->∃ (I:Int->Prop),∃ (m:Int->Nat),I (1:Int)/\∀ (x:Int),I x->(x<=16->(e.is x->Q x)/\(¬e.is x->in64 (x+1)/\I (x+1)/\m (x+1)<m x))/\(¬x<=16->Q (-1:Int)))
theorem Vno_eq {e:Err} {Q:Int->Prop}:@Eq Prop (Vno e Q) (vcFun (E:=Nex) (inlHN Nex H0 anno 2) (anno 16) Tryz.f16 [.err e] [] [] 0 (resP Nex [.int .i64] Q)):=by kernel_rfl
theorem Vno_ok {e:Err} {Q:Int->Prop} (h:Vno e Q):vcFun (E:=Nex) (inlHN Nex H0 anno 2) (anno 16) Tryz.f16 [.err e] [] [] 0 (resP Nex [.int .i64] Q):=by rw [<- Vno_eq]; exact h
theorem nr_someb {e:Err} {n:Int} (h:¬ e=.nil) (hn:e.num=some n):e.nr=if 1<=n/\n<=16 then n else -1:=by
 cases e with
 | nil=>exact absurd rfl h
 | _=>unfold Err.nr; simp only [hn]
theorem nr_noneb {e:Err} (h:¬ e=.nil) (hn:e.num=none):e.nr=-1:=by
 cases e with
 | nil=>exact absurd rfl h
 | _=>unfold Err.nr; simp only [hn]
theorem pno (e:Err)  : Vno e (fun y0=>y0=e.nr):=by
 unfold Vno
 refine ⟨fun h=>by subst h; rfl,fun h=>⟨fun x=>1<=x/\x<=17/\∀ j:Int,1<=j->j<x->¬ e.is j,fun x=>(17-x).toNat,⟨by omega,by omega,fun j _ _=>by omega⟩,?_⟩⟩
 rintro x ⟨h0,h1,h2⟩
 refine ⟨fun hx=>⟨fun hi=>?_,fun hi=>⟨⟨by omega,by omega⟩,⟨by omega,by omega,fun j j0 j1=>?_⟩,by dsimp only; omega⟩⟩,fun hx=>?_⟩
 . have hi:e.num=some x:=hi
   rw [nr_someb h hi,if_pos ⟨h0,hx⟩]
 . by_cases e1:j=x
   . subst e1; exact hi
   . exact h2 j j0 (by omega)
 . cases hn:e.num with
   | none=>rw [nr_noneb h hn]
   | some n=>rw [nr_someb h hn,if_neg (fun hh=>h2 n hh.1 (by omega) hn)]
def cno (a:List (SV U)):Option (Q1 U):=match a with | [.err e]=>some ⟨[],[],.int .i64 e.nr⟩ | _=>none
theorem cno_ok (args:List (SV U)) (q:Q1 U) (h:cno args=some q) (ho:allP q.ob):LendOK Nex 16 args ⟨q.ob,q.hy,q.v,[]⟩:=by
 unfold cno at h
 split at h
 . rename_i e
   cases h
   exact lend1 Nex_ok (inlHN_ok Nex_ok H0_ok anno 2) Tryz.func16 (k:=.int .i64) (x:=e.nr) trivial (Vno_ok (pno e )) 0
 . cases h
noncomputable def Nno:Env:=Nex.addL 16 cno
theorem Nno_ok:EnvOK Nno:=Nex_ok.addL Tryz.call16 cno_ok
end Go.Proofs.YtdjfeninmbpflaaGreat
end
section
namespace Go.Re
open Go Go.Wk Go.Wl Go.Rx
def dyS (y m d:Int):Tm:=⟨⟨y,m,d⟩,0,0,0,true,false⟩
instance (r:Rl):Decidable (HeadR r):=by unfold HeadR; infer_instance
instance (r:Rl):Decidable (FitR r):=by unfold FitR; infer_instance
instance (r:Rl):Decidable (SomeR r):=by unfold SomeR; infer_instance
instance (m:Int) (d:Nt):Decidable (DayN m d):=by unfold DayN; infer_instance
instance (a b:Nt):Decidable (LessN a b):=by unfold LessN; infer_instance
def rOne:Rl:=Rl.mk 1 1 0 [] [] [] [] [] [Nt.mk (-1) 4] [] [] [] [] 0
def rTwo (w:Int):Rl:=Rl.mk 2 2 0 [] [] [] [] [] [Nt.mk 0 1,Nt.mk 0 6] [] [] [] [] w
theorem risL_nil {lo hi:Int} {b:Bool}:RisL [] lo hi b:=⟨fun i h0 h1=>absurd h1 (by simp; omega),fun i h0 h1=>absurd h1 (by simp; omega),by decide⟩
theorem lists_nil {f i c:Int} {u:List Tm} {d:List Nt} {w:Int}:ListsR (Rl.mk f i c u [] [] [] [] d [] [] [] [] w):=⟨risL_nil,risL_nil,risL_nil,risL_nil,risL_nil,risL_nil,risL_nil,risL_nil⟩
theorem fit_one:FitsP (dyS 1997 1 31) rOne:=by
 refine ⟨by decide,rightR_iff.2 ⟨by decide,⟨by decide,fun h=>absurd h (by decide)⟩,lists_nil,by decide,⟨fun i h0 h1=>?_,fun i h0 h1=>?_⟩,by decide,by decide⟩,fun h=>absurd h (by decide),fun _=>by decide⟩
 . have h1:i<1:=h1
   have:i=0:=by omega
   subst this; decide
 . have h1:i<1:=h1
   omega
theorem fit_two {w:Int} (hw:w=0 ∨ w=6):FitsP (dyS 1997 8 5) (rTwo w):=by
 have h2:rightR (rTwo w)=true:=by
  refine rightR_iff.2 ⟨?_,⟨by show (0:Int)<=1; decide,fun h=>absurd h (by show ¬ (0:Int)=1; decide)⟩,lists_nil,by show (2:Int)<=24; decide,⟨fun i h0 h1=>?_,fun i h0 h1=>?_⟩,?_,?_⟩
  . rcases hw with rfl | rfl <;> decide
  . have h1:i<2:=h1
    have:i=0 ∨ i=1:=by omega
    rcases this with rfl | rfl <;> (rcases hw with rfl | rfl <;> decide)
  . have h1:i<2:=h1
    have:i=1:=by omega
    subst this
    rcases hw with rfl | rfl <;> decide
  . rcases hw with rfl | rfl <;> decide
  . rcases hw with rfl | rfl <;> decide
 exact ⟨by decide,h2,fun h=>absurd h (by show ¬ (0:Int)<0; decide),fun _=>⟨by show (2:Int)<=3; decide,rfl,rfl,rfl⟩⟩
theorem expP_of {s a b:Tm} {r:Rl} {l:List Tm} (hF:FitsP s r) (ha:rightT a=true) (hb:rightT b=true) (hf:farB s r (numS s.Day) (secsT b)=false) (hg:expF s a (expG s r a b)=(l,.nil)):expP s r a b=(l,.nil):=by
 unfold expP
 rw [if_neg (fun h=>h.elim (fun h=>h.elim (fun h=>h (fits_iff.2 hF)) fun h=>h ha) fun h=>h hb),if_neg (by rw [hf]; exact Bool.false_ne_true),hg]
theorem ex_one:expP (dyS 1997 1 31) rOne (dyS 1997 1 1) (dyS 1997 4 1)=([dyS 1997 1 31,dyS 1997 2 28,dyS 1997 3 28],.nil) :=
 expP_of fit_one (by decide) (by decide) (by kernel_rfl) (by kernel_rfl)
theorem ex_two:expP (dyS 1997 8 5) (rTwo 0) (dyS 1997 8 1) (dyS 1997 8 25)=([dyS 1997 8 5,dyS 1997 8 10,dyS 1997 8 19,dyS 1997 8 24],.nil) :=
 expP_of (fit_two (.inl rfl)) (by decide) (by decide) (by kernel_rfl) (by kernel_rfl)
theorem ex_three:expP (dyS 1997 8 5) (rTwo 6) (dyS 1997 8 1) (dyS 1997 9 1)=([dyS 1997 8 5,dyS 1997 8 17,dyS 1997 8 19,dyS 1997 8 31],.nil) :=
 expP_of (fit_two (.inr rfl)) (by decide) (by decide) (by kernel_rfl) (by kernel_rfl)
end Go.Re
end
section
namespace Go.Proofs.YtdjfeninmbpflaaGreat
open Go Go.Wk Go.Wl Go.Rx Go.Re 
attribute [local irreducible] vcFun
def anld:Nat->Ann:=fun | 28=>⟨12,fun _=>none,fun _=>none⟩ | _=>⟨0,fun _=>none,fun _=>none⟩
def Vld (y:Int) (m:Int) (d:Int) (Q:Tm->Prop):Prop :=
Q (Tm.mk (Dy.mk y m d) (0:Int) (0:Int) (0:Int) true false)
theorem Vld_eq {y:Int} {m:Int} {d:Int} {Q:Tm->Prop}:@Eq Prop (Vld y m d Q) (vcFun (E:=Nno) (inlHN Nno H0 anld 2) (anld 28) Tryz.f28 [.int .i64 y,.int .i64 m,.int .i64 d] [] [] 0 (resP Nno [.val 25] Q)):=by kernel_rfl
theorem Vld_ok {y:Int} {m:Int} {d:Int} {Q:Tm->Prop} (h:Vld y m d Q):vcFun (E:=Nno) (inlHN Nno H0 anld 2) (anld 28) Tryz.f28 [.int .i64 y,.int .i64 m,.int .i64 d] [] [] 0 (resP Nno [.val 25] Q):=by rw [<- Vld_eq]; exact h
theorem pld (y:Int) (m:Int) (d:Int)  : Vld y m d (fun y0=>y0=dyS y m d):=by
 unfold Vld dyS
 rfl
def cld (a:List (SV U)):Option (Q1 U):=match a with | [.int .i64 y,.int .i64 m,.int .i64 d]=>some ⟨[],[],.agg [.int .i64 (dyS y m d).Day.Year,.int .i64 (dyS y m d).Day.Month,.int .i64 (dyS y m d).Day.Date,.int .i64 (dyS y m d).Hour,.int .i64 (dyS y m d).Min,.int .i64 (dyS y m d).Sec,blB (dyS y m d).Bare,blB (dyS y m d).UTC]⟩ | _=>none
theorem cld_ok (args:List (SV U)) (q:Q1 U) (h:cld args=some q) (ho:allP q.ob):LendOK Nno 28 args ⟨q.ob,q.hy,q.v,[]⟩:=by
 unfold cld at h
 split at h
 . rename_i y m d
   cases h
   exact lend1 Nno_ok (inlHN_ok Nno_ok H0_ok anld 2) Tryz.func28 (k:=.val 25) (x:=dyS y m d) ⟨_,_,rfl,rfl,rfl⟩ (Vld_ok (pld y m d )) 0
 . cases h
noncomputable def Nld:Env:=Nno.addL 28 cld
theorem Nld_ok:EnvOK Nld:=Nno_ok.addL Tryz.call28 cld_ok
end Go.Proofs.YtdjfeninmbpflaaGreat
end
section
namespace Go.Proofs.YtdjfeninmbpflaaGreat
open Go Go.Wk Go.Wl Go.Rx Go.Re 
attribute [local irreducible] vcFun
def anal:Nat->Ann:=fun | 12=>⟨74,fun _=>none,fun _=>none⟩ | _=>⟨0,fun _=>none,fun _=>none⟩
def Val  (Q:Bool->Prop):Prop :=
fewR (rOne)=true/\fewR (rTwo (0:Int))=true/\fewR (rTwo (6:Int))=true/\in64 ((expP (etT (dyS (1997:Int) (1:Int) (31:Int))) (rOne) (etT (dyS (1997:Int) (1:Int) (1:Int))) (etT (dyS (1997:Int) (4:Int) (1:Int)))).snd.nr+(expP (etT (dyS (1997:Int) (8:Int) (5:Int))) (rTwo (0:Int)) (etT (dyS (1997:Int) (8:Int) (1:Int))) (etT (dyS (1997:Int) (8:Int) (25:Int)))).snd.nr)/\in64 ((expP (etT (dyS (1997:Int) (1:Int) (31:Int))) (rOne) (etT (dyS (1997:Int) (1:Int) (1:Int))) (etT (dyS (1997:Int) (4:Int) (1:Int)))).snd.nr+(expP (etT (dyS (1997:Int) (8:Int) (5:Int))) (rTwo (0:Int)) (etT (dyS (1997:Int) (8:Int) (1:Int))) (etT (dyS (1997:Int) (8:Int) (25:Int)))).snd.nr+(expP (etT (dyS (1997:Int) (8:Int) (5:Int))) (rTwo (6:Int)) (etT (dyS (1997:Int) (8:Int) (1:Int))) (etT (dyS (1997:Int) (9:Int) (1:Int)))).snd.nr)/\((expP (etT (dyS (1997:Int) (1:Int) (31:Int))) (rOne) (etT (dyS (1997:Int) (1:Int) (1:Int))) (etT (dyS (1997:Int) (4:Int) (1:Int)))).snd.nr+(expP (etT (dyS (1997:Int) (8:Int) (5:Int))) (rTwo (0:Int)) (etT (dyS (1997:Int) (8:Int) (1:Int))) (etT (dyS (1997:Int) (8:Int) (25:Int)))).snd.nr+(expP (etT (dyS (1997:Int) (8:Int) (5:Int))) (rTwo (6:Int)) (etT (dyS (1997:Int) (8:Int) (1:Int))) (etT (dyS (1997:Int) (9:Int) (1:Int)))).snd.nr=(0:Int)->(expP (etT (dyS (1997:Int) (1:Int) (31:Int))) (rOne) (etT (dyS (1997:Int) (1:Int) (1:Int))) (etT (dyS (1997:Int) (4:Int) (1:Int)))).fst.length<=(10000000:Nat)/\(sameT (expP (etT (dyS (1997:Int) (1:Int) (31:Int))) (rOne) (etT (dyS (1997:Int) (1:Int) (1:Int))) (etT (dyS (1997:Int) (4:Int) (1:Int)))).fst [etT (dyS (1997:Int) (1:Int) (31:Int)),etT (dyS (1997:Int) (2:Int) (28:Int)),etT (dyS (1997:Int) (3:Int) (28:Int))]=true->(expP (etT (dyS (1997:Int) (8:Int) (5:Int))) (rTwo (0:Int)) (etT (dyS (1997:Int) (8:Int) (1:Int))) (etT (dyS (1997:Int) (8:Int) (25:Int)))).fst.length<=(10000000:Nat)/\(sameT (expP (etT (dyS (1997:Int) (8:Int) (5:Int))) (rTwo (0:Int)) (etT (dyS (1997:Int) (8:Int) (1:Int))) (etT (dyS (1997:Int) (8:Int) (25:Int)))).fst [etT (dyS (1997:Int) (8:Int) (5:Int)),etT (dyS (1997:Int) (8:Int) (10:Int)),etT (dyS (1997:Int) (8:Int) (19:Int)),etT (dyS (1997:Int) (8:Int) (24:Int))]=true->(expP (etT (dyS (1997:Int) (8:Int) (5:Int))) (rTwo (6:Int)) (etT (dyS (1997:Int) (8:Int) (1:Int))) (etT (dyS (1997:Int) (9:Int) (1:Int)))).fst.length<=(10000000:Nat)/\Q (decide (sameT (expP (etT (dyS (1997:Int) (8:Int) (5:Int))) (rTwo (6:Int)) (etT (dyS (1997:Int) (8:Int) (1:Int))) (etT (dyS (1997:Int) (9:Int) (1:Int)))).fst [etT (dyS (1997:Int) (8:Int) (5:Int)),etT (dyS (1997:Int) (8:Int) (17:Int)),etT (dyS (1997:Int) (8:Int) (19:Int)),etT (dyS (1997:Int) (8:Int) (31:Int))]=true)))/\(¬sameT (expP (etT (dyS (1997:Int) (8:Int) (5:Int))) (rTwo (0:Int)) (etT (dyS (1997:Int) (8:Int) (1:Int))) (etT (dyS (1997:Int) (8:Int) (25:Int)))).fst [etT (dyS (1997:Int) (8:Int) (5:Int)),etT (dyS (1997:Int) (8:Int) (10:Int)),etT (dyS (1997:Int) (8:Int) (19:Int)),etT (dyS (1997:Int) (8:Int) (24:Int))]=true->Q false))/\(¬sameT (expP (etT (dyS (1997:Int) (1:Int) (31:Int))) (rOne) (etT (dyS (1997:Int) (1:Int) (1:Int))) (etT (dyS (1997:Int) (4:Int) (1:Int)))).fst [etT (dyS (1997:Int) (1:Int) (31:Int)),etT (dyS (1997:Int) (2:Int) (28:Int)),etT (dyS (1997:Int) (3:Int) (28:Int))]=true->Q false))/\(¬(expP (etT (dyS (1997:Int) (1:Int) (31:Int))) (rOne) (etT (dyS (1997:Int) (1:Int) (1:Int))) (etT (dyS (1997:Int) (4:Int) (1:Int)))).snd.nr+(expP (etT (dyS (1997:Int) (8:Int) (5:Int))) (rTwo (0:Int)) (etT (dyS (1997:Int) (8:Int) (1:Int))) (etT (dyS (1997:Int) (8:Int) (25:Int)))).snd.nr+(expP (etT (dyS (1997:Int) (8:Int) (5:Int))) (rTwo (6:Int)) (etT (dyS (1997:Int) (8:Int) (1:Int))) (etT (dyS (1997:Int) (9:Int) (1:Int)))).snd.nr=(0:Int)->Q false)
theorem Val_eq  {Q:Bool->Prop}:@Eq Prop (Val  Q) (vcFun (E:=Nld) (inlHN Nld H0 anal 3) (anal 12) Tryz.f12 [] [] [] 0 (resP Nld [.bool] Q)):=by kernel_rfl
theorem Val_ok  {Q:Bool->Prop} (h:Val  Q):vcFun (E:=Nld) (inlHN Nld H0 anal 3) (anal 12) Tryz.f12 [] [] [] 0 (resP Nld [.bool] Q):=by rw [<- Val_eq]; exact h
theorem pal   : Val  (fun y0=>y0=true):=by
 unfold Val
 simp only [etT_eq]
 rw [ex_one,ex_two,ex_three]
 have st:∀ l:List Tm,sameT l l=true:=fun l=>decide_eq_true rfl
 exact ⟨by decide,by decide,by decide,⟨by decide,by decide⟩,⟨by decide,by decide⟩,fun _=>⟨by decide,fun _=>⟨by decide,fun _=>⟨by decide,decide_eq_true (st _)⟩,fun h=>absurd (st _) h⟩,fun h=>absurd (st _) h⟩,fun h=>absurd rfl h⟩
def cal (a:List (SV U)):Option (Q1 U):=match a with | []=>some ⟨[],[],blB true⟩ | _=>none
theorem cal_ok (args:List (SV U)) (q:Q1 U) (h:cal args=some q) (ho:allP q.ob):LendOK Nld 12 args ⟨q.ob,q.hy,q.v,[]⟩:=by
 unfold cal at h
 split at h
 . cases h
   exact lend1 Nld_ok (inlHN_ok Nld_ok H0_ok anal 3) Tryz.func12 (k:=.bool) (x:=true) trivial (Val_ok (pal  )) 0
 . cases h
noncomputable def Nal:Env:=Nld.addL 12 cal
theorem Nal_ok:EnvOK Nal:=Nld_ok.addL Tryz.call12 cal_ok
end Go.Proofs.YtdjfeninmbpflaaGreat
end
section
namespace Go.Proofs.YtdjfeninmbpflaaGreat
open Go Go.Wk Go.Wl Go.Rx Go.Re 
attribute [local irreducible] vcFun
def anxp:Nat->Ann:=fun | 91=>⟨23,fun _=>none,fun _=>none⟩ | _=>⟨0,fun _=>none,fun _=>none⟩
def Vxp (l:List Int) (n:Int) (a:Int) (Q:Bool->Prop):Prop :=
(¬(↑l.length:Int)=0->l.length<=1000000)/\(¬((↑l.length:Int)=0 ∨ hasN l n=true)->in64 (n-a))/\(¬((↑l.length:Int)=0 ∨ hasN l n=true)->in64 (n-a-1))/\(¬((↑l.length:Int)=0 ∨ hasN l n=true)->l.length<=1000000)/\Q (decide (((↑l.length:Int)=0 ∨ hasN l n=true) ∨ hasN l (n-a-1)=true))
theorem Vxp_eq {l:List Int} {n:Int} {a:Int} {Q:Bool->Prop}:@Eq Prop (Vxp l n a Q) (vcFun (E:=Nal) (inlHN Nal H0 anxp 2) (anxp 91) Tryz.f91 [.sl (N:=U) 3 l,.int .i64 n,.int .i64 a] [] [] 0 (resP Nal [.bool] Q)):=by kernel_rfl
theorem Vxp_ok {l:List Int} {n:Int} {a:Int} {Q:Bool->Prop} (h:Vxp l n a Q):vcFun (E:=Nal) (inlHN Nal H0 anxp 2) (anxp 91) Tryz.f91 [.sl (N:=U) 3 l,.int .i64 n,.int .i64 a] [] [] 0 (resP Nal [.bool] Q):=by rw [<- Vxp_eq]; exact h
theorem pxp (l:List Int) (n:Int) (a:Int) (hl:l.length<=1000000) (n0:-10000000<=n) (n1:n<=10000000) (a0:-10000000<=a) (a1:a<=10000000):Vxp l n a (fun y0=>y0=partE l n a):=by
 unfold Vxp partE Re.hasE
 refine ⟨fun _=>hl,fun _=>⟨by omega,by omega⟩,fun _=>⟨by omega,by omega⟩,fun _=>hl,dec_eq ?_⟩
 rw [Bool.or_eq_true,Bool.or_eq_true,decide_eq_true_iff,or_assoc]
def cxp (a:List (SV U)):Option (Q1 U):=match a with | [.sl 3 l,.int .i64 n,.int .i64 a]=>some ⟨[List.length (α:=Int) l<=1000000,-10000000<=n,n<=10000000,-10000000<=a,a<=10000000],[],blB (partE l n a)⟩ | _=>none
theorem cxp_ok (args:List (SV U)) (q:Q1 U) (h:cxp args=some q) (ho:allP q.ob):LendOK Nal 91 args ⟨q.ob,q.hy,q.v,[]⟩:=by
 unfold cxp at h
 split at h
 . rename_i l n a
   cases h
   exact lend1 Nal_ok (inlHN_ok Nal_ok H0_ok anxp 2) Tryz.func91 (k:=.bool) (x:=partE l n a) trivial (Vxp_ok (pxp l n a ho.1 ho.2.1 ho.2.2.1 ho.2.2.2.1 ho.2.2.2.2.1)) 0
 . cases h
noncomputable def Nxp:Env:=Nal.addL 91 cxp
theorem Nxp_ok:EnvOK Nxp:=Nal_ok.addL Tryz.call91 cxp_ok
end Go.Proofs.YtdjfeninmbpflaaGreat
end
section
namespace Go.Proofs.YtdjfeninmbpflaaGreat
open Go Go.Wk Go.Wl Go.Rx Go.Re 
attribute [local irreducible] vcFun
def anxl:Nat->Ann:=fun | 95=>⟨6,fun _=>none,fun _=>none⟩ | _=>⟨0,fun _=>none,fun _=>none⟩
def Vxl (t:Int) (Q:Int->Prop):Prop :=
((315537897600:Int)<t->Q (315537897600:Int))/\(¬(315537897600:Int)<t->Q t)
theorem Vxl_eq {t:Int} {Q:Int->Prop}:@Eq Prop (Vxl t Q) (vcFun (E:=Nxp) (inlHN Nxp H0 anxl 2) (anxl 95) Tryz.f95 [.int .i64 t] [] [] 0 (resP Nxp [.int .i64] Q)):=by kernel_rfl
theorem Vxl_ok {t:Int} {Q:Int->Prop} (h:Vxl t Q):vcFun (E:=Nxp) (inlHN Nxp H0 anxl 2) (anxl 95) Tryz.f95 [.int .i64 t] [] [] 0 (resP Nxp [.int .i64] Q):=by rw [<- Vxl_eq]; exact h
theorem pxl (t:Int)  : Vxl t (fun y0=>y0=leastS t):=by
 unfold Vxl leastS
 exact ⟨fun h=>by rw [if_pos h],fun h=>by rw [if_neg h]⟩
def cxl (a:List (SV U)):Option (Q1 U):=match a with | [.int .i64 t]=>some ⟨[],[],.int .i64 (leastS t)⟩ | _=>none
theorem cxl_ok (args:List (SV U)) (q:Q1 U) (h:cxl args=some q) (ho:allP q.ob):LendOK Nxp 95 args ⟨q.ob,q.hy,q.v,[]⟩:=by
 unfold cxl at h
 split at h
 . rename_i t
   cases h
   exact lend1 Nxp_ok (inlHN_ok Nxp_ok H0_ok anxl 2) Tryz.func95 (k:=.int .i64) (x:=leastS t) trivial (Vxl_ok (pxl t )) 0
 . cases h
noncomputable def Nxl:Env:=Nxp.addL 95 cxl
theorem Nxl_ok:EnvOK Nxl:=Nxp_ok.addL Tryz.call95 cxl_ok
end Go.Proofs.YtdjfeninmbpflaaGreat
end
section
namespace Go.Proofs.YtdjfeninmbpflaaGreat
open Go Go.Wk Go.Wl Go.Rx Go.Re 
attribute [local irreducible] vcFun
def anxI:Nat->Ann:=fun | 48=>⟨46,fun _=>none,fun _=>none⟩ | _=>⟨0,fun _=>none,fun _=>none⟩
def VxI (r:Rl) (t:Int) (Q:Int->Prop):Prop :=
(86400:Int)≠0/\in64 (t.tdiv (86400:Int))/\in64 (t.tdiv (86400:Int)+1)/\(r.Freq=0->Q (ofS (t.tdiv (86400:Int)+1)).Year)/\(¬r.Freq=0->(r.Freq=1->in64 ((12:Int) * (ofS (t.tdiv (86400:Int)+1)).Year)/\in64 ((12:Int) * (ofS (t.tdiv (86400:Int)+1)).Year+(ofS (t.tdiv (86400:Int)+1)).Month)/\Q ((12:Int) * (ofS (t.tdiv (86400:Int)+1)).Year+(ofS (t.tdiv (86400:Int)+1)).Month))/\(¬r.Freq=1->(r.Freq=2->in64 (t.tdiv (86400:Int)+1+6)/\in64 (t.tdiv (86400:Int)+1+6-r.Wkst)/\(7:Int)≠0/\in64 ((t.tdiv (86400:Int)+1+6-r.Wkst).tdiv (7:Int))/\Q ((t.tdiv (86400:Int)+1+6-r.Wkst).tdiv (7:Int)))/\(¬r.Freq=2->(r.Freq=3->Q (t.tdiv (86400:Int)+1))/\(¬r.Freq=3->(r.Freq=4->(3600:Int)≠0/\in64 (t.tdiv (3600:Int))/\Q (t.tdiv (3600:Int)))/\(¬r.Freq=4->(r.Freq=5->(60:Int)≠0/\in64 (t.tdiv (60:Int))/\Q (t.tdiv (60:Int)))/\(¬r.Freq=5->Q t))))))
theorem VxI_eq {r:Rl} {t:Int} {Q:Int->Prop}:@Eq Prop (VxI r t Q) (vcFun (E:=Nxl) (inlHN Nxl H0 anxI 2) (anxI 48) Tryz.f48 [.agg [.int .i64 r.Freq,.int .i64 r.Interval,.int .i64 r.Count,.sl (N:=U) 25 r.Until,.sl (N:=U) 3 r.Month,.sl (N:=U) 3 r.WeekNo,.sl (N:=U) 3 r.YearDay,.sl (N:=U) 3 r.MonthDay,.sl (N:=U) 60 r.Days,.sl (N:=U) 3 r.Hour,.sl (N:=U) 3 r.Minute,.sl (N:=U) 3 r.Second,.sl (N:=U) 3 r.SetPos,.int .i64 r.Wkst],.int .i64 t] [] [] 0 (resP Nxl [.int .i64] Q)):=by kernel_rfl
theorem VxI_ok {r:Rl} {t:Int} {Q:Int->Prop} (h:VxI r t Q):vcFun (E:=Nxl) (inlHN Nxl H0 anxI 2) (anxI 48) Tryz.f48 [.agg [.int .i64 r.Freq,.int .i64 r.Interval,.int .i64 r.Count,.sl (N:=U) 25 r.Until,.sl (N:=U) 3 r.Month,.sl (N:=U) 3 r.WeekNo,.sl (N:=U) 3 r.YearDay,.sl (N:=U) 3 r.MonthDay,.sl (N:=U) 60 r.Days,.sl (N:=U) 3 r.Hour,.sl (N:=U) 3 r.Minute,.sl (N:=U) 3 r.Second,.sl (N:=U) 3 r.SetPos,.int .i64 r.Wkst],.int .i64 t] [] [] 0 (resP Nxl [.int .i64] Q):=by rw [<- VxI_eq]; exact h
theorem pxI (r:Rl) (t:Int) (t0:0<=t) (t1:t<=400000000000) (w0:0<=r.Wkst) (w1:r.Wkst<=6):VxI r t (fun y0=>y0=idxR r t):=by
 unfold VxI idxR
 have e0:t.tdiv 86400=t / 86400:=Int.tdiv_eq_ediv_of_nonneg t0
 have e1:t.tdiv 3600=t / 3600:=Int.tdiv_eq_ediv_of_nonneg t0
 have e2:t.tdiv 60=t / 60:=Int.tdiv_eq_ediv_of_nonneg t0
 have e3:(t / 86400+1+6-r.Wkst).tdiv 7=(t / 86400+1+6-r.Wkst) / 7:=Int.tdiv_eq_ediv_of_nonneg (by omega)
 rw [e0,e1,e2,e3]
 obtain ⟨y,m,_⟩:=of_rg (t / 86400+1)
 refine ⟨by decide,⟨by omega,by omega⟩,⟨by omega,by omega⟩,fun h=>by rw [if_pos h],fun h0=>⟨fun h=>⟨⟨by omega,by omega⟩,⟨by omega,by omega⟩,by rw [if_neg h0,if_pos h]⟩,fun h1=>⟨fun h=>⟨⟨by omega,by omega⟩,⟨by omega,by omega⟩,by decide,⟨by omega,by omega⟩,by rw [if_neg h0,if_neg h1,if_pos h]⟩,fun h2=>⟨fun h=>by rw [if_neg h0,if_neg h1,if_neg h2,if_pos h],fun h3=>⟨fun h=>⟨by decide,⟨by omega,by omega⟩,by rw [if_neg h0,if_neg h1,if_neg h2,if_neg h3,if_pos h]⟩,fun h4=>⟨fun h=>⟨by decide,⟨by omega,by omega⟩,by rw [if_neg h0,if_neg h1,if_neg h2,if_neg h3,if_neg h4,if_pos h]⟩,fun h5=>by rw [if_neg h0,if_neg h1,if_neg h2,if_neg h3,if_neg h4,if_neg h5]⟩⟩⟩⟩⟩⟩
noncomputable def cxIs (r:Rl) (t:Int):Q1 U:=⟨[0<=t,t<=400000000000,0<=r.Wkst,r.Wkst<=6],[],.int .i64 (idxR r t)⟩
noncomputable def cxI (a:List (SV U)):Option (Q1 U):=match a with | [.agg l_r,.int .i64 t]=>(y30.bk (.agg l_r)).bind fun r=>some (cxIs r t) | _=>none
theorem cxI_ok (args:List (SV U)) (q:Q1 U) (h:cxI args=some q) (ho:allP q.ob):LendOK Nxl 48 args ⟨q.ob,q.hy,q.v,[]⟩:=by
 unfold cxI at h
 split at h
 . rename_i l_r t
   obtain ⟨r,hb_r,h⟩:=Option.bind_eq_some_iff.1 h
   cases h
   refine LendOK.conv (E:=Nxl) (args':=[.agg [.int .i64 r.Freq,.int .i64 r.Interval,.int .i64 r.Count,.sl 25 r.Until,.sl 3 r.Month,.sl 3 r.WeekNo,.sl 3 r.YearDay,.sl 3 r.MonthDay,.sl 60 r.Days,.sl 3 r.Hour,.sl 3 r.Minute,.sl 3 r.Second,.sl 3 r.SetPos,.int .i64 r.Wkst],.int .i64 t]) (lend1 Nxl_ok (inlHN_ok Nxl_ok H0_ok anxI 2) Tryz.func48 (k:=.int .i64) trivial (VxI_ok (pxI r t ho.1 ho.2.1 ho.2.2.1 ho.2.2.2.1)) 0) fun D w vs hr=>tup_conv [.agg l_r,.int .i64 t] [.agg [.int .i64 r.Freq,.int .i64 r.Interval,.int .i64 r.Count,.sl (N:=U) 25 r.Until,.sl (N:=U) 3 r.Month,.sl (N:=U) 3 r.WeekNo,.sl (N:=U) 3 r.YearDay,.sl (N:=U) 3 r.MonthDay,.sl (N:=U) 60 r.Days,.sl (N:=U) 3 r.Hour,.sl (N:=U) 3 r.Minute,.sl (N:=U) 3 r.Second,.sl (N:=U) 3 r.SetPos,.int .i64 r.Wkst],.int .i64 t] _ ⟨fun _ h=>agg_conv30 hb_r h,fun _ h=>h,trivial⟩ hr
 . cases h
noncomputable def NxI:Env:=Nxl.addL 48 cxI
theorem NxI_ok:EnvOK NxI:=Nxl_ok.addL Tryz.call48 cxI_ok
end Go.Proofs.YtdjfeninmbpflaaGreat
end
section
namespace Go.Proofs.YtdjfeninmbpflaaGreat
open Go Go.Wk Go.Wl Go.Rx Go.Re 
attribute [local irreducible] vcFun
def anxD:Nat->Ann:=fun | 49=>⟨199,fun | 15=>some ⟨[2,4,13,14],[.slot 15 (.int .i64)]⟩ | _=>none,fun | 8=>some ⟨[2,3,4,7,8,9,11],[.slot 12 (.int .i64)]⟩ | 14=>some ⟨[2,4],[.slot 13 (.int .i64),.slot 14 (.int .i64)]⟩ | _=>none⟩ | _=>⟨0,fun _=>none,fun _=>none⟩
def qxD0 (n:Int):=Dy.mk (ofS n).Year (ofS n).Month (ofS n).Date
def VxD (s:Tm) (r:Rl) (n:Int) (Q:Bool->Prop):Prop :=
∃ (J:Int->Prop),((weeksS (weekS n r.Wkst).fst r.Wkst=0->J (1:Int))/\(¬weeksS (weekS n r.Wkst).fst r.Wkst=0->J (weeksS (weekS n r.Wkst).fst r.Wkst)))/\∀ (x:Int),J x->(¬(↑r.Month.length:Int)=0->r.Month.length<=1000000)/\((¬¬((↑r.Month.length:Int)=0 ∨ hasN r.Month (ofS n).Month=true)->r.WeekNo.length<=1000000)/\(¬¬((↑r.Month.length:Int)=0 ∨ hasN r.Month (ofS n).Month=true)->(-10000000:Int)<=(weekS n r.Wkst).snd)/\(¬¬((↑r.Month.length:Int)=0 ∨ hasN r.Month (ofS n).Month=true)->(weekS n r.Wkst).snd<=10000000)/\(¬¬((↑r.Month.length:Int)=0 ∨ hasN r.Month (ofS n).Month=true)->(-10000000:Int)<=x)/\(¬¬((↑r.Month.length:Int)=0 ∨ hasN r.Month (ofS n).Month=true)->x<=10000000))/\((¬(¬((↑r.Month.length:Int)=0 ∨ hasN r.Month (ofS n).Month=true) ∨ ¬partE r.WeekNo (weekS n r.Wkst).snd x=true)->r.YearDay.length<=1000000)/\(¬(¬((↑r.Month.length:Int)=0 ∨ hasN r.Month (ofS n).Month=true) ∨ ¬partE r.WeekNo (weekS n r.Wkst).snd x=true)->(-10000000:Int)<=ydS (qxD0 n))/\(¬(¬((↑r.Month.length:Int)=0 ∨ hasN r.Month (ofS n).Month=true) ∨ ¬partE r.WeekNo (weekS n r.Wkst).snd x=true)->ydS (qxD0 n)<=10000000)/\(¬(¬((↑r.Month.length:Int)=0 ∨ hasN r.Month (ofS n).Month=true) ∨ ¬partE r.WeekNo (weekS n r.Wkst).snd x=true)->(-10000000:Int)<=ydS (Dy.mk (ofS n).Year (12:Int) (31:Int)))/\(¬(¬((↑r.Month.length:Int)=0 ∨ hasN r.Month (ofS n).Month=true) ∨ ¬partE r.WeekNo (weekS n r.Wkst).snd x=true)->ydS (Dy.mk (ofS n).Year (12:Int) (31:Int))<=10000000))/\((¬((¬((↑r.Month.length:Int)=0 ∨ hasN r.Month (ofS n).Month=true) ∨ ¬partE r.WeekNo (weekS n r.Wkst).snd x=true) ∨ ¬partE r.YearDay (ydS (qxD0 n)) (ydS (Dy.mk (ofS n).Year (12:Int) (31:Int)))=true)->r.MonthDay.length<=1000000)/\(¬((¬((↑r.Month.length:Int)=0 ∨ hasN r.Month (ofS n).Month=true) ∨ ¬partE r.WeekNo (weekS n r.Wkst).snd x=true) ∨ ¬partE r.YearDay (ydS (qxD0 n)) (ydS (Dy.mk (ofS n).Year (12:Int) (31:Int)))=true)->(-10000000:Int)<=(ofS n).Date)/\(¬((¬((↑r.Month.length:Int)=0 ∨ hasN r.Month (ofS n).Month=true) ∨ ¬partE r.WeekNo (weekS n r.Wkst).snd x=true) ∨ ¬partE r.YearDay (ydS (qxD0 n)) (ydS (Dy.mk (ofS n).Year (12:Int) (31:Int)))=true)->(ofS n).Date<=10000000)/\(¬((¬((↑r.Month.length:Int)=0 ∨ hasN r.Month (ofS n).Month=true) ∨ ¬partE r.WeekNo (weekS n r.Wkst).snd x=true) ∨ ¬partE r.YearDay (ydS (qxD0 n)) (ydS (Dy.mk (ofS n).Year (12:Int) (31:Int)))=true)->(-10000000:Int)<=longS (ofS n).Year (ofS n).Month)/\(¬((¬((↑r.Month.length:Int)=0 ∨ hasN r.Month (ofS n).Month=true) ∨ ¬partE r.WeekNo (weekS n r.Wkst).snd x=true) ∨ ¬partE r.YearDay (ydS (qxD0 n)) (ydS (Dy.mk (ofS n).Year (12:Int) (31:Int)))=true)->longS (ofS n).Year (ofS n).Month<=10000000))/\(((¬((↑r.Month.length:Int)=0 ∨ hasN r.Month (ofS n).Month=true) ∨ ¬partE r.WeekNo (weekS n r.Wkst).snd x=true) ∨ ¬partE r.YearDay (ydS (qxD0 n)) (ydS (Dy.mk (ofS n).Year (12:Int) (31:Int)))=true) ∨ ¬partE r.MonthDay (ofS n).Date (longS (ofS n).Year (ofS n).Month)=true->Q false)/\(¬(((¬((↑r.Month.length:Int)=0 ∨ hasN r.Month (ofS n).Month=true) ∨ ¬partE r.WeekNo (weekS n r.Wkst).snd x=true) ∨ ¬partE r.YearDay (ydS (qxD0 n)) (ydS (Dy.mk (ofS n).Year (12:Int) (31:Int)))=true) ∨ ¬partE r.MonthDay (ofS n).Date (longS (ofS n).Year (ofS n).Month)=true)->((0:Int)<(↑r.Days.length:Int)->∃ (J:Int->Int->Prop),((r.Freq=1 ∨ (0:Int)<(↑r.Month.length:Int)->J (ofS n).Date (longS (ofS n).Year (ofS n).Month))/\(¬(r.Freq=1 ∨ (0:Int)<(↑r.Month.length:Int))->J (ydS (qxD0 n)) (ydS (Dy.mk (ofS n).Year (12:Int) (31:Int)))))/\∀ (x x_1:Int),J x x_1->∃ (I:Int->Prop),∃ (m:Int->Nat),I (0:Int)/\∀ (x_2:Int),I x_2->(x_2<(↑r.Days.length:Int)->(0:Int)<=x_2/\x_2<(↑r.Days.length:Int)/\(in64 (ix r.Days x_2).N->in64 (ix r.Days x_2).Day->((ix r.Days x_2).Day=wdS n/\¬(ix r.Days x_2).N=0->in64 (x-1))/\(((ix r.Days x_2).Day=wdS n/\¬(ix r.Days x_2).N=0->(7:Int)≠0)/\((ix r.Days x_2).Day=wdS n/\¬(ix r.Days x_2).N=0->in64 ((x-1).tdiv (7:Int))))/\((ix r.Days x_2).Day=wdS n/\¬(ix r.Days x_2).N=0->in64 ((1:Int)+(x-1).tdiv (7:Int)))/\((ix r.Days x_2).Day=wdS n/\¬((ix r.Days x_2).N=0 ∨ (ix r.Days x_2).N=(1:Int)+(x-1).tdiv (7:Int))->in64 ((0:Int)-(ix r.Days x_2).N))/\((ix r.Days x_2).Day=wdS n/\¬((ix r.Days x_2).N=0 ∨ (ix r.Days x_2).N=(1:Int)+(x-1).tdiv (7:Int))->in64 (x_1-x))/\(((ix r.Days x_2).Day=wdS n/\¬((ix r.Days x_2).N=0 ∨ (ix r.Days x_2).N=(1:Int)+(x-1).tdiv (7:Int))->(7:Int)≠0)/\((ix r.Days x_2).Day=wdS n/\¬((ix r.Days x_2).N=0 ∨ (ix r.Days x_2).N=(1:Int)+(x-1).tdiv (7:Int))->in64 ((x_1-x).tdiv (7:Int))))/\((ix r.Days x_2).Day=wdS n/\¬((ix r.Days x_2).N=0 ∨ (ix r.Days x_2).N=(1:Int)+(x-1).tdiv (7:Int))->in64 ((1:Int)+(x_1-x).tdiv (7:Int)))/\((ix r.Days x_2).Day=wdS n/\(((ix r.Days x_2).N=0 ∨ (ix r.Days x_2).N=(1:Int)+(x-1).tdiv (7:Int)) ∨ (0:Int)-(ix r.Days x_2).N=(1:Int)+(x_1-x).tdiv (7:Int))->Q true)/\(¬((ix r.Days x_2).Day=wdS n/\(((ix r.Days x_2).N=0 ∨ (ix r.Days x_2).N=(1:Int)+(x-1).tdiv (7:Int)) ∨ (0:Int)-(ix r.Days x_2).N=(1:Int)+(x_1-x).tdiv (7:Int)))->in64 (x_2+1)/\I (x_2+1)/\m (x_2+1)<m x_2)))/\(¬x_2<(↑r.Days.length:Int)->Q false))/\(¬(0:Int)<(↑r.Days.length:Int)->((0:Int)<(↑r.YearDay.length:Int) ∨ (0:Int)<(↑r.MonthDay.length:Int)->Q true)/\(¬((0:Int)<(↑r.YearDay.length:Int) ∨ (0:Int)<(↑r.MonthDay.length:Int))->((0:Int)<(↑r.WeekNo.length:Int)->Q (decide (wdS n=wdS (numS (Dy.mk s.Day.Year s.Day.Month s.Day.Date)))))/\(¬(0:Int)<(↑r.WeekNo.length:Int)->(r.Freq<=1/\(ofS n).Date≠s.Day.Date ∨ (r.Freq=0/\(↑r.Month.length:Int)=0)/\(ofS n).Month≠s.Day.Month->Q false)/\(¬(r.Freq<=1/\(ofS n).Date≠s.Day.Date ∨ (r.Freq=0/\(↑r.Month.length:Int)=0)/\(ofS n).Month≠s.Day.Month)->Q (decide (r.Freq≠2 ∨ wdS n=wdS (numS (Dy.mk s.Day.Year s.Day.Month s.Day.Date)))))))))
theorem VxD_eq {s:Tm} {r:Rl} {n:Int} {Q:Bool->Prop}:@Eq Prop (VxD s r n Q) (vcFun (E:=NxI) (inlHN NxI H0 anxD 2) (anxD 49) Tryz.f49 [.agg [.int .i64 s.Day.Year,.int .i64 s.Day.Month,.int .i64 s.Day.Date,.int .i64 s.Hour,.int .i64 s.Min,.int .i64 s.Sec,blB s.Bare,blB s.UTC],.agg [.int .i64 r.Freq,.int .i64 r.Interval,.int .i64 r.Count,.sl (N:=U) 25 r.Until,.sl (N:=U) 3 r.Month,.sl (N:=U) 3 r.WeekNo,.sl (N:=U) 3 r.YearDay,.sl (N:=U) 3 r.MonthDay,.sl (N:=U) 60 r.Days,.sl (N:=U) 3 r.Hour,.sl (N:=U) 3 r.Minute,.sl (N:=U) 3 r.Second,.sl (N:=U) 3 r.SetPos,.int .i64 r.Wkst],.int .i64 n] [] [] 0 (resP NxI [.bool] Q)):=by kernel_rfl
theorem VxD_ok {s:Tm} {r:Rl} {n:Int} {Q:Bool->Prop} (h:VxD s r n Q):vcFun (E:=NxI) (inlHN NxI H0 anxD 2) (anxD 49) Tryz.f49 [.agg [.int .i64 s.Day.Year,.int .i64 s.Day.Month,.int .i64 s.Day.Date,.int .i64 s.Hour,.int .i64 s.Min,.int .i64 s.Sec,blB s.Bare,blB s.UTC],.agg [.int .i64 r.Freq,.int .i64 r.Interval,.int .i64 r.Count,.sl (N:=U) 25 r.Until,.sl (N:=U) 3 r.Month,.sl (N:=U) 3 r.WeekNo,.sl (N:=U) 3 r.YearDay,.sl (N:=U) 3 r.MonthDay,.sl (N:=U) 60 r.Days,.sl (N:=U) 3 r.Hour,.sl (N:=U) 3 r.Minute,.sl (N:=U) 3 r.Second,.sl (N:=U) 3 r.SetPos,.int .i64 r.Wkst],.int .i64 n] [] [] 0 (resP NxI [.bool] Q):=by rw [<- VxD_eq]; exact h
set_option maxHeartbeats 2000000 in
theorem pxD (s:Tm) (r:Rl) (n:Int) (hfw:fewR r=true) (n0:1<=n) (n1:n<=3652059) (hR:rightR r=true):VxD s r n (fun y0=>y0=dayS s r (numS s.Day) n):=by
 unfold VxD qxD0
 rw [show Dy.mk (ofS n).Year (ofS n).Month (ofS n).Date=ofS n from rfl,show Dy.mk s.Day.Year s.Day.Month s.Day.Date=s.Day from rfl]
 obtain ⟨wmo,wwn,wyd,wmd,wdy,who,wmi,wse,wsp,wti⟩:=fewR_ok hfw
 refine ⟨fun x=>x=weeks1 (weekS n r.Wkst).1 r.Wkst,⟨fun h=>by unfold weeks1; rw [if_pos h],fun h=>by unfold weeks1; rw [if_neg h]⟩,?_⟩
 rintro _ rfl
 have k1:=wk_rg n r.Wkst
 have k2:=wks_rg (weekS n r.Wkst).1 r.Wkst
 have k3:=yd_rg (ofS n)
 have k4:=yd_rg ⟨(ofS n).Year,12,31⟩
 have k5:=long_rg (ofS n).Year (ofS n).Month
 obtain ⟨_,_,k6⟩:=of_rg n
 refine ⟨fun _=>by omega,⟨fun _=>by omega,fun _=>by omega,fun _=>by omega,fun _=>by omega,fun _=>by omega⟩,⟨fun _=>by omega,fun _=>by omega,fun _=>by omega,fun _=>by omega,fun _=>by omega⟩,⟨fun _=>by omega,fun _=>by omega,fun _=>by omega,fun _=>by omega,fun _=>by omega⟩,fun hn=>?_,fun hn=>?_⟩
 . refine Eq.symm (Bool.eq_false_iff.2 fun hb=>?_)
   unfold dayS at hb
   simp only [Bool.and_eq_true,Bool.or_eq_true,decide_eq_true_eq] at hb
   obtain ⟨⟨⟨a,b⟩,c,d⟩,_⟩:=hb
   rcases hn with ((hn | hn) | hn) | hn
   . exact hn a
   . exact hn b
   . exact hn c
   . exact hn d
 have hA:dayS s r (numS s.Day) n=(if 0<(r.Days.length:Int) then wdB r n else if 0<(r.YearDay.length:Int) ∨ 0<(r.MonthDay.length:Int) then true else decide (LikeP s r (numS s.Day) n)):=by
  simp only [not_or,Classical.not_not] at hn
  obtain ⟨⟨⟨a,b⟩,c⟩,d⟩:=hn
  unfold dayS
  rw [b,c,d,show (decide ((r.Month.length:Int)=0) || hasN r.Month (ofS n).Month)=true from by rw [Bool.or_eq_true,decide_eq_true_eq]; exact Classical.byContradiction fun hh=>a ⟨fun x=>hh (.inl x),fun x=>hh (.inr x)⟩]
  rfl
 rw [hA]
 clear hn hA
 refine ⟨fun h=>?_,fun h=>?_⟩
 . rw [if_pos h]
   refine ⟨fun x y=>x=atW r n/\y=allW r n,⟨fun h=>by unfold atW allW; rw [if_pos h,if_pos h]; exact ⟨rfl,rfl⟩,fun h=>by unfold atW allW; rw [if_neg h,if_neg h]; exact ⟨rfl,rfl⟩⟩,?_⟩
   rintro _ _ ⟨rfl,rfl⟩
   obtain ⟨g1,g2,g3,g4⟩:=atW_rg r n
   obtain ⟨g5,g6⟩:=at_ok (r:=r) n0 n1
   have e1:(atW r n-1).tdiv 7=(atW r n-1) / 7:=Int.tdiv_eq_ediv_of_nonneg (by omega)
   have e2:(allW r n-atW r n).tdiv 7=(allW r n-atW r n) / 7:=Int.tdiv_eq_ediv_of_nonneg (by omega)
   have z:∀ n:Int,0-n=-n:=fun n=>by omega
   simp only [e1,e2,z]
   refine ⟨fun i=>0<=i/\∀ j:Int,0<=j->j<i->¬ WdP r n (ix r.Days j),fun i=>((r.Days.length:Int)-i).toNat,⟨by omega,fun j a b=>absurd b (by omega)⟩,?_⟩
   rintro i ⟨i0,hi⟩
   refine ⟨fun h=>⟨i0,h,fun _ _=>?_⟩,fun h=>wdB_no fun j a b=>hi j a (by omega)⟩
   obtain ⟨d1,d2,d3,d4⟩:=(rightR_iff.1 hR).days.ok i i0 h
   have hm:0<=mostR r/\mostR r<=53:=by
    unfold mostR
    split
    . omega
    . split <;> omega
   refine ⟨fun _=>⟨by omega,by omega⟩,⟨fun _=>by decide,fun _=>⟨by omega,by omega⟩⟩,fun _=>⟨by omega,by omega⟩,fun _=>⟨by omega,by omega⟩,fun _=>⟨by omega,by omega⟩,⟨fun _=>by decide,fun _=>⟨by omega,by omega⟩⟩,fun _=>⟨by omega,by omega⟩,fun hy=>wdB_yes i0 h hy,fun hy=>⟨⟨by omega,by omega⟩,⟨by omega,fun j a b=>?_⟩,by dsimp only; omega⟩⟩
   by_cases e:j=i
   . subst e; exact hy
   . exact hi j a (by omega)
 . rw [if_neg h]
   refine ⟨fun h2=>by rw [if_pos h2],fun h2=>?_⟩
   rw [if_neg h2]
   unfold LikeP
   refine ⟨fun h3=>?_,fun h3=>⟨fun h4=>?_,fun h4=>?_⟩⟩
   . exact decide_eq_decide.2 (by rw [if_pos h3])
   . exact (decide_eq_false (by rw [if_neg h3]; exact fun hh=>hh.1 h4)).symm
   . exact decide_eq_decide.2 (by rw [if_neg h3]; exact ⟨fun hh=>⟨h4,hh⟩,fun hh=>hh.2⟩)
noncomputable def cxDs (s:Tm) (r:Rl) (n:Int):Q1 U:=⟨[fewR r=true,1<=n,n<=3652059,rightR r=true],[],blB (dayS s r (numS s.Day) n)⟩
noncomputable def cxD (a:List (SV U)):Option (Q1 U):=match a with | [.agg l_s,.agg l_r,.int .i64 n]=>(y25.bk (.agg l_s)).bind fun s=>(y30.bk (.agg l_r)).bind fun r=>some (cxDs s r n) | _=>none
theorem cxD_ok (args:List (SV U)) (q:Q1 U) (h:cxD args=some q) (ho:allP q.ob):LendOK NxI 49 args ⟨q.ob,q.hy,q.v,[]⟩:=by
 unfold cxD at h
 split at h
 . rename_i l_s l_r n
   obtain ⟨s,hb_s,h⟩:=Option.bind_eq_some_iff.1 h
   obtain ⟨r,hb_r,h⟩:=Option.bind_eq_some_iff.1 h
   cases h
   refine LendOK.conv (E:=NxI) (args':=[.agg [.int .i64 s.Day.Year,.int .i64 s.Day.Month,.int .i64 s.Day.Date,.int .i64 s.Hour,.int .i64 s.Min,.int .i64 s.Sec,blB s.Bare,blB s.UTC],.agg [.int .i64 r.Freq,.int .i64 r.Interval,.int .i64 r.Count,.sl 25 r.Until,.sl 3 r.Month,.sl 3 r.WeekNo,.sl 3 r.YearDay,.sl 3 r.MonthDay,.sl 60 r.Days,.sl 3 r.Hour,.sl 3 r.Minute,.sl 3 r.Second,.sl 3 r.SetPos,.int .i64 r.Wkst],.int .i64 n]) (lend1 NxI_ok (inlHN_ok NxI_ok H0_ok anxD 2) Tryz.func49 (k:=.bool) trivial (VxD_ok (pxD s r n ho.1 ho.2.1 ho.2.2.1 ho.2.2.2.1)) 0) fun D w vs hr=>tup_conv [.agg l_s,.agg l_r,.int .i64 n] [.agg [.int .i64 s.Day.Year,.int .i64 s.Day.Month,.int .i64 s.Day.Date,.int .i64 s.Hour,.int .i64 s.Min,.int .i64 s.Sec,blB s.Bare,blB s.UTC],.agg [.int .i64 r.Freq,.int .i64 r.Interval,.int .i64 r.Count,.sl (N:=U) 25 r.Until,.sl (N:=U) 3 r.Month,.sl (N:=U) 3 r.WeekNo,.sl (N:=U) 3 r.YearDay,.sl (N:=U) 3 r.MonthDay,.sl (N:=U) 60 r.Days,.sl (N:=U) 3 r.Hour,.sl (N:=U) 3 r.Minute,.sl (N:=U) 3 r.Second,.sl (N:=U) 3 r.SetPos,.int .i64 r.Wkst],.int .i64 n] _ ⟨fun _ h=>agg_conv25 hb_s h,fun _ h=>agg_conv30 hb_r h,fun _ h=>h,trivial⟩ hr
 . cases h
noncomputable def NxD:Env:=NxI.addL 49 cxD
theorem NxD_ok:EnvOK NxD:=NxI_ok.addL Tryz.call49 cxD_ok
end Go.Proofs.YtdjfeninmbpflaaGreat
end
section
namespace Go.Proofs.YtdjfeninmbpflaaGreat
open Go Go.Wk Go.Wl Go.Rx Go.Re 
attribute [local irreducible] vcFun
def anxC:Nat->Ann:=fun | 51=>⟨115,fun | 3=>some ⟨[2,3],[.slot 5 (.acc 3),.slot 6 (.int .i64)]⟩ | 7=>some ⟨[2,3,6],[.slot 5 (.acc 3),.slot 7 (.int .i64)]⟩ | 11=>some ⟨[2,3,6,7],[.slot 5 (.acc 3),.slot 8 (.int .i64)]⟩ | _=>none,fun _=>none⟩ | _=>⟨0,fun _=>none,fun _=>none⟩
def VxC (s:Tm) (r:Rl) (Q:List Int->Prop):Prop :=
∃ (I:List Int->Int->Prop),∃ (m:List Int->Int->Nat),I [] (0:Int)/\∀ (x:List Int) (x_1:Int),I x x_1->(x_1<24->((0:Int)<(↑r.Hour.length:Int)->r.Hour.length<=1000000)/\((0:Int)<(↑r.Hour.length:Int)/\¬hasN r.Hour x_1=true ∨ ((↑r.Hour.length:Int)=0/\r.Freq<=3)/\x_1≠s.Hour->in64 (x_1+1)/\I x (x_1+1)/\m x (x_1+1)<m x x_1)/\(¬((0:Int)<(↑r.Hour.length:Int)/\¬hasN r.Hour x_1=true ∨ ((↑r.Hour.length:Int)=0/\r.Freq<=3)/\x_1≠s.Hour)->∃ (I_1:List Int->Int->Prop),∃ (m_1:List Int->Int->Nat),I_1 x (0:Int)/\∀ (x_2:List Int) (x_3:Int),I_1 x_2 x_3->(x_3<60->((0:Int)<(↑r.Minute.length:Int)->r.Minute.length<=1000000)/\((0:Int)<(↑r.Minute.length:Int)/\¬hasN r.Minute x_3=true ∨ ((↑r.Minute.length:Int)=0/\r.Freq<=4)/\x_3≠s.Min->in64 (x_3+1)/\I_1 x_2 (x_3+1)/\m_1 x_2 (x_3+1)<m_1 x_2 x_3)/\(¬((0:Int)<(↑r.Minute.length:Int)/\¬hasN r.Minute x_3=true ∨ ((↑r.Minute.length:Int)=0/\r.Freq<=4)/\x_3≠s.Min)->∃ (I:List Int->Int->Prop),∃ (m:List Int->Int->Nat),I x_2 (0:Int)/\∀ (x:List Int) (x_4:Int),I x x_4->(x_4<60->((0:Int)<(↑r.Second.length:Int)->r.Second.length<=1000000)/\((0:Int)<(↑r.Second.length:Int)/\hasN r.Second x_4=true ∨ (↑r.Second.length:Int)=0/\((5:Int)<r.Freq ∨ x_4=s.Sec)->in64 ((3600:Int) * x_1)/\in64 ((60:Int) * x_3)/\in64 ((3600:Int) * x_1+60 * x_3)/\in64 ((3600:Int) * x_1+60 * x_3+x_4)/\(x.length+[(3600:Int) * x_1+60 * x_3+x_4].length) * (some (8:Nat)).getD (0:Nat)<=140737488355328/\in64 (x_4+1)/\I (x++[(3600:Int) * x_1+60 * x_3+x_4]) (x_4+1)/\m (x++[(3600:Int) * x_1+60 * x_3+x_4]) (x_4+1)<m x x_4)/\(¬((0:Int)<(↑r.Second.length:Int)/\hasN r.Second x_4=true ∨ (↑r.Second.length:Int)=0/\((5:Int)<r.Freq ∨ x_4=s.Sec))->in64 (x_4+1)/\I x (x_4+1)/\m x (x_4+1)<m x x_4))/\(¬x_4<60->in64 (x_3+1)/\I_1 x (x_3+1)/\m_1 x (x_3+1)<m_1 x_2 x_3)))/\(¬x_3<60->in64 (x_1+1)/\I x_2 (x_1+1)/\m x_2 (x_1+1)<m x x_1)))/\(¬x_1<24->Q x)
theorem VxC_eq {s:Tm} {r:Rl} {Q:List Int->Prop}:@Eq Prop (VxC s r Q) (vcFun (E:=NxD) (inlHN NxD H0 anxC 2) (anxC 51) Tryz.f51 [.agg [.int .i64 s.Day.Year,.int .i64 s.Day.Month,.int .i64 s.Day.Date,.int .i64 s.Hour,.int .i64 s.Min,.int .i64 s.Sec,blB s.Bare,blB s.UTC],.agg [.int .i64 r.Freq,.int .i64 r.Interval,.int .i64 r.Count,.sl (N:=U) 25 r.Until,.sl (N:=U) 3 r.Month,.sl (N:=U) 3 r.WeekNo,.sl (N:=U) 3 r.YearDay,.sl (N:=U) 3 r.MonthDay,.sl (N:=U) 60 r.Days,.sl (N:=U) 3 r.Hour,.sl (N:=U) 3 r.Minute,.sl (N:=U) 3 r.Second,.sl (N:=U) 3 r.SetPos,.int .i64 r.Wkst]] [] [] 0 (resP NxD [.acc 3] Q)):=by kernel_rfl
theorem VxC_ok {s:Tm} {r:Rl} {Q:List Int->Prop} (h:VxC s r Q):vcFun (E:=NxD) (inlHN NxD H0 anxC 2) (anxC 51) Tryz.f51 [.agg [.int .i64 s.Day.Year,.int .i64 s.Day.Month,.int .i64 s.Day.Date,.int .i64 s.Hour,.int .i64 s.Min,.int .i64 s.Sec,blB s.Bare,blB s.UTC],.agg [.int .i64 r.Freq,.int .i64 r.Interval,.int .i64 r.Count,.sl (N:=U) 25 r.Until,.sl (N:=U) 3 r.Month,.sl (N:=U) 3 r.WeekNo,.sl (N:=U) 3 r.YearDay,.sl (N:=U) 3 r.MonthDay,.sl (N:=U) 60 r.Days,.sl (N:=U) 3 r.Hour,.sl (N:=U) 3 r.Minute,.sl (N:=U) 3 r.Second,.sl (N:=U) 3 r.SetPos,.int .i64 r.Wkst]] [] [] 0 (resP NxD [.acc 3] Q):=by rw [<- VxC_eq]; exact h
set_option maxHeartbeats 2000000 in
theorem pxC (s:Tm) (r:Rl) (hfw:fewR r=true):VxC s r (fun y0=>y0=clkS s r):=by
 unfold VxC
 obtain ⟨wmo,wwn,wyd,wmd,wdy,who,wmi,wse,wsp,wti⟩:=fewR_ok hfw
 refine ⟨fun x i=>0<=i/\i<=24/\x=houU s r i.toNat,fun _ i=>(24-i).toNat,⟨by decide,by decide,rfl⟩,?_⟩
 rintro _ i ⟨i0,i1,rfl⟩
 refine ⟨fun hi=>⟨fun _=>by omega,fun hn=>⟨⟨by omega,by omega⟩,⟨by omega,by omega,(hou_no i0 (not_not_intro hn)).symm⟩,by dsimp only; omega⟩,fun hy=>?_⟩,fun hi=>by rw [show i=24 by omega]; rfl⟩
 have l1:=houU_len s r i.toNat
 refine ⟨fun x j=>0<=j/\j<=60/\x=houU s r i.toNat++minU s r i j.toNat,fun _ j=>(60-j).toNat,⟨by decide,by decide,(List.append_nil _).symm⟩,?_⟩
 rintro _ j ⟨j0,j1,rfl⟩
 refine ⟨fun hj=>⟨fun _=>by omega,fun hn=>⟨⟨by omega,by omega⟩,⟨by omega,by omega,by rw [min_no j0 (not_not_intro hn)]⟩,by dsimp only; omega⟩,fun hz=>?_⟩,fun hj=>⟨⟨by omega,by omega⟩,⟨by omega,by omega,by rw [hou_yes i0 hy,show j=60 by omega]; rfl⟩,by dsimp only; omega⟩⟩
 have l2:=minU_len s r i j.toNat
 refine ⟨fun x k=>0<=k/\k<=60/\x=houU s r i.toNat++minU s r i j.toNat++secU s r i j k.toNat,fun _ k=>(60-k).toNat,⟨by decide,by decide,(List.append_nil _).symm⟩,?_⟩
 rintro _ k ⟨k0,k1,rfl⟩
 have l3:=secU_len s r i j k.toNat
 refine ⟨fun hk=>⟨fun _=>by omega,fun hp=>⟨⟨by omega,by omega⟩,⟨by omega,by omega⟩,⟨by omega,by omega⟩,⟨by omega,by omega⟩,?_,⟨by omega,by omega⟩,⟨by omega,by omega,by rw [sec_yes k0 hp]; simp only [List.append_assoc]⟩,by dsimp only; omega⟩,fun hp=>⟨⟨by omega,by omega⟩,⟨by omega,by omega,by rw [sec_no k0 hp]⟩,by dsimp only; omega⟩⟩,fun hk=>⟨⟨by omega,by omega⟩,⟨by omega,by omega,by rw [min_yes j0 hz,show k=60 by omega,List.append_assoc]; rfl⟩,by dsimp only; omega⟩⟩
 show ((houU s r i.toNat++minU s r i j.toNat++secU s r i j k.toNat).length+1) * 8<=140737488355328
 rw [List.length_append,List.length_append]
 omega
def cxCs (s:Tm) (r:Rl) (nx:Nat):CR U:=⟨[fewR r=true],[],.acc nx,[.ac 3 (clkS s r)]⟩
def cxC (a:List (SV U)) (nx:Nat):Option (CR U):=match a with | [.agg l_s,.agg l_r]=>(y25.bk (.agg l_s)).bind fun s=>(y30.bk (.agg l_r)).bind fun r=>some (cxCs s r nx) | _=>none
theorem cxC_ok (args:List (SV U)) (nx:Nat) (c:CR U) (h:cxC args nx=some c) (hp:args.all pureS=true) (ho:allP c.ob):ConOK NxD.P NxD.N NxD.T NxD.G 51 args nx c:=by
 unfold cxC at h
 split at h
 . rename_i l_s l_r
   obtain ⟨s,hb_s,h⟩:=Option.bind_eq_some_iff.1 h
   obtain ⟨r,hb_r,h⟩:=Option.bind_eq_some_iff.1 h
   cases h
   exact ConOK.weak (b:=[.agg [.int .i64 s.Day.Year,.int .i64 s.Day.Month,.int .i64 s.Day.Date,.int .i64 s.Hour,.int .i64 s.Min,.int .i64 s.Sec,blB s.Bare,blB s.UTC],.agg [.int .i64 r.Freq,.int .i64 r.Interval,.int .i64 r.Count,.sl (N:=U) 25 r.Until,.sl (N:=U) 3 r.Month,.sl (N:=U) 3 r.WeekNo,.sl (N:=U) 3 r.YearDay,.sl (N:=U) 3 r.MonthDay,.sl (N:=U) 60 r.Days,.sl (N:=U) 3 r.Hour,.sl (N:=U) 3 r.Minute,.sl (N:=U) 3 r.Second,.sl (N:=U) 3 r.SetPos,.int .i64 r.Wkst]]) (con1 NxD_ok (inlHN_ok NxD_ok H0_ok anxC 2) Tryz.func51 (k:=.acc 3) rfl (VxC_ok (pxC s r ho.1))) fun ρ Z w v hr=>tup_conv [.agg l_s,.agg l_r] [.agg [.int .i64 s.Day.Year,.int .i64 s.Day.Month,.int .i64 s.Day.Date,.int .i64 s.Hour,.int .i64 s.Min,.int .i64 s.Sec,blB s.Bare,blB s.UTC],.agg [.int .i64 r.Freq,.int .i64 r.Interval,.int .i64 r.Count,.sl (N:=U) 25 r.Until,.sl (N:=U) 3 r.Month,.sl (N:=U) 3 r.WeekNo,.sl (N:=U) 3 r.YearDay,.sl (N:=U) 3 r.MonthDay,.sl (N:=U) 60 r.Days,.sl (N:=U) 3 r.Hour,.sl (N:=U) 3 r.Minute,.sl (N:=U) 3 r.Second,.sl (N:=U) 3 r.SetPos,.int .i64 r.Wkst]] _ ⟨fun _ h=>agg_conv25 hb_s h,fun _ h=>agg_conv30 hb_r h,trivial⟩ hr
 . cases h
noncomputable def NxC:Env:=NxD.addC 51 cxC
theorem NxC_ok:EnvOK NxC:=NxD_ok.addC Tryz.call51 cxC_ok
end Go.Proofs.YtdjfeninmbpflaaGreat
end
section
namespace Go.Proofs.YtdjfeninmbpflaaGreat
open Go Go.Wk Go.Wl Go.Rx Go.Re 
attribute [local irreducible] vcFun
def anxM:Nat->Ann:=fun | 23=>⟨67,fun _=>none,fun _=>none⟩ | _=>⟨0,fun _=>none,fun _=>none⟩
def VxM (s:Tm) (r:Rl) (t:Tm) (Q:Bool->Prop):Prop :=
fewR (Rl.mk r.Freq r.Interval r.Count r.Until r.Month r.WeekNo r.YearDay r.MonthDay r.Days r.Hour r.Minute r.Second r.SetPos r.Wkst)=true/\(((¬fitsS (Tm.mk (Dy.mk s.Day.Year s.Day.Month s.Day.Date) s.Hour s.Min s.Sec (decide (s.Bare=true)) (decide (s.UTC=true))) (Rl.mk r.Freq r.Interval r.Count r.Until r.Month r.WeekNo r.YearDay r.MonthDay r.Days r.Hour r.Minute r.Second r.SetPos r.Wkst)=true ∨ ¬rightT (Tm.mk (Dy.mk t.Day.Year t.Day.Month t.Day.Date) t.Hour t.Min t.Sec (decide (t.Bare=true)) (decide (t.UTC=true)))=true) ∨ ¬(t.Bare=true↔s.Bare=true)) ∨ ¬(t.UTC=true↔s.UTC=true)->Q false)/\(¬(((¬fitsS (Tm.mk (Dy.mk s.Day.Year s.Day.Month s.Day.Date) s.Hour s.Min s.Sec (decide (s.Bare=true)) (decide (s.UTC=true))) (Rl.mk r.Freq r.Interval r.Count r.Until r.Month r.WeekNo r.YearDay r.MonthDay r.Days r.Hour r.Minute r.Second r.SetPos r.Wkst)=true ∨ ¬rightT (Tm.mk (Dy.mk t.Day.Year t.Day.Month t.Day.Date) t.Hour t.Min t.Sec (decide (t.Bare=true)) (decide (t.UTC=true)))=true) ∨ ¬(t.Bare=true↔s.Bare=true)) ∨ ¬(t.UTC=true↔s.UTC=true))->((0:Int)<=secsT (Tm.mk (Dy.mk t.Day.Year t.Day.Month t.Day.Date) t.Hour t.Min t.Sec (decide (t.Bare=true)) (decide (t.UTC=true)))/\secsT (Tm.mk (Dy.mk t.Day.Year t.Day.Month t.Day.Date) t.Hour t.Min t.Sec (decide (t.Bare=true)) (decide (t.UTC=true)))<=400000000000/\(0:Int)<=r.Wkst/\r.Wkst<=6)/\((0:Int)<=secsT (Tm.mk (Dy.mk s.Day.Year s.Day.Month s.Day.Date) s.Hour s.Min s.Sec (decide (s.Bare=true)) (decide (s.UTC=true)))/\secsT (Tm.mk (Dy.mk s.Day.Year s.Day.Month s.Day.Date) s.Hour s.Min s.Sec (decide (s.Bare=true)) (decide (s.UTC=true)))<=400000000000/\(0:Int)<=r.Wkst/\r.Wkst<=6)/\in64 (idxR (Rl.mk r.Freq r.Interval r.Count r.Until r.Month r.WeekNo r.YearDay r.MonthDay r.Days r.Hour r.Minute r.Second r.SetPos r.Wkst) (secsT (Tm.mk (Dy.mk t.Day.Year t.Day.Month t.Day.Date) t.Hour t.Min t.Sec (decide (t.Bare=true)) (decide (t.UTC=true))))-idxR (Rl.mk r.Freq r.Interval r.Count r.Until r.Month r.WeekNo r.YearDay r.MonthDay r.Days r.Hour r.Minute r.Second r.SetPos r.Wkst) (secsT (Tm.mk (Dy.mk s.Day.Year s.Day.Month s.Day.Date) s.Hour s.Min s.Sec (decide (s.Bare=true)) (decide (s.UTC=true)))))/\((0:Int)<=idxR (Rl.mk r.Freq r.Interval r.Count r.Until r.Month r.WeekNo r.YearDay r.MonthDay r.Days r.Hour r.Minute r.Second r.SetPos r.Wkst) (secsT (Tm.mk (Dy.mk t.Day.Year t.Day.Month t.Day.Date) t.Hour t.Min t.Sec (decide (t.Bare=true)) (decide (t.UTC=true))))-idxR (Rl.mk r.Freq r.Interval r.Count r.Until r.Month r.WeekNo r.YearDay r.MonthDay r.Days r.Hour r.Minute r.Second r.SetPos r.Wkst) (secsT (Tm.mk (Dy.mk s.Day.Year s.Day.Month s.Day.Date) s.Hour s.Min s.Sec (decide (s.Bare=true)) (decide (s.UTC=true))))->r.Interval≠0)/\((0:Int)<=idxR (Rl.mk r.Freq r.Interval r.Count r.Until r.Month r.WeekNo r.YearDay r.MonthDay r.Days r.Hour r.Minute r.Second r.SetPos r.Wkst) (secsT (Tm.mk (Dy.mk t.Day.Year t.Day.Month t.Day.Date) t.Hour t.Min t.Sec (decide (t.Bare=true)) (decide (t.UTC=true))))-idxR (Rl.mk r.Freq r.Interval r.Count r.Until r.Month r.WeekNo r.YearDay r.MonthDay r.Days r.Hour r.Minute r.Second r.SetPos r.Wkst) (secsT (Tm.mk (Dy.mk s.Day.Year s.Day.Month s.Day.Date) s.Hour s.Min s.Sec (decide (s.Bare=true)) (decide (s.UTC=true))))/\(idxR (Rl.mk r.Freq r.Interval r.Count r.Until r.Month r.WeekNo r.YearDay r.MonthDay r.Days r.Hour r.Minute r.Second r.SetPos r.Wkst) (secsT (Tm.mk (Dy.mk t.Day.Year t.Day.Month t.Day.Date) t.Hour t.Min t.Sec (decide (t.Bare=true)) (decide (t.UTC=true))))-idxR (Rl.mk r.Freq r.Interval r.Count r.Until r.Month r.WeekNo r.YearDay r.MonthDay r.Days r.Hour r.Minute r.Second r.SetPos r.Wkst) (secsT (Tm.mk (Dy.mk s.Day.Year s.Day.Month s.Day.Date) s.Hour s.Min s.Sec (decide (s.Bare=true)) (decide (s.UTC=true))))).tmod r.Interval=0->(86400:Int)≠0)/\((0:Int)<=idxR (Rl.mk r.Freq r.Interval r.Count r.Until r.Month r.WeekNo r.YearDay r.MonthDay r.Days r.Hour r.Minute r.Second r.SetPos r.Wkst) (secsT (Tm.mk (Dy.mk t.Day.Year t.Day.Month t.Day.Date) t.Hour t.Min t.Sec (decide (t.Bare=true)) (decide (t.UTC=true))))-idxR (Rl.mk r.Freq r.Interval r.Count r.Until r.Month r.WeekNo r.YearDay r.MonthDay r.Days r.Hour r.Minute r.Second r.SetPos r.Wkst) (secsT (Tm.mk (Dy.mk s.Day.Year s.Day.Month s.Day.Date) s.Hour s.Min s.Sec (decide (s.Bare=true)) (decide (s.UTC=true))))/\(idxR (Rl.mk r.Freq r.Interval r.Count r.Until r.Month r.WeekNo r.YearDay r.MonthDay r.Days r.Hour r.Minute r.Second r.SetPos r.Wkst) (secsT (Tm.mk (Dy.mk t.Day.Year t.Day.Month t.Day.Date) t.Hour t.Min t.Sec (decide (t.Bare=true)) (decide (t.UTC=true))))-idxR (Rl.mk r.Freq r.Interval r.Count r.Until r.Month r.WeekNo r.YearDay r.MonthDay r.Days r.Hour r.Minute r.Second r.SetPos r.Wkst) (secsT (Tm.mk (Dy.mk s.Day.Year s.Day.Month s.Day.Date) s.Hour s.Min s.Sec (decide (s.Bare=true)) (decide (s.UTC=true))))).tmod r.Interval=0->in64 ((secsT (Tm.mk (Dy.mk t.Day.Year t.Day.Month t.Day.Date) t.Hour t.Min t.Sec (decide (t.Bare=true)) (decide (t.UTC=true)))).tdiv (86400:Int)))/\((0:Int)<=idxR (Rl.mk r.Freq r.Interval r.Count r.Until r.Month r.WeekNo r.YearDay r.MonthDay r.Days r.Hour r.Minute r.Second r.SetPos r.Wkst) (secsT (Tm.mk (Dy.mk t.Day.Year t.Day.Month t.Day.Date) t.Hour t.Min t.Sec (decide (t.Bare=true)) (decide (t.UTC=true))))-idxR (Rl.mk r.Freq r.Interval r.Count r.Until r.Month r.WeekNo r.YearDay r.MonthDay r.Days r.Hour r.Minute r.Second r.SetPos r.Wkst) (secsT (Tm.mk (Dy.mk s.Day.Year s.Day.Month s.Day.Date) s.Hour s.Min s.Sec (decide (s.Bare=true)) (decide (s.UTC=true))))/\(idxR (Rl.mk r.Freq r.Interval r.Count r.Until r.Month r.WeekNo r.YearDay r.MonthDay r.Days r.Hour r.Minute r.Second r.SetPos r.Wkst) (secsT (Tm.mk (Dy.mk t.Day.Year t.Day.Month t.Day.Date) t.Hour t.Min t.Sec (decide (t.Bare=true)) (decide (t.UTC=true))))-idxR (Rl.mk r.Freq r.Interval r.Count r.Until r.Month r.WeekNo r.YearDay r.MonthDay r.Days r.Hour r.Minute r.Second r.SetPos r.Wkst) (secsT (Tm.mk (Dy.mk s.Day.Year s.Day.Month s.Day.Date) s.Hour s.Min s.Sec (decide (s.Bare=true)) (decide (s.UTC=true))))).tmod r.Interval=0->in64 ((secsT (Tm.mk (Dy.mk t.Day.Year t.Day.Month t.Day.Date) t.Hour t.Min t.Sec (decide (t.Bare=true)) (decide (t.UTC=true)))).tdiv (86400:Int)+1))/\((0:Int)<=idxR (Rl.mk r.Freq r.Interval r.Count r.Until r.Month r.WeekNo r.YearDay r.MonthDay r.Days r.Hour r.Minute r.Second r.SetPos r.Wkst) (secsT (Tm.mk (Dy.mk t.Day.Year t.Day.Month t.Day.Date) t.Hour t.Min t.Sec (decide (t.Bare=true)) (decide (t.UTC=true))))-idxR (Rl.mk r.Freq r.Interval r.Count r.Until r.Month r.WeekNo r.YearDay r.MonthDay r.Days r.Hour r.Minute r.Second r.SetPos r.Wkst) (secsT (Tm.mk (Dy.mk s.Day.Year s.Day.Month s.Day.Date) s.Hour s.Min s.Sec (decide (s.Bare=true)) (decide (s.UTC=true))))/\(idxR (Rl.mk r.Freq r.Interval r.Count r.Until r.Month r.WeekNo r.YearDay r.MonthDay r.Days r.Hour r.Minute r.Second r.SetPos r.Wkst) (secsT (Tm.mk (Dy.mk t.Day.Year t.Day.Month t.Day.Date) t.Hour t.Min t.Sec (decide (t.Bare=true)) (decide (t.UTC=true))))-idxR (Rl.mk r.Freq r.Interval r.Count r.Until r.Month r.WeekNo r.YearDay r.MonthDay r.Days r.Hour r.Minute r.Second r.SetPos r.Wkst) (secsT (Tm.mk (Dy.mk s.Day.Year s.Day.Month s.Day.Date) s.Hour s.Min s.Sec (decide (s.Bare=true)) (decide (s.UTC=true))))).tmod r.Interval=0->fewR (Rl.mk r.Freq r.Interval r.Count r.Until r.Month r.WeekNo r.YearDay r.MonthDay r.Days r.Hour r.Minute r.Second r.SetPos r.Wkst)=true)/\((0:Int)<=idxR (Rl.mk r.Freq r.Interval r.Count r.Until r.Month r.WeekNo r.YearDay r.MonthDay r.Days r.Hour r.Minute r.Second r.SetPos r.Wkst) (secsT (Tm.mk (Dy.mk t.Day.Year t.Day.Month t.Day.Date) t.Hour t.Min t.Sec (decide (t.Bare=true)) (decide (t.UTC=true))))-idxR (Rl.mk r.Freq r.Interval r.Count r.Until r.Month r.WeekNo r.YearDay r.MonthDay r.Days r.Hour r.Minute r.Second r.SetPos r.Wkst) (secsT (Tm.mk (Dy.mk s.Day.Year s.Day.Month s.Day.Date) s.Hour s.Min s.Sec (decide (s.Bare=true)) (decide (s.UTC=true))))/\(idxR (Rl.mk r.Freq r.Interval r.Count r.Until r.Month r.WeekNo r.YearDay r.MonthDay r.Days r.Hour r.Minute r.Second r.SetPos r.Wkst) (secsT (Tm.mk (Dy.mk t.Day.Year t.Day.Month t.Day.Date) t.Hour t.Min t.Sec (decide (t.Bare=true)) (decide (t.UTC=true))))-idxR (Rl.mk r.Freq r.Interval r.Count r.Until r.Month r.WeekNo r.YearDay r.MonthDay r.Days r.Hour r.Minute r.Second r.SetPos r.Wkst) (secsT (Tm.mk (Dy.mk s.Day.Year s.Day.Month s.Day.Date) s.Hour s.Min s.Sec (decide (s.Bare=true)) (decide (s.UTC=true))))).tmod r.Interval=0->(1:Int)<=(secsT (Tm.mk (Dy.mk t.Day.Year t.Day.Month t.Day.Date) t.Hour t.Min t.Sec (decide (t.Bare=true)) (decide (t.UTC=true)))).tdiv (86400:Int)+1)/\((0:Int)<=idxR (Rl.mk r.Freq r.Interval r.Count r.Until r.Month r.WeekNo r.YearDay r.MonthDay r.Days r.Hour r.Minute r.Second r.SetPos r.Wkst) (secsT (Tm.mk (Dy.mk t.Day.Year t.Day.Month t.Day.Date) t.Hour t.Min t.Sec (decide (t.Bare=true)) (decide (t.UTC=true))))-idxR (Rl.mk r.Freq r.Interval r.Count r.Until r.Month r.WeekNo r.YearDay r.MonthDay r.Days r.Hour r.Minute r.Second r.SetPos r.Wkst) (secsT (Tm.mk (Dy.mk s.Day.Year s.Day.Month s.Day.Date) s.Hour s.Min s.Sec (decide (s.Bare=true)) (decide (s.UTC=true))))/\(idxR (Rl.mk r.Freq r.Interval r.Count r.Until r.Month r.WeekNo r.YearDay r.MonthDay r.Days r.Hour r.Minute r.Second r.SetPos r.Wkst) (secsT (Tm.mk (Dy.mk t.Day.Year t.Day.Month t.Day.Date) t.Hour t.Min t.Sec (decide (t.Bare=true)) (decide (t.UTC=true))))-idxR (Rl.mk r.Freq r.Interval r.Count r.Until r.Month r.WeekNo r.YearDay r.MonthDay r.Days r.Hour r.Minute r.Second r.SetPos r.Wkst) (secsT (Tm.mk (Dy.mk s.Day.Year s.Day.Month s.Day.Date) s.Hour s.Min s.Sec (decide (s.Bare=true)) (decide (s.UTC=true))))).tmod r.Interval=0->(secsT (Tm.mk (Dy.mk t.Day.Year t.Day.Month t.Day.Date) t.Hour t.Min t.Sec (decide (t.Bare=true)) (decide (t.UTC=true)))).tdiv (86400:Int)+1<=3652059)/\((0:Int)<=idxR (Rl.mk r.Freq r.Interval r.Count r.Until r.Month r.WeekNo r.YearDay r.MonthDay r.Days r.Hour r.Minute r.Second r.SetPos r.Wkst) (secsT (Tm.mk (Dy.mk t.Day.Year t.Day.Month t.Day.Date) t.Hour t.Min t.Sec (decide (t.Bare=true)) (decide (t.UTC=true))))-idxR (Rl.mk r.Freq r.Interval r.Count r.Until r.Month r.WeekNo r.YearDay r.MonthDay r.Days r.Hour r.Minute r.Second r.SetPos r.Wkst) (secsT (Tm.mk (Dy.mk s.Day.Year s.Day.Month s.Day.Date) s.Hour s.Min s.Sec (decide (s.Bare=true)) (decide (s.UTC=true))))/\(idxR (Rl.mk r.Freq r.Interval r.Count r.Until r.Month r.WeekNo r.YearDay r.MonthDay r.Days r.Hour r.Minute r.Second r.SetPos r.Wkst) (secsT (Tm.mk (Dy.mk t.Day.Year t.Day.Month t.Day.Date) t.Hour t.Min t.Sec (decide (t.Bare=true)) (decide (t.UTC=true))))-idxR (Rl.mk r.Freq r.Interval r.Count r.Until r.Month r.WeekNo r.YearDay r.MonthDay r.Days r.Hour r.Minute r.Second r.SetPos r.Wkst) (secsT (Tm.mk (Dy.mk s.Day.Year s.Day.Month s.Day.Date) s.Hour s.Min s.Sec (decide (s.Bare=true)) (decide (s.UTC=true))))).tmod r.Interval=0->rightR (Rl.mk r.Freq r.Interval r.Count r.Until r.Month r.WeekNo r.YearDay r.MonthDay r.Days r.Hour r.Minute r.Second r.SetPos r.Wkst)=true)/\(((0:Int)<=idxR (Rl.mk r.Freq r.Interval r.Count r.Until r.Month r.WeekNo r.YearDay r.MonthDay r.Days r.Hour r.Minute r.Second r.SetPos r.Wkst) (secsT (Tm.mk (Dy.mk t.Day.Year t.Day.Month t.Day.Date) t.Hour t.Min t.Sec (decide (t.Bare=true)) (decide (t.UTC=true))))-idxR (Rl.mk r.Freq r.Interval r.Count r.Until r.Month r.WeekNo r.YearDay r.MonthDay r.Days r.Hour r.Minute r.Second r.SetPos r.Wkst) (secsT (Tm.mk (Dy.mk s.Day.Year s.Day.Month s.Day.Date) s.Hour s.Min s.Sec (decide (s.Bare=true)) (decide (s.UTC=true))))/\(idxR (Rl.mk r.Freq r.Interval r.Count r.Until r.Month r.WeekNo r.YearDay r.MonthDay r.Days r.Hour r.Minute r.Second r.SetPos r.Wkst) (secsT (Tm.mk (Dy.mk t.Day.Year t.Day.Month t.Day.Date) t.Hour t.Min t.Sec (decide (t.Bare=true)) (decide (t.UTC=true))))-idxR (Rl.mk r.Freq r.Interval r.Count r.Until r.Month r.WeekNo r.YearDay r.MonthDay r.Days r.Hour r.Minute r.Second r.SetPos r.Wkst) (secsT (Tm.mk (Dy.mk s.Day.Year s.Day.Month s.Day.Date) s.Hour s.Min s.Sec (decide (s.Bare=true)) (decide (s.UTC=true))))).tmod r.Interval=0)/\dayS (Tm.mk (Dy.mk s.Day.Year s.Day.Month s.Day.Date) s.Hour s.Min s.Sec (decide (s.Bare=true)) (decide (s.UTC=true))) (Rl.mk r.Freq r.Interval r.Count r.Until r.Month r.WeekNo r.YearDay r.MonthDay r.Days r.Hour r.Minute r.Second r.SetPos r.Wkst) (numS (Dy.mk s.Day.Year s.Day.Month s.Day.Date)) ((secsT (Tm.mk (Dy.mk t.Day.Year t.Day.Month t.Day.Date) t.Hour t.Min t.Sec (decide (t.Bare=true)) (decide (t.UTC=true)))).tdiv (86400:Int)+1)=true->fewR (Rl.mk r.Freq r.Interval r.Count r.Until r.Month r.WeekNo r.YearDay r.MonthDay r.Days r.Hour r.Minute r.Second r.SetPos r.Wkst)=true/\(86400:Int)≠0/\(clkS (Tm.mk (Dy.mk s.Day.Year s.Day.Month s.Day.Date) s.Hour s.Min s.Sec (decide (s.Bare=true)) (decide (s.UTC=true))) (Rl.mk r.Freq r.Interval r.Count r.Until r.Month r.WeekNo r.YearDay r.MonthDay r.Days r.Hour r.Minute r.Second r.SetPos r.Wkst)).length<=1000000/\Q (decide (hasN (clkS (Tm.mk (Dy.mk s.Day.Year s.Day.Month s.Day.Date) s.Hour s.Min s.Sec (decide (s.Bare=true)) (decide (s.UTC=true))) (Rl.mk r.Freq r.Interval r.Count r.Until r.Month r.WeekNo r.YearDay r.MonthDay r.Days r.Hour r.Minute r.Second r.SetPos r.Wkst)) ((secsT (Tm.mk (Dy.mk t.Day.Year t.Day.Month t.Day.Date) t.Hour t.Min t.Sec (decide (t.Bare=true)) (decide (t.UTC=true)))).tmod (86400:Int))=true)))/\(¬(((0:Int)<=idxR (Rl.mk r.Freq r.Interval r.Count r.Until r.Month r.WeekNo r.YearDay r.MonthDay r.Days r.Hour r.Minute r.Second r.SetPos r.Wkst) (secsT (Tm.mk (Dy.mk t.Day.Year t.Day.Month t.Day.Date) t.Hour t.Min t.Sec (decide (t.Bare=true)) (decide (t.UTC=true))))-idxR (Rl.mk r.Freq r.Interval r.Count r.Until r.Month r.WeekNo r.YearDay r.MonthDay r.Days r.Hour r.Minute r.Second r.SetPos r.Wkst) (secsT (Tm.mk (Dy.mk s.Day.Year s.Day.Month s.Day.Date) s.Hour s.Min s.Sec (decide (s.Bare=true)) (decide (s.UTC=true))))/\(idxR (Rl.mk r.Freq r.Interval r.Count r.Until r.Month r.WeekNo r.YearDay r.MonthDay r.Days r.Hour r.Minute r.Second r.SetPos r.Wkst) (secsT (Tm.mk (Dy.mk t.Day.Year t.Day.Month t.Day.Date) t.Hour t.Min t.Sec (decide (t.Bare=true)) (decide (t.UTC=true))))-idxR (Rl.mk r.Freq r.Interval r.Count r.Until r.Month r.WeekNo r.YearDay r.MonthDay r.Days r.Hour r.Minute r.Second r.SetPos r.Wkst) (secsT (Tm.mk (Dy.mk s.Day.Year s.Day.Month s.Day.Date) s.Hour s.Min s.Sec (decide (s.Bare=true)) (decide (s.UTC=true))))).tmod r.Interval=0)/\dayS (Tm.mk (Dy.mk s.Day.Year s.Day.Month s.Day.Date) s.Hour s.Min s.Sec (decide (s.Bare=true)) (decide (s.UTC=true))) (Rl.mk r.Freq r.Interval r.Count r.Until r.Month r.WeekNo r.YearDay r.MonthDay r.Days r.Hour r.Minute r.Second r.SetPos r.Wkst) (numS (Dy.mk s.Day.Year s.Day.Month s.Day.Date)) ((secsT (Tm.mk (Dy.mk t.Day.Year t.Day.Month t.Day.Date) t.Hour t.Min t.Sec (decide (t.Bare=true)) (decide (t.UTC=true)))).tdiv (86400:Int)+1)=true)->Q false))
theorem VxM_eq {s:Tm} {r:Rl} {t:Tm} {Q:Bool->Prop}:@Eq Prop (VxM s r t Q) (vcFun (E:=NxC) (inlHN NxC H0 anxM 2) (anxM 23) Tryz.f23 [.agg [.int .i64 s.Day.Year,.int .i64 s.Day.Month,.int .i64 s.Day.Date,.int .i64 s.Hour,.int .i64 s.Min,.int .i64 s.Sec,blB s.Bare,blB s.UTC],.agg [.int .i64 r.Freq,.int .i64 r.Interval,.int .i64 r.Count,.sl (N:=U) 25 r.Until,.sl (N:=U) 3 r.Month,.sl (N:=U) 3 r.WeekNo,.sl (N:=U) 3 r.YearDay,.sl (N:=U) 3 r.MonthDay,.sl (N:=U) 60 r.Days,.sl (N:=U) 3 r.Hour,.sl (N:=U) 3 r.Minute,.sl (N:=U) 3 r.Second,.sl (N:=U) 3 r.SetPos,.int .i64 r.Wkst],.agg [.int .i64 t.Day.Year,.int .i64 t.Day.Month,.int .i64 t.Day.Date,.int .i64 t.Hour,.int .i64 t.Min,.int .i64 t.Sec,blB t.Bare,blB t.UTC]] [] [] 0 (resP NxC [.bool] Q)):=by kernel_rfl
theorem VxM_ok {s:Tm} {r:Rl} {t:Tm} {Q:Bool->Prop} (h:VxM s r t Q):vcFun (E:=NxC) (inlHN NxC H0 anxM 2) (anxM 23) Tryz.f23 [.agg [.int .i64 s.Day.Year,.int .i64 s.Day.Month,.int .i64 s.Day.Date,.int .i64 s.Hour,.int .i64 s.Min,.int .i64 s.Sec,blB s.Bare,blB s.UTC],.agg [.int .i64 r.Freq,.int .i64 r.Interval,.int .i64 r.Count,.sl (N:=U) 25 r.Until,.sl (N:=U) 3 r.Month,.sl (N:=U) 3 r.WeekNo,.sl (N:=U) 3 r.YearDay,.sl (N:=U) 3 r.MonthDay,.sl (N:=U) 60 r.Days,.sl (N:=U) 3 r.Hour,.sl (N:=U) 3 r.Minute,.sl (N:=U) 3 r.Second,.sl (N:=U) 3 r.SetPos,.int .i64 r.Wkst],.agg [.int .i64 t.Day.Year,.int .i64 t.Day.Month,.int .i64 t.Day.Date,.int .i64 t.Hour,.int .i64 t.Min,.int .i64 t.Sec,blB t.Bare,blB t.UTC]] [] [] 0 (resP NxC [.bool] Q):=by rw [<- VxM_eq]; exact h
set_option maxHeartbeats 2000000 in
theorem pxM (s:Tm) (r:Rl) (t:Tm) (hfw:fewR r=true):VxM s r t (fun y0=>y0=matR s r t):=by
 unfold VxM matR
 rw [show (Rl.mk r.Freq r.Interval r.Count r.Until r.Month r.WeekNo r.YearDay r.MonthDay r.Days r.Hour r.Minute r.Second r.SetPos r.Wkst)=r from rfl]
 simp only [Bool.decide_eq_true]
 rw [show (Tm.mk (Dy.mk s.Day.Year s.Day.Month s.Day.Date) s.Hour s.Min s.Sec s.Bare s.UTC)=s from rfl,show (Tm.mk (Dy.mk t.Day.Year t.Day.Month t.Day.Date) t.Hour t.Min t.Sec t.Bare t.UTC)=t from rfl,show Dy.mk s.Day.Year s.Day.Month s.Day.Date=s.Day from rfl]
 refine ⟨hfw,fun h=>by rw [if_pos (show MatN s r t from h)],fun h=>?_⟩
 rw [if_neg (show ¬ MatN s r t from h)]
 have hF:FitsP s r:=fits_iff.1 (Classical.not_not.1 fun hn=>h (.inl (.inl (.inl hn))))
 have ht:rightT t=true:=Classical.not_not.1 fun hn=>h (.inl (.inl (.inr hn)))
 have hR:=hF.rr
 obtain ⟨t0,t1⟩:=secs_rg ht
 obtain ⟨s0,s1⟩:=secs_rg hF.rt
 obtain ⟨f0,f1,i0,i1,c0,c1,w0,w1⟩:=(rightR_iff.1 hR).head
 have a:=idxR_rg (r:=r) t0 t1 w0 w1
 have b:=idxR_rg (r:=r) s0 s1 w0 w1
 have cl:=clk_len s r
 have e0:(secsT t).tdiv 86400=secsT t / 86400:=Int.tdiv_eq_ediv_of_nonneg t0
 have e1:(secsT t).tmod 86400=secsT t % 86400:=Int.tmod_eq_emod_of_nonneg t0
 rw [e0,e1]
 have e2:(0<=idxR r (secsT t)-idxR r (secsT s)/\(idxR r (secsT t)-idxR r (secsT s)).tmod r.Interval=0)↔(0<=idxR r (secsT t)-idxR r (secsT s)/\(idxR r (secsT t)-idxR r (secsT s)) % r.Interval=0):=by
  constructor <;> rintro ⟨p,q⟩ <;> refine ⟨p,?_⟩
  . rw [<- Int.tmod_eq_emod_of_nonneg p]; exact q
  . rw [Int.tmod_eq_emod_of_nonneg p]; exact q
 refine ⟨⟨t0,by omega,w0,w1⟩,⟨s0,by omega,w0,w1⟩,⟨by omega,by omega⟩,fun _=>by omega,fun _=>by decide,fun _=>⟨by omega,by omega⟩,fun _=>⟨by omega,by omega⟩,fun _=>hfw,fun _=>by omega,fun _=>by omega,fun _=>hR,fun hm=>⟨hfw,by decide,by omega,?_⟩,fun hm=>?_⟩
 . unfold matK
   rw [decide_eq_true (e2.1 hm.1),hm.2,Bool.true_and,Bool.true_and]
 . unfold matK
   by_cases h1:0<=idxR r (secsT t)-idxR r (secsT s)/\(idxR r (secsT t)-idxR r (secsT s)) % r.Interval=0
   . have h2:dayS s r (numS s.Day) (secsT t / 86400+1)=false:=Bool.eq_false_iff.2 fun hd=>hm ⟨e2.2 h1,hd⟩
     rw [h2,Bool.and_false,Bool.false_and]
   . rw [decide_eq_false h1,Bool.false_and,Bool.false_and]
noncomputable def cxMs (s:Tm) (r:Rl) (t:Tm):Q1 U:=⟨[fewR r=true],[],blB (matR s r t)⟩
noncomputable def cxM (a:List (SV U)):Option (Q1 U):=match a with | [.agg l_s,.agg l_r,.agg l_t]=>(y25.bk (.agg l_s)).bind fun s=>(y30.bk (.agg l_r)).bind fun r=>(y25.bk (.agg l_t)).bind fun t=>some (cxMs s r t) | _=>none
theorem cxM_ok (args:List (SV U)) (q:Q1 U) (h:cxM args=some q) (ho:allP q.ob):LendOK NxC 23 args ⟨q.ob,q.hy,q.v,[]⟩:=by
 unfold cxM at h
 split at h
 . rename_i l_s l_r l_t
   obtain ⟨s,hb_s,h⟩:=Option.bind_eq_some_iff.1 h
   obtain ⟨r,hb_r,h⟩:=Option.bind_eq_some_iff.1 h
   obtain ⟨t,hb_t,h⟩:=Option.bind_eq_some_iff.1 h
   cases h
   refine LendOK.conv (E:=NxC) (args':=[.agg [.int .i64 s.Day.Year,.int .i64 s.Day.Month,.int .i64 s.Day.Date,.int .i64 s.Hour,.int .i64 s.Min,.int .i64 s.Sec,blB s.Bare,blB s.UTC],.agg [.int .i64 r.Freq,.int .i64 r.Interval,.int .i64 r.Count,.sl 25 r.Until,.sl 3 r.Month,.sl 3 r.WeekNo,.sl 3 r.YearDay,.sl 3 r.MonthDay,.sl 60 r.Days,.sl 3 r.Hour,.sl 3 r.Minute,.sl 3 r.Second,.sl 3 r.SetPos,.int .i64 r.Wkst],.agg [.int .i64 t.Day.Year,.int .i64 t.Day.Month,.int .i64 t.Day.Date,.int .i64 t.Hour,.int .i64 t.Min,.int .i64 t.Sec,blB t.Bare,blB t.UTC]]) (lend1 NxC_ok (inlHN_ok NxC_ok H0_ok anxM 2) Tryz.func23 (k:=.bool) trivial (VxM_ok (pxM s r t ho.1)) 0) fun D w vs hr=>tup_conv [.agg l_s,.agg l_r,.agg l_t] [.agg [.int .i64 s.Day.Year,.int .i64 s.Day.Month,.int .i64 s.Day.Date,.int .i64 s.Hour,.int .i64 s.Min,.int .i64 s.Sec,blB s.Bare,blB s.UTC],.agg [.int .i64 r.Freq,.int .i64 r.Interval,.int .i64 r.Count,.sl (N:=U) 25 r.Until,.sl (N:=U) 3 r.Month,.sl (N:=U) 3 r.WeekNo,.sl (N:=U) 3 r.YearDay,.sl (N:=U) 3 r.MonthDay,.sl (N:=U) 60 r.Days,.sl (N:=U) 3 r.Hour,.sl (N:=U) 3 r.Minute,.sl (N:=U) 3 r.Second,.sl (N:=U) 3 r.SetPos,.int .i64 r.Wkst],.agg [.int .i64 t.Day.Year,.int .i64 t.Day.Month,.int .i64 t.Day.Date,.int .i64 t.Hour,.int .i64 t.Min,.int .i64 t.Sec,blB t.Bare,blB t.UTC]] _ ⟨fun _ h=>agg_conv25 hb_s h,fun _ h=>agg_conv30 hb_r h,fun _ h=>agg_conv25 hb_t h,trivial⟩ hr
 . cases h
noncomputable def NxM:Env:=NxC.addL 23 cxM
theorem NxM_ok:EnvOK NxM:=NxC_ok.addL Tryz.call23 cxM_ok
end Go.Proofs.YtdjfeninmbpflaaGreat
end
section
namespace Go.Proofs.YtdjfeninmbpflaaGreat
open Go Go.Wk Go.Wl Go.Rx Go.Re 
attribute [local irreducible] vcFun
def anlM:Nat->Ann:=fun | 7=>⟨32,fun _=>none,fun _=>none⟩ | _=>⟨0,fun _=>none,fun _=>none⟩
def VlM (s:Tm) (r:Rl) (t:Tm) (Q:Bool->Prop):Prop :=
(¬fewR (etR r)=true->Q (decide (true=true)))/\(¬¬fewR (etR r)=true->fewR (etR r)=true/\fewR (etR r)=true/\((fitsS (etT s) (etR r)=true↔fitsS (etT s) (etR r)=true)->fewR (etR r)=true)/\((fitsS (etT s) (etR r)=true↔fitsS (etT s) (etR r)=true)->fewR (etR r)=true)/\Q (decide (((fitsS (etT s) (etR r)=true↔fitsS (etT s) (etR r)=true)/\(matR (etT s) (etR r) (etT t)=true↔matR (etT s) (etR r) (etT t)=true))/\true=true)))
theorem VlM_eq {s:Tm} {r:Rl} {t:Tm} {Q:Bool->Prop}:@Eq Prop (VlM s r t Q) (vcFun (E:=NxM) (inlHN NxM H0 anlM 2) (anlM 7) Tryz.f7 [.agg [.int .i64 s.Day.Year,.int .i64 s.Day.Month,.int .i64 s.Day.Date,.int .i64 s.Hour,.int .i64 s.Min,.int .i64 s.Sec,blB s.Bare,blB s.UTC],.agg [.int .i64 r.Freq,.int .i64 r.Interval,.int .i64 r.Count,.sl (N:=U) 25 r.Until,.sl (N:=U) 3 r.Month,.sl (N:=U) 3 r.WeekNo,.sl (N:=U) 3 r.YearDay,.sl (N:=U) 3 r.MonthDay,.sl (N:=U) 60 r.Days,.sl (N:=U) 3 r.Hour,.sl (N:=U) 3 r.Minute,.sl (N:=U) 3 r.Second,.sl (N:=U) 3 r.SetPos,.int .i64 r.Wkst],.agg [.int .i64 t.Day.Year,.int .i64 t.Day.Month,.int .i64 t.Day.Date,.int .i64 t.Hour,.int .i64 t.Min,.int .i64 t.Sec,blB t.Bare,blB t.UTC]] [] [] 0 (resP NxM [.bool] Q)):=by kernel_rfl
theorem VlM_ok {s:Tm} {r:Rl} {t:Tm} {Q:Bool->Prop} (h:VlM s r t Q):vcFun (E:=NxM) (inlHN NxM H0 anlM 2) (anlM 7) Tryz.f7 [.agg [.int .i64 s.Day.Year,.int .i64 s.Day.Month,.int .i64 s.Day.Date,.int .i64 s.Hour,.int .i64 s.Min,.int .i64 s.Sec,blB s.Bare,blB s.UTC],.agg [.int .i64 r.Freq,.int .i64 r.Interval,.int .i64 r.Count,.sl (N:=U) 25 r.Until,.sl (N:=U) 3 r.Month,.sl (N:=U) 3 r.WeekNo,.sl (N:=U) 3 r.YearDay,.sl (N:=U) 3 r.MonthDay,.sl (N:=U) 60 r.Days,.sl (N:=U) 3 r.Hour,.sl (N:=U) 3 r.Minute,.sl (N:=U) 3 r.Second,.sl (N:=U) 3 r.SetPos,.int .i64 r.Wkst],.agg [.int .i64 t.Day.Year,.int .i64 t.Day.Month,.int .i64 t.Day.Date,.int .i64 t.Hour,.int .i64 t.Min,.int .i64 t.Sec,blB t.Bare,blB t.UTC]] [] [] 0 (resP NxM [.bool] Q):=by rw [<- VlM_eq]; exact h
theorem plM (s:Tm) (r:Rl) (t:Tm)  : VlM s r t (fun y0=>y0=true):=by
 unfold VlM
 simp only [etT_eq,etR_eq]
 refine ⟨fun _=>rfl,fun h=>⟨Classical.not_not.1 h,Classical.not_not.1 h,fun _=>Classical.not_not.1 h,fun _=>Classical.not_not.1 h,?_⟩⟩
 simp
end Go.Proofs.YtdjfeninmbpflaaGreat
end
section
namespace Go.Proofs.YtdjfeninmbpflaaGreat
open Go Go.Wk Go.Wl Go.Rx Go.RowKit Go.ChangeShapes Go.WideShapes Go.Re
theorem laid0:laidOutB Tryz.prog=true:=by kernel_rfl
theorem own0:ownKnob Tryz.prog.godebug=none:=by kernel_rfl
theorem read0 {P:Program} {ts:List TypeId} (h:(ts.all fun t=>P.readableRec t && decide (t<P.types.size))=true):∀ t∈ts,P.readableRec t=true/\t<P.types.size:=fun t ht=>by
 have:=List.all_eq_true.1 h t ht
 rw [Bool.and_eq_true,decide_eq_true_eq] at this
 exact this
theorem opens_dDy:OpensD Tryz.prog 23 dDy:=fun {H enc fuel w sp cs x} h=>by
 obtain ⟨xs,n,_,_,hlen,hxl,hget⟩:=DataW.trod_struct Tryz.underlying23 h
 have hz:Tryz.prog.cellsOf 23=3:=by kernel_rfl
 rw [hz] at hlen
 have z3:Tryz.prog.cellsOf 3=1:=by kernel_rfl
 have g0:DataW.trod enc Tryz.prog w 0 sp true n 3 ((cs.drop 0).take (Tryz.prog.cellsOf 3))=xs[0]? := hget 0 _ rfl
 rw [List.getElem?_eq_getElem (by rw [hxl]; decide),z3] at g0
 obtain ⟨y0,k0⟩:=(opensD_int Tryz.underlying3) g0
 have g1:DataW.trod enc Tryz.prog w 0 sp true n 3 ((cs.drop 1).take (Tryz.prog.cellsOf 3))=xs[1]? := hget 1 _ rfl
 rw [List.getElem?_eq_getElem (by rw [hxl]; decide),z3] at g1
 obtain ⟨y1,k1⟩:=(opensD_int Tryz.underlying3) g1
 have g2:DataW.trod enc Tryz.prog w 0 sp true n 3 ((cs.drop 2).take (Tryz.prog.cellsOf 3))=xs[2]? := hget 2 _ rfl
 rw [List.getElem?_eq_getElem (by rw [hxl]; decide),z3] at g2
 obtain ⟨y2,k2⟩:=(opensD_int Tryz.underlying3) g2
 have q:cs=(cs.drop 0).take (1+(1+(1))):=wholeL hlen
 exact ⟨⟨y0,y1,y2⟩,_,_,_,q.trans (cutL.trans (congrArg _ cutL)),k0,k1,k2⟩
theorem opens_dTm:OpensD Tryz.prog 25 dTm:=fun {H enc fuel w sp cs x} h=>by
 obtain ⟨xs,n,_,_,hlen,hxl,hget⟩:=DataW.trod_struct Tryz.underlying25 h
 have hz:Tryz.prog.cellsOf 25=8:=by kernel_rfl
 rw [hz] at hlen
 have z3:Tryz.prog.cellsOf 3=1:=by kernel_rfl
 have z4:Tryz.prog.cellsOf 4=1:=by kernel_rfl
 have z23:Tryz.prog.cellsOf 23=3:=by kernel_rfl
 have g0:DataW.trod enc Tryz.prog w 0 sp true n 23 ((cs.drop 0).take (Tryz.prog.cellsOf 23))=xs[0]? := hget 0 _ rfl
 rw [List.getElem?_eq_getElem (by rw [hxl]; decide),z23] at g0
 obtain ⟨y0,k0⟩:=opens_dDy g0
 have g1:DataW.trod enc Tryz.prog w 0 sp true n 3 ((cs.drop 3).take (Tryz.prog.cellsOf 3))=xs[1]? := hget 1 _ rfl
 rw [List.getElem?_eq_getElem (by rw [hxl]; decide),z3] at g1
 obtain ⟨y1,k1⟩:=(opensD_int Tryz.underlying3) g1
 have g2:DataW.trod enc Tryz.prog w 0 sp true n 3 ((cs.drop 4).take (Tryz.prog.cellsOf 3))=xs[2]? := hget 2 _ rfl
 rw [List.getElem?_eq_getElem (by rw [hxl]; decide),z3] at g2
 obtain ⟨y2,k2⟩:=(opensD_int Tryz.underlying3) g2
 have g3:DataW.trod enc Tryz.prog w 0 sp true n 3 ((cs.drop 5).take (Tryz.prog.cellsOf 3))=xs[3]? := hget 3 _ rfl
 rw [List.getElem?_eq_getElem (by rw [hxl]; decide),z3] at g3
 obtain ⟨y3,k3⟩:=(opensD_int Tryz.underlying3) g3
 have g4:DataW.trod enc Tryz.prog w 0 sp true n 4 ((cs.drop 6).take (Tryz.prog.cellsOf 4))=xs[4]? := hget 4 _ rfl
 rw [List.getElem?_eq_getElem (by rw [hxl]; decide),z4] at g4
 obtain ⟨y4,k4⟩:=(opensD_bool Tryz.underlying4) g4
 have g5:DataW.trod enc Tryz.prog w 0 sp true n 4 ((cs.drop 7).take (Tryz.prog.cellsOf 4))=xs[5]? := hget 5 _ rfl
 rw [List.getElem?_eq_getElem (by rw [hxl]; decide),z4] at g5
 obtain ⟨y5,k5⟩:=(opensD_bool Tryz.underlying4) g5
 have q:cs=(cs.drop 0).take (3+(1+(1+(1+(1+(1)))))):=wholeL hlen
 exact ⟨⟨y0,y1,y2,y3,y4,y5⟩,_,_,_,_,_,_,q.trans (cutL.trans (congrArg _ (cutL.trans (congrArg _ (cutL.trans (congrArg _ (cutL.trans (congrArg _ cutL)))))))),k0,k1,k2,k3,k4,k5⟩
theorem opens_dNt:OpensD Tryz.prog 60 dNt:=fun {H enc fuel w sp cs x} h=>by
 obtain ⟨xs,n,_,_,hlen,hxl,hget⟩:=DataW.trod_struct Tryz.underlying60 h
 have hz:Tryz.prog.cellsOf 60=2:=by kernel_rfl
 rw [hz] at hlen
 have z3:Tryz.prog.cellsOf 3=1:=by kernel_rfl
 have g0:DataW.trod enc Tryz.prog w 0 sp true n 3 ((cs.drop 0).take (Tryz.prog.cellsOf 3))=xs[0]? := hget 0 _ rfl
 rw [List.getElem?_eq_getElem (by rw [hxl]; decide),z3] at g0
 obtain ⟨y0,k0⟩:=(opensD_int Tryz.underlying3) g0
 have g1:DataW.trod enc Tryz.prog w 0 sp true n 3 ((cs.drop 1).take (Tryz.prog.cellsOf 3))=xs[1]? := hget 1 _ rfl
 rw [List.getElem?_eq_getElem (by rw [hxl]; decide),z3] at g1
 obtain ⟨y1,k1⟩:=(opensD_int Tryz.underlying3) g1
 have q:cs=(cs.drop 0).take (1+(1)):=wholeL hlen
 exact ⟨⟨y0,y1⟩,_,_,q.trans cutL,k0,k1⟩
theorem opens_dRl:OpensD Tryz.prog 30 dRl:=fun {H enc fuel w sp cs x} h=>by
 obtain ⟨xs,n,_,_,hlen,hxl,hget⟩:=DataW.trod_struct Tryz.underlying30 h
 have hz:Tryz.prog.cellsOf 30=14:=by kernel_rfl
 rw [hz] at hlen
 have z3:Tryz.prog.cellsOf 3=1:=by kernel_rfl
 have z26:Tryz.prog.cellsOf 26=1:=by kernel_rfl
 have z27:Tryz.prog.cellsOf 27=1:=by kernel_rfl
 have z28:Tryz.prog.cellsOf 28=1:=by kernel_rfl
 have g0:DataW.trod enc Tryz.prog w 0 sp true n 3 ((cs.drop 0).take (Tryz.prog.cellsOf 3))=xs[0]? := hget 0 _ rfl
 rw [List.getElem?_eq_getElem (by rw [hxl]; decide),z3] at g0
 obtain ⟨y0,k0⟩:=(opensD_int Tryz.underlying3) g0
 have g1:DataW.trod enc Tryz.prog w 0 sp true n 3 ((cs.drop 1).take (Tryz.prog.cellsOf 3))=xs[1]? := hget 1 _ rfl
 rw [List.getElem?_eq_getElem (by rw [hxl]; decide),z3] at g1
 obtain ⟨y1,k1⟩:=(opensD_int Tryz.underlying3) g1
 have g2:DataW.trod enc Tryz.prog w 0 sp true n 3 ((cs.drop 2).take (Tryz.prog.cellsOf 3))=xs[2]? := hget 2 _ rfl
 rw [List.getElem?_eq_getElem (by rw [hxl]; decide),z3] at g2
 obtain ⟨y2,k2⟩:=(opensD_int Tryz.underlying3) g2
 have g3:DataW.trod enc Tryz.prog w 0 sp true n 26 ((cs.drop 3).take (Tryz.prog.cellsOf 26))=xs[3]? := hget 3 _ rfl
 rw [List.getElem?_eq_getElem (by rw [hxl]; decide),z26] at g3
 obtain ⟨y3,k3⟩:=(opensD_slice Tryz.underlying26 (by kernel_rfl) (by decide) opens_dTm) g3
 have g4:DataW.trod enc Tryz.prog w 0 sp true n 27 ((cs.drop 4).take (Tryz.prog.cellsOf 27))=xs[4]? := hget 4 _ rfl
 rw [List.getElem?_eq_getElem (by rw [hxl]; decide),z27] at g4
 obtain ⟨y4,k4⟩:=(opensD_slice Tryz.underlying27 (by kernel_rfl) (by decide) (opensD_int Tryz.underlying3)) g4
 have g5:DataW.trod enc Tryz.prog w 0 sp true n 27 ((cs.drop 5).take (Tryz.prog.cellsOf 27))=xs[5]? := hget 5 _ rfl
 rw [List.getElem?_eq_getElem (by rw [hxl]; decide),z27] at g5
 obtain ⟨y5,k5⟩:=(opensD_slice Tryz.underlying27 (by kernel_rfl) (by decide) (opensD_int Tryz.underlying3)) g5
 have g6:DataW.trod enc Tryz.prog w 0 sp true n 27 ((cs.drop 6).take (Tryz.prog.cellsOf 27))=xs[6]? := hget 6 _ rfl
 rw [List.getElem?_eq_getElem (by rw [hxl]; decide),z27] at g6
 obtain ⟨y6,k6⟩:=(opensD_slice Tryz.underlying27 (by kernel_rfl) (by decide) (opensD_int Tryz.underlying3)) g6
 have g7:DataW.trod enc Tryz.prog w 0 sp true n 27 ((cs.drop 7).take (Tryz.prog.cellsOf 27))=xs[7]? := hget 7 _ rfl
 rw [List.getElem?_eq_getElem (by rw [hxl]; decide),z27] at g7
 obtain ⟨y7,k7⟩:=(opensD_slice Tryz.underlying27 (by kernel_rfl) (by decide) (opensD_int Tryz.underlying3)) g7
 have g8:DataW.trod enc Tryz.prog w 0 sp true n 28 ((cs.drop 8).take (Tryz.prog.cellsOf 28))=xs[8]? := hget 8 _ rfl
 rw [List.getElem?_eq_getElem (by rw [hxl]; decide),z28] at g8
 obtain ⟨y8,k8⟩:=(opensD_slice Tryz.underlying28 (by kernel_rfl) (by decide) opens_dNt) g8
 have g9:DataW.trod enc Tryz.prog w 0 sp true n 27 ((cs.drop 9).take (Tryz.prog.cellsOf 27))=xs[9]? := hget 9 _ rfl
 rw [List.getElem?_eq_getElem (by rw [hxl]; decide),z27] at g9
 obtain ⟨y9,k9⟩:=(opensD_slice Tryz.underlying27 (by kernel_rfl) (by decide) (opensD_int Tryz.underlying3)) g9
 have g10:DataW.trod enc Tryz.prog w 0 sp true n 27 ((cs.drop 10).take (Tryz.prog.cellsOf 27))=xs[10]? := hget 10 _ rfl
 rw [List.getElem?_eq_getElem (by rw [hxl]; decide),z27] at g10
 obtain ⟨y10,k10⟩:=(opensD_slice Tryz.underlying27 (by kernel_rfl) (by decide) (opensD_int Tryz.underlying3)) g10
 have g11:DataW.trod enc Tryz.prog w 0 sp true n 27 ((cs.drop 11).take (Tryz.prog.cellsOf 27))=xs[11]? := hget 11 _ rfl
 rw [List.getElem?_eq_getElem (by rw [hxl]; decide),z27] at g11
 obtain ⟨y11,k11⟩:=(opensD_slice Tryz.underlying27 (by kernel_rfl) (by decide) (opensD_int Tryz.underlying3)) g11
 have g12:DataW.trod enc Tryz.prog w 0 sp true n 27 ((cs.drop 12).take (Tryz.prog.cellsOf 27))=xs[12]? := hget 12 _ rfl
 rw [List.getElem?_eq_getElem (by rw [hxl]; decide),z27] at g12
 obtain ⟨y12,k12⟩:=(opensD_slice Tryz.underlying27 (by kernel_rfl) (by decide) (opensD_int Tryz.underlying3)) g12
 have g13:DataW.trod enc Tryz.prog w 0 sp true n 3 ((cs.drop 13).take (Tryz.prog.cellsOf 3))=xs[13]? := hget 13 _ rfl
 rw [List.getElem?_eq_getElem (by rw [hxl]; decide),z3] at g13
 obtain ⟨y13,k13⟩:=(opensD_int Tryz.underlying3) g13
 have q:cs=(cs.drop 0).take (1+(1+(1+(1+(1+(1+(1+(1+(1+(1+(1+(1+(1+(1)))))))))))))):=wholeL hlen
 exact ⟨⟨y0,y1,y2,y3,y4,y5,y6,y7,y8,y9,y10,y11,y12,y13⟩,_,_,_,_,_,_,_,_,_,_,_,_,_,_,q.trans (cutL.trans (congrArg _ (cutL.trans (congrArg _ (cutL.trans (congrArg _ (cutL.trans (congrArg _ (cutL.trans (congrArg _ (cutL.trans (congrArg _ (cutL.trans (congrArg _ (cutL.trans (congrArg _ (cutL.trans (congrArg _ (cutL.trans (congrArg _ (cutL.trans (congrArg _ (cutL.trans (congrArg _ cutL)))))))))))))))))))))))),k0,k1,k2,k3,k4,k5,k6,k7,k8,k9,k10,k11,k12,k13⟩
theorem bool_true {Z:Nat->Prop} {W:World} {v:Value} (h:Rep U eT (fun _=>none) Z W v (blB true)):v=.bool true:=by
 cases h with | bl=>rfl
theorem agg_of {v:Value} {n:Nat} (h:v.cells.toList.length=n+2):∃ cs:List Value,v=.agg cs.toArray/\v.cells.toList=cs:=by
 cases v with
 | agg cs=>exact ⟨cs.toList,by simp,rfl⟩
 | _=>simp [Value.cells] at h
theorem rep_T {H:Type} {enc:TypeId×Value->H} {W:World} {sp:Nat->Bool} {v:Value} {d:DataW H} {ps:List MemPlace} (h:DataW.Trod enc Tryz.prog W 0 sp true 25 v d ps):∃ y:Tm,Rep U eT (fun _=>none) (fun b=>b<W.heap.size) W v (.agg [.int .i64 y.Day.Year,.int .i64 y.Day.Month,.int .i64 y.Day.Date,.int .i64 y.Hour,.int .i64 y.Min,.int .i64 y.Sec,blB y.Bare,blB y.UTC]):=by
 obtain ⟨n,h⟩:=h
 obtain ⟨y,k⟩:=opens_dTm h
 have k:=Rd.weak (D':=fun b=>b<W.heap.size) _ k (fun _ _ hb=>hb)
 obtain ⟨cs,e1,e2⟩:=agg_of (n:=6) (Rd.len _ k)
 rw [e2] at k
 exact ⟨y,by rw [e1]; exact y25.sv_ok k⟩
theorem rep_R {H:Type} {enc:TypeId×Value->H} {W:World} {sp:Nat->Bool} {v:Value} {d:DataW H} {ps:List MemPlace} (h:DataW.Trod enc Tryz.prog W 0 sp true 30 v d ps):∃ y:Rl,Rep U eT (fun _=>none) (fun b=>b<W.heap.size) W v (.agg [.int .i64 y.Freq,.int .i64 y.Interval,.int .i64 y.Count,.sl (N:=U) 25 y.Until,.sl (N:=U) 3 y.Month,.sl (N:=U) 3 y.WeekNo,.sl (N:=U) 3 y.YearDay,.sl (N:=U) 3 y.MonthDay,.sl (N:=U) 60 y.Days,.sl (N:=U) 3 y.Hour,.sl (N:=U) 3 y.Minute,.sl (N:=U) 3 y.Second,.sl (N:=U) 3 y.SetPos,.int .i64 y.Wkst]):=by
 obtain ⟨n,h⟩:=h
 obtain ⟨y,k⟩:=opens_dRl h
 have k:=Rd.weak (D':=fun b=>b<W.heap.size) _ k (fun _ _ hb=>hb)
 obtain ⟨cs,e1,e2⟩:=agg_of (n:=12) (Rd.len _ k)
 rw [e2] at k
 exact ⟨y,by rw [e1]; exact y30.sv_ok k⟩
end Go.Proofs.YtdjfeninmbpflaaGreat
end
