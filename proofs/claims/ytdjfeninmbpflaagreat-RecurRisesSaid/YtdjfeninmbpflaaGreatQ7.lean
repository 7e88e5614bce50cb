/- 39 texts, one behind the other. -/
import Derived.Test.YtdjfeninmbpflaaGreatQ6
import Derived.Test.YtdjfeninmbpflaaGreatQ4
import Derived.RangeFuncRecord
set_option linter.unusedVariables false
set_option linter.unusedSimpArgs false
set_option maxRecDepth 100000
section
namespace Go.Proofs.YtdjfeninmbpflaaGreat
open Go Go.Wk Go.Wl Go.Rx Go.Re 
attribute [local irreducible] vcFun
def anxF:Nat->Ann:=fun | 21=>⟨63,fun _=>none,fun _=>none⟩ | _=>⟨0,fun _=>none,fun _=>none⟩
def VxF (s:Tm) (r:Rl) (Q:Bool->Prop):Prop :=
(¬¬rightT (Tm.mk (Dy.mk s.Day.Year s.Day.Month s.Day.Date) s.Hour s.Min s.Sec (decide (s.Bare=true)) (decide (s.UTC=true)))=true->fewR (Rl.mk r.Freq r.Interval r.Count r.Until r.Month r.WeekNo r.YearDay r.MonthDay r.Days r.Hour r.Minute r.Second r.SetPos r.Wkst)=true)/\(¬rightT (Tm.mk (Dy.mk s.Day.Year s.Day.Month s.Day.Date) s.Hour s.Min s.Sec (decide (s.Bare=true)) (decide (s.UTC=true)))=true ∨ ¬rightR (Rl.mk r.Freq r.Interval r.Count r.Until r.Month r.WeekNo r.YearDay r.MonthDay r.Days r.Hour r.Minute r.Second r.SetPos r.Wkst)=true->Q false)/\(¬(¬rightT (Tm.mk (Dy.mk s.Day.Year s.Day.Month s.Day.Date) s.Hour s.Min s.Sec (decide (s.Bare=true)) (decide (s.UTC=true)))=true ∨ ¬rightR (Rl.mk r.Freq r.Interval r.Count r.Until r.Month r.WeekNo r.YearDay r.MonthDay r.Days r.Hour r.Minute r.Second r.SetPos r.Wkst)=true)->((0:Int)<(↑r.Until.length:Int)->(0:Int)<=0)/\((0:Int)<(↑r.Until.length:Int)->(0:Int)<(↑r.Until.length:Int))/\(((0:Int)<(↑r.Until.length:Int)->in64 (ix r.Until (0:Int)).Day.Year)->((0:Int)<(↑r.Until.length:Int)->in64 (ix r.Until (0:Int)).Day.Month)->((0:Int)<(↑r.Until.length:Int)->in64 (ix r.Until (0:Int)).Day.Date)->((0:Int)<(↑r.Until.length:Int)->in64 (ix r.Until (0:Int)).Hour)->((0:Int)<(↑r.Until.length:Int)->in64 (ix r.Until (0:Int)).Min)->((0:Int)<(↑r.Until.length:Int)->in64 (ix r.Until (0:Int)).Sec)->((0:Int)<(↑r.Until.length:Int)/\¬¬((ix r.Until (0:Int)).Bare=true↔s.Bare=true)->(0:Int)<=0)/\((0:Int)<(↑r.Until.length:Int)/\¬¬((ix r.Until (0:Int)).Bare=true↔s.Bare=true)->(0:Int)<(↑r.Until.length:Int))/\(((0:Int)<(↑r.Until.length:Int)/\¬¬((ix r.Until (0:Int)).Bare=true↔s.Bare=true)->in64 (ix r.Until (0:Int)).Day.Year)->((0:Int)<(↑r.Until.length:Int)/\¬¬((ix r.Until (0:Int)).Bare=true↔s.Bare=true)->in64 (ix r.Until (0:Int)).Day.Month)->((0:Int)<(↑r.Until.length:Int)/\¬¬((ix r.Until (0:Int)).Bare=true↔s.Bare=true)->in64 (ix r.Until (0:Int)).Day.Date)->((0:Int)<(↑r.Until.length:Int)/\¬¬((ix r.Until (0:Int)).Bare=true↔s.Bare=true)->in64 (ix r.Until (0:Int)).Hour)->((0:Int)<(↑r.Until.length:Int)/\¬¬((ix r.Until (0:Int)).Bare=true↔s.Bare=true)->in64 (ix r.Until (0:Int)).Min)->((0:Int)<(↑r.Until.length:Int)/\¬¬((ix r.Until (0:Int)).Bare=true↔s.Bare=true)->in64 (ix r.Until (0:Int)).Sec)->((0:Int)<(↑r.Until.length:Int)/\(¬((ix r.Until (0:Int)).Bare=true↔s.Bare=true) ∨ ¬((ix r.Until (0:Int)).UTC=true↔s.UTC=true))->Q false)/\(¬((0:Int)<(↑r.Until.length:Int)/\(¬((ix r.Until (0:Int)).Bare=true↔s.Bare=true) ∨ ¬((ix r.Until (0:Int)).UTC=true↔s.UTC=true)))->Q (decide (¬s.Bare=true ∨ ((r.Freq<=3/\(↑r.Hour.length:Int)=0)/\(↑r.Minute.length:Int)=0)/\(↑r.Second.length:Int)=0))))))
theorem VxF_eq {s:Tm} {r:Rl} {Q:Bool->Prop}:@Eq Prop (VxF s r Q) (vcFun (E:=NcF) (inlHN NcF H0 anxF 2) (anxF 21) Tryz.f21 [.agg [.int .i64 s.Day.Year,.int .i64 s.Day.Month,.int .i64 s.Day.Date,.int .i64 s.Hour,.int .i64 s.Min,.int .i64 s.Sec,blB s.Bare,blB s.UTC],.agg [.int .i64 r.Freq,.int .i64 r.Interval,.int .i64 r.Count,.sl (N:=U) 25 r.Until,.sl (N:=U) 3 r.Month,.sl (N:=U) 3 r.WeekNo,.sl (N:=U) 3 r.YearDay,.sl (N:=U) 3 r.MonthDay,.sl (N:=U) 60 r.Days,.sl (N:=U) 3 r.Hour,.sl (N:=U) 3 r.Minute,.sl (N:=U) 3 r.Second,.sl (N:=U) 3 r.SetPos,.int .i64 r.Wkst]] [] [] 0 (resP NcF [.bool] Q)):=by kernel_rfl
theorem VxF_ok {s:Tm} {r:Rl} {Q:Bool->Prop} (h:VxF s r Q):vcFun (E:=NcF) (inlHN NcF H0 anxF 2) (anxF 21) Tryz.f21 [.agg [.int .i64 s.Day.Year,.int .i64 s.Day.Month,.int .i64 s.Day.Date,.int .i64 s.Hour,.int .i64 s.Min,.int .i64 s.Sec,blB s.Bare,blB s.UTC],.agg [.int .i64 r.Freq,.int .i64 r.Interval,.int .i64 r.Count,.sl (N:=U) 25 r.Until,.sl (N:=U) 3 r.Month,.sl (N:=U) 3 r.WeekNo,.sl (N:=U) 3 r.YearDay,.sl (N:=U) 3 r.MonthDay,.sl (N:=U) 60 r.Days,.sl (N:=U) 3 r.Hour,.sl (N:=U) 3 r.Minute,.sl (N:=U) 3 r.Second,.sl (N:=U) 3 r.SetPos,.int .i64 r.Wkst]] [] [] 0 (resP NcF [.bool] Q):=by rw [<- VxF_eq]; exact h
theorem pxF (s:Tm) (r:Rl) (hfw:fewR r=true):VxF s r (fun y0=>y0=fitsS s r):=by
 unfold VxF
 rw [show (Rl.mk r.Freq r.Interval r.Count r.Until r.Month r.WeekNo r.YearDay r.MonthDay r.Days r.Hour r.Minute r.Second r.SetPos r.Wkst)=r from rfl]
 simp only [Bool.decide_eq_true]
 refine ⟨fun _=>hfw,fun h=>fits_no fun F=>h.elim (fun h=>h F.rt) fun h=>h F.rr,fun h=>?_⟩
 have rt:rightT s=true:=Classical.not_not.1 fun hn=>h (.inl hn)
 have rr:rightR r=true:=Classical.not_not.1 fun hn=>h (.inr hn)
 refine ⟨fun _=>by decide,fun h=>h,fun _ _ _ _ _ _=>⟨fun _=>by decide,fun h=>h.1,fun _ _ _ _ _ _=>⟨fun hn=>fits_no fun F=>?_,fun hn=>?_⟩⟩⟩
 . obtain ⟨a,b⟩:=F.un hn.1
   exact hn.2.elim (fun h=>h a) fun h=>h b
 . refine Bool.eq_iff_iff.2 (Iff.trans decide_eq_true_iff (Iff.trans ?_ fits_iff.symm))
   constructor
   . intro hb
     exact ⟨rt,rr,fun h0=>⟨Classical.not_not.1 fun h=>hn ⟨h0,.inl h⟩,Classical.not_not.1 fun h=>hn ⟨h0,.inr h⟩⟩,fun hs=>by rcases hb with hb | ⟨⟨⟨h1,h2⟩,h3⟩,h4⟩; exact absurd hs hb; exact ⟨h1,h2,h3,h4⟩⟩
   . intro F
     by_cases hs:s.Bare=true
     . obtain ⟨a,b,c,d⟩:=F.ba hs
       exact .inr ⟨⟨⟨a,b⟩,c⟩,d⟩
     . exact .inl hs
noncomputable def cxFs (s:Tm) (r:Rl):Q1 U:=⟨[fewR r=true],[],blB (fitsS s r)⟩
noncomputable def cxF (a:List (SV U)):Option (Q1 U):=match a with | [.agg l_s,.agg l_r]=>(y25.bk (.agg l_s)).bind fun s=>(y30.bk (.agg l_r)).bind fun r=>some (cxFs s r) | _=>none
theorem cxF_ok (args:List (SV U)) (q:Q1 U) (h:cxF args=some q) (ho:allP q.ob):LendOK NcF 21 args ⟨q.ob,q.hy,q.v,[]⟩:=by
 unfold cxF at h
 split at h
 . rename_i l_s l_r
   obtain ⟨s,hb_s,h⟩:=Option.bind_eq_some_iff.1 h
   obtain ⟨r,hb_r,h⟩:=Option.bind_eq_some_iff.1 h
   cases h
   refine LendOK.conv (E:=NcF) (args':=[.agg [.int .i64 s.Day.Year,.int .i64 s.Day.Month,.int .i64 s.Day.Date,.int .i64 s.Hour,.int .i64 s.Min,.int .i64 s.Sec,blB s.Bare,blB s.UTC],.agg [.int .i64 r.Freq,.int .i64 r.Interval,.int .i64 r.Count,.sl 25 r.Until,.sl 3 r.Month,.sl 3 r.WeekNo,.sl 3 r.YearDay,.sl 3 r.MonthDay,.sl 60 r.Days,.sl 3 r.Hour,.sl 3 r.Minute,.sl 3 r.Second,.sl 3 r.SetPos,.int .i64 r.Wkst]]) (lend1 NcF_ok (inlHN_ok NcF_ok H0_ok anxF 2) Tryz.func21 (k:=.bool) trivial (VxF_ok (pxF s r ho.1)) 0) fun D w vs hr=>tup_conv [.agg l_s,.agg l_r] [.agg [.int .i64 s.Day.Year,.int .i64 s.Day.Month,.int .i64 s.Day.Date,.int .i64 s.Hour,.int .i64 s.Min,.int .i64 s.Sec,blB s.Bare,blB s.UTC],.agg [.int .i64 r.Freq,.int .i64 r.Interval,.int .i64 r.Count,.sl (N:=U) 25 r.Until,.sl (N:=U) 3 r.Month,.sl (N:=U) 3 r.WeekNo,.sl (N:=U) 3 r.YearDay,.sl (N:=U) 3 r.MonthDay,.sl (N:=U) 60 r.Days,.sl (N:=U) 3 r.Hour,.sl (N:=U) 3 r.Minute,.sl (N:=U) 3 r.Second,.sl (N:=U) 3 r.SetPos,.int .i64 r.Wkst]] _ ⟨fun _ h=>agg_conv25 hb_s h,fun _ h=>agg_conv30 hb_r h,trivial⟩ hr
 . cases h
noncomputable def NxF:Env:=NcF.addL 21 cxF
theorem NxF_ok:EnvOK NxF:=NcF_ok.addL Tryz.call21 cxF_ok
end Go.Proofs.YtdjfeninmbpflaaGreat
end
section
namespace Go.Proofs.YtdjfeninmbpflaaGreat
open Go Go.Wk Go.Wl Go.Rx Go.Re 
attribute [local irreducible] vcFun
def anch:Nat->Ann:=fun | 81=>⟨18,fun _=>none,fun _=>none⟩ | _=>⟨0,fun _=>none,fun _=>none⟩
def Vch (l:List Int) (n:Int) (a:Int) (Q:Bool->Prop):Prop :=
l.length<=1000000/\(¬hasN l n=true->in64 (n-a))/\(¬hasN l n=true->in64 (n-a-1))/\(¬hasN l n=true->l.length<=1000000)/\Q (decide (hasN l n=true ∨ hasN l (n-a-1)=true))
theorem Vch_eq {l:List Int} {n:Int} {a:Int} {Q:Bool->Prop}:@Eq Prop (Vch l n a Q) (vcFun (E:=NxF) (inlHN NxF H0 anch 2) (anch 81) Tryz.f81 [.sl (N:=U) 3 l,.int .i64 n,.int .i64 a] [] [] 0 (resP NxF [.bool] Q)):=by kernel_rfl
theorem Vch_ok {l:List Int} {n:Int} {a:Int} {Q:Bool->Prop} (h:Vch l n a Q):vcFun (E:=NxF) (inlHN NxF H0 anch 2) (anch 81) Tryz.f81 [.sl (N:=U) 3 l,.int .i64 n,.int .i64 a] [] [] 0 (resP NxF [.bool] Q):=by rw [<- Vch_eq]; exact h
theorem pch (l:List Int) (n:Int) (a:Int) (hl:l.length<=1000000) (n0:-10000000<=n) (n1:n<=10000000) (a0:-10000000<=a) (a1:a<=10000000):Vch l n a (fun y0=>y0=Re.hasE l n a):=by
 unfold Vch Re.hasE
 refine ⟨hl,fun _=>⟨by omega,by omega⟩,fun _=>⟨by omega,by omega⟩,fun _=>hl,dec_eq ?_⟩
 rw [Bool.or_eq_true]
def cch (a:List (SV U)):Option (Q1 U):=match a with | [.sl 3 l,.int .i64 n,.int .i64 a]=>some ⟨[List.length (α:=Int) l<=1000000,-10000000<=n,n<=10000000,-10000000<=a,a<=10000000],[],blB (Re.hasE l n a)⟩ | _=>none
theorem cch_ok (args:List (SV U)) (q:Q1 U) (h:cch args=some q) (ho:allP q.ob):LendOK NxF 81 args ⟨q.ob,q.hy,q.v,[]⟩:=by
 unfold cch at h
 split at h
 . rename_i l n a
   cases h
   exact lend1 NxF_ok (inlHN_ok NxF_ok H0_ok anch 2) Tryz.func81 (k:=.bool) (x:=Re.hasE l n a) trivial (Vch_ok (pch l n a ho.1 ho.2.1 ho.2.2.1 ho.2.2.2.1 ho.2.2.2.2.1)) 0
 . cases h
noncomputable def Nch:Env:=NxF.addL 81 cch
theorem Nch_ok:EnvOK Nch:=NxF_ok.addL Tryz.call81 cch_ok
end Go.Proofs.YtdjfeninmbpflaaGreat
end
section
namespace Go.Proofs.YtdjfeninmbpflaaGreat
open Go Go.Wk Go.Wl Go.Rx Go.Re 
attribute [local irreducible] vcFun
def anci:Nat->Ann:=fun | 45=>⟨53,fun _=>none,fun _=>none⟩ | _=>⟨0,fun _=>none,fun _=>none⟩
def Vci (x:Lk) (t:Int) (Q:Int->Prop):Prop :=
(86400:Int)≠0/\in64 (t.tdiv (86400:Int))/\in64 (t.tdiv (86400:Int)+1)/\((ix [x] (0:Int)).Rule.Freq=0->Q (ofS (t.tdiv (86400:Int)+1)).Year)/\(¬(ix [x] (0:Int)).Rule.Freq=0->((ix [x] (0:Int)).Rule.Freq=1->in64 ((12:Int) * (ofS (t.tdiv (86400:Int)+1)).Year)/\in64 ((12:Int) * (ofS (t.tdiv (86400:Int)+1)).Year+(ofS (t.tdiv (86400:Int)+1)).Month)/\in64 ((12:Int) * (ofS (t.tdiv (86400:Int)+1)).Year+(ofS (t.tdiv (86400:Int)+1)).Month-1)/\Q ((12:Int) * (ofS (t.tdiv (86400:Int)+1)).Year+(ofS (t.tdiv (86400:Int)+1)).Month-1))/\(¬(ix [x] (0:Int)).Rule.Freq=1->((ix [x] (0:Int)).Rule.Freq=2->in64 (t.tdiv (86400:Int)+1+6)/\in64 (t.tdiv (86400:Int)+1+6-(ix [x] (0:Int)).Rule.Wkst)/\(7:Int)≠0/\in64 ((t.tdiv (86400:Int)+1+6-(ix [x] (0:Int)).Rule.Wkst).tdiv (7:Int))/\Q ((t.tdiv (86400:Int)+1+6-(ix [x] (0:Int)).Rule.Wkst).tdiv (7:Int)))/\(¬(ix [x] (0:Int)).Rule.Freq=2->((ix [x] (0:Int)).Rule.Freq=3->Q (t.tdiv (86400:Int)+1))/\(¬(ix [x] (0:Int)).Rule.Freq=3->((ix [x] (0:Int)).Rule.Freq=4->(3600:Int)≠0/\in64 (t.tdiv (3600:Int))/\Q (t.tdiv (3600:Int)))/\(¬(ix [x] (0:Int)).Rule.Freq=4->((ix [x] (0:Int)).Rule.Freq=5->(60:Int)≠0/\in64 (t.tdiv (60:Int))/\Q (t.tdiv (60:Int)))/\(¬(ix [x] (0:Int)).Rule.Freq=5->Q t))))))
theorem Vci_eq {x:Lk} {t:Int} {Q:Int->Prop}:@Eq Prop (Vci x t Q) (vcFun (E:=Nch) (inlHN Nch H0 anci 2) (anci 45) Tryz.f45 [.fel (N:=U) 85 [x] 0 0,.int .i64 t] [] [] 0 (resP Nch [.int .i64] Q)):=by kernel_rfl
theorem Vci_ok {x:Lk} {t:Int} {Q:Int->Prop} (h:Vci x t Q):vcFun (E:=Nch) (inlHN Nch H0 anci 2) (anci 45) Tryz.f45 [.fel (N:=U) 85 [x] 0 0,.int .i64 t] [] [] 0 (resP Nch [.int .i64] Q):=by rw [<- Vci_eq]; exact h
theorem pci (x:Lk) (t:Int) (t0:0<=t) (t1:t<=400000000000) (w0:0<=x.Rule.Wkst) (w1:x.Rule.Wkst<=6):Vci x t (fun y0=>y0=idxP x.Rule t):=by
 unfold Vci idxP idxR
 have ex:ix [x] 0=x:=rfl
 rw [ex]
 have e0:t.tdiv 86400=t / 86400:=Int.tdiv_eq_ediv_of_nonneg t0
 have e1:t.tdiv 3600=t / 3600:=Int.tdiv_eq_ediv_of_nonneg t0
 have e2:t.tdiv 60=t / 60:=Int.tdiv_eq_ediv_of_nonneg t0
 have e3:(t / 86400+1+6-x.Rule.Wkst).tdiv 7=(t / 86400+1+6-x.Rule.Wkst) / 7:=Int.tdiv_eq_ediv_of_nonneg (by omega)
 rw [e0,e1,e2,e3]
 obtain ⟨y,m,_⟩:=of_rg (t / 86400+1)
 refine ⟨by decide,⟨by omega,by omega⟩,⟨by omega,by omega⟩,fun h=>by rw [if_pos h,if_neg (by omega)]; omega,fun h0=>⟨fun h=>⟨⟨by omega,by omega⟩,⟨by omega,by omega⟩,⟨by omega,by omega⟩,by rw [if_neg h0,if_pos h,if_pos h]⟩,fun h1=>⟨fun h=>⟨⟨by omega,by omega⟩,⟨by omega,by omega⟩,by decide,⟨by omega,by omega⟩,by rw [if_neg h0,if_neg h1,if_pos h,if_neg h1]; omega⟩,fun h2=>⟨fun h=>by rw [if_neg h0,if_neg h1,if_neg h2,if_pos h,if_neg h1]; omega,fun h3=>⟨fun h=>⟨by decide,⟨by omega,by omega⟩,by rw [if_neg h0,if_neg h1,if_neg h2,if_neg h3,if_pos h,if_neg h1]; omega⟩,fun h4=>⟨fun h=>⟨by decide,⟨by omega,by omega⟩,by rw [if_neg h0,if_neg h1,if_neg h2,if_neg h3,if_neg h4,if_pos h,if_neg h1]; omega⟩,fun h5=>by rw [if_neg h0,if_neg h1,if_neg h2,if_neg h3,if_neg h4,if_neg h5,if_neg h1]; omega⟩⟩⟩⟩⟩⟩
def cci (a:List (SV U)):Option (Q1 U):=match a with | [.fel 85 [x] 0 0,.int .i64 t]=>some ⟨[0<=t,t<=400000000000,0<=x.Rule.Wkst,x.Rule.Wkst<=6],[],.int .i64 (idxP x.Rule t)⟩ | _=>none
theorem cci_ok (args:List (SV U)) (q:Q1 U) (h:cci args=some q) (ho:allP q.ob):LendOK Nch 45 args ⟨q.ob,q.hy,q.v,[]⟩:=by
 unfold cci at h
 split at h
 . rename_i x t
   cases h
   exact lend1 Nch_ok (inlHN_ok Nch_ok H0_ok anci 2) Tryz.func45 (k:=.int .i64) (x:=idxP x.Rule t) trivial (Vci_ok (pci x t ho.1 ho.2.1 ho.2.2.1 ho.2.2.2.1)) 0
 . cases h
noncomputable def Nci:Env:=Nch.addL 45 cci
theorem Nci_ok:EnvOK Nci:=Nch_ok.addL Tryz.call45 cci_ok
end Go.Proofs.YtdjfeninmbpflaaGreat
end
section
namespace Go.Proofs.YtdjfeninmbpflaaGreat
open Go Go.Wk Go.Wl Go.Rx Go.Re 
attribute [local irreducible] vcFun
def ancb:Nat->Ann:=fun | 57=>⟨61,fun _=>none,fun _=>none⟩ | _=>⟨0,fun _=>none,fun _=>none⟩
def Vcb (x:Lk) (i:Int) (Q:Int->Prop):Prop :=
((ix [x] (0:Int)).Rule.Freq=0->(numS (Dy.mk i (1:Int) (1:Int))=0 ∨ (3652059:Int)<numS (Dy.mk i (1:Int) (1:Int))->Q (315537897600:Int))/\(¬(numS (Dy.mk i (1:Int) (1:Int))=0 ∨ (3652059:Int)<numS (Dy.mk i (1:Int) (1:Int)))->in64 (numS (Dy.mk i (1:Int) (1:Int))-1)/\in64 ((numS (Dy.mk i (1:Int) (1:Int))-1) * 86400)/\Q ((numS (Dy.mk i (1:Int) (1:Int))-1) * 86400)))/\(¬(ix [x] (0:Int)).Rule.Freq=0->((ix [x] (0:Int)).Rule.Freq=1->(12:Int)≠0/\in64 (i.tdiv (12:Int))/\(12:Int)≠0/\in64 (i.tmod (12:Int)+1)/\(numS (Dy.mk (i.tdiv (12:Int)) (i.tmod (12:Int)+1) (1:Int))=0 ∨ (3652059:Int)<numS (Dy.mk (i.tdiv (12:Int)) (i.tmod (12:Int)+1) (1:Int))->Q (315537897600:Int))/\(¬(numS (Dy.mk (i.tdiv (12:Int)) (i.tmod (12:Int)+1) (1:Int))=0 ∨ (3652059:Int)<numS (Dy.mk (i.tdiv (12:Int)) (i.tmod (12:Int)+1) (1:Int)))->in64 (numS (Dy.mk (i.tdiv (12:Int)) (i.tmod (12:Int)+1) (1:Int))-1)/\in64 ((numS (Dy.mk (i.tdiv (12:Int)) (i.tmod (12:Int)+1) (1:Int))-1) * 86400)/\Q ((numS (Dy.mk (i.tdiv (12:Int)) (i.tmod (12:Int)+1) (1:Int))-1) * 86400)))/\(¬(ix [x] (0:Int)).Rule.Freq=1->((ix [x] (0:Int)).Rule.Freq=2->in64 ((7:Int) * i)/\in64 ((7:Int) * i-6)/\in64 ((7:Int) * i-6+(ix [x] (0:Int)).Rule.Wkst)/\(((bif true then max (1:Int) ((7:Int) * i-6+(ix [x] (0:Int)).Rule.Wkst) else min (1:Int) ((7:Int) * i-6+(ix [x] (0:Int)).Rule.Wkst))=0 ∨ (3652059:Int)<bif true then max (1:Int) ((7:Int) * i-6+(ix [x] (0:Int)).Rule.Wkst) else min (1:Int) ((7:Int) * i-6+(ix [x] (0:Int)).Rule.Wkst))->Q (315537897600:Int))/\(¬((bif true then max (1:Int) ((7:Int) * i-6+(ix [x] (0:Int)).Rule.Wkst) else min (1:Int) ((7:Int) * i-6+(ix [x] (0:Int)).Rule.Wkst))=0 ∨ (3652059:Int)<bif true then max (1:Int) ((7:Int) * i-6+(ix [x] (0:Int)).Rule.Wkst) else min (1:Int) ((7:Int) * i-6+(ix [x] (0:Int)).Rule.Wkst))->in64 ((bif true then max (1:Int) ((7:Int) * i-6+(ix [x] (0:Int)).Rule.Wkst) else min (1:Int) ((7:Int) * i-6+(ix [x] (0:Int)).Rule.Wkst))-1)/\in64 (((bif true then max (1:Int) ((7:Int) * i-6+(ix [x] (0:Int)).Rule.Wkst) else min (1:Int) ((7:Int) * i-6+(ix [x] (0:Int)).Rule.Wkst))-1) * 86400)/\Q (((bif true then max (1:Int) ((7:Int) * i-6+(ix [x] (0:Int)).Rule.Wkst) else min (1:Int) ((7:Int) * i-6+(ix [x] (0:Int)).Rule.Wkst))-1) * 86400)))/\(¬(ix [x] (0:Int)).Rule.Freq=2->((ix [x] (0:Int)).Rule.Freq=3->(i=0 ∨ (3652059:Int)<i->Q (315537897600:Int))/\(¬(i=0 ∨ (3652059:Int)<i)->in64 (i-1)/\in64 ((i-1) * 86400)/\Q ((i-1) * 86400)))/\(¬(ix [x] (0:Int)).Rule.Freq=3->((ix [x] (0:Int)).Rule.Freq=4->in64 ((bif false then max i (87649416:Int) else min i (87649416:Int)) * 3600)/\Q ((bif false then max i (87649416:Int) else min i (87649416:Int)) * 3600))/\(¬(ix [x] (0:Int)).Rule.Freq=4->((ix [x] (0:Int)).Rule.Freq=5->in64 ((bif false then max i (5258964960:Int) else min i (5258964960:Int)) * 60)/\Q ((bif false then max i (5258964960:Int) else min i (5258964960:Int)) * 60))/\(¬(ix [x] (0:Int)).Rule.Freq=5->Q (bif false then max i (315537897600:Int) else min i (315537897600:Int))))))))
theorem Vcb_eq {x:Lk} {i:Int} {Q:Int->Prop}:@Eq Prop (Vcb x i Q) (vcFun (E:=Nci) (inlHN Nci H0 ancb 2) (ancb 57) Tryz.f57 [.fel (N:=U) 85 [x] 0 0,.int .i64 i] [] [] 0 (resP Nci [.int .i64] Q)):=by kernel_rfl
theorem Vcb_ok {x:Lk} {i:Int} {Q:Int->Prop} (h:Vcb x i Q):vcFun (E:=Nci) (inlHN Nci H0 ancb 2) (ancb 57) Tryz.f57 [.fel (N:=U) 85 [x] 0 0,.int .i64 i] [] [] 0 (resP Nci [.int .i64] Q):=by rw [<- Vcb_eq]; exact h
set_option maxHeartbeats 2000000 in
theorem pcb (x:Lk) (i:Int) (i0:0<=i) (i1:i<=1000000000000) (w0:0<=x.Rule.Wkst) (w1:x.Rule.Wkst<=6):Vcb x i (fun y0=>y0=begP x.Rule i):=by
 unfold Vcb begP
 have ex:ix [x] 0=x:=rfl
 rw [ex]
 have b0:∀ a b:Int,(bif false then max a b else min a b)=min a b:=fun _ _=>rfl
 have b1:∀ a b:Int,(bif true then max a b else min a b)=max a b:=fun _ _=>rfl
 have e0:i.tdiv 12=i / 12:=Int.tdiv_eq_ediv_of_nonneg i0
 have e1:i.tmod 12=i % 12:=Int.tmod_eq_emod_of_nonneg i0
 simp only [b0,b1,e0,e1]
 have n1:=num_rg0 ⟨i,1,1⟩
 have n2:=num_rg0 ⟨i / 12,i % 12+1,1⟩
 have nb:∀ n:Int,(n=0 ∨ 3652059<n->(315537897600:Int)=nbP n)/\(¬ (n=0 ∨ 3652059<n)->(n-1) * 86400=nbP n):=fun n=>by
  unfold nbP
  exact ⟨fun h=>by rw [if_pos h],fun h=>by rw [if_neg h]⟩
 refine ⟨fun h=>?_,fun h0=>⟨fun h=>⟨by decide,⟨by omega,by omega⟩,by decide,⟨by omega,by omega⟩,?_,?_⟩,fun h1=>⟨fun h=>⟨⟨by omega,by omega⟩,⟨by omega,by omega⟩,⟨by omega,by omega⟩,?_,?_⟩,fun h2=>⟨fun h=>⟨?_,?_⟩,fun h3=>⟨fun h=>⟨⟨by omega,by omega⟩,?_⟩,fun h4=>⟨fun h=>⟨⟨by omega,by omega⟩,?_⟩,fun h5=>?_⟩⟩⟩⟩⟩⟩
 . rw [if_pos h]; exact ⟨(nb _).1,fun hn=>⟨⟨by omega,by omega⟩,⟨by omega,by omega⟩,(nb _).2 hn⟩⟩
 . rw [if_neg h0,if_pos h]; exact (nb _).1
 . rw [if_neg h0,if_pos h]; exact fun hn=>⟨⟨by omega,by omega⟩,⟨by omega,by omega⟩,(nb _).2 hn⟩
 . rw [if_neg h0,if_neg h1,if_pos h]; exact (nb _).1
 . rw [if_neg h0,if_neg h1,if_pos h]; exact fun hn=>⟨⟨by omega,by omega⟩,⟨by omega,by omega⟩,(nb _).2 hn⟩
 . rw [if_neg h0,if_neg h1,if_neg h2,if_pos h]; exact (nb _).1
 . rw [if_neg h0,if_neg h1,if_neg h2,if_pos h]; exact fun hn=>⟨⟨by omega,by omega⟩,⟨by omega,by omega⟩,(nb _).2 hn⟩
 . rw [if_neg h0,if_neg h1,if_neg h2,if_neg h3,if_pos h]
 . rw [if_neg h0,if_neg h1,if_neg h2,if_neg h3,if_neg h4,if_pos h]
 . rw [if_neg h0,if_neg h1,if_neg h2,if_neg h3,if_neg h4,if_neg h5]
def ccb (a:List (SV U)):Option (Q1 U):=match a with | [.fel 85 [x] 0 0,.int .i64 i]=>some ⟨[0<=i,i<=1000000000000,0<=x.Rule.Wkst,x.Rule.Wkst<=6],[],.int .i64 (begP x.Rule i)⟩ | _=>none
theorem ccb_ok (args:List (SV U)) (q:Q1 U) (h:ccb args=some q) (ho:allP q.ob):LendOK Nci 57 args ⟨q.ob,q.hy,q.v,[]⟩:=by
 unfold ccb at h
 split at h
 . rename_i x i
   cases h
   exact lend1 Nci_ok (inlHN_ok Nci_ok H0_ok ancb 2) Tryz.func57 (k:=.int .i64) (x:=begP x.Rule i) trivial (Vcb_ok (pcb x i ho.1 ho.2.1 ho.2.2.1 ho.2.2.2.1)) 0
 . cases h
noncomputable def Ncb:Env:=Nci.addL 57 ccb
theorem Ncb_ok:EnvOK Ncb:=Nci_ok.addL Tryz.call57 ccb_ok
end Go.Proofs.YtdjfeninmbpflaaGreat
end
section
namespace Go.Proofs.YtdjfeninmbpflaaGreat
open Go Go.Wk Go.Wl Go.Rx Go.Re 
attribute [local irreducible] vcFun
def ancl:Nat->Ann:=fun | 85=>⟨68,fun _=>none,fun _=>none⟩ | _=>⟨0,fun _=>none,fun _=>none⟩
def Vcl (x:Lk) (d:Dy) (n:Int) (Q:Bool->Prop):Prop :=
((0:Int)<(↑(ix [x] (0:Int)).Rule.WeekNo.length:Int)->Q (decide (wdS n=wdS (ix [x] (0:Int)).day)))/\(¬(0:Int)<(↑(ix [x] (0:Int)).Rule.WeekNo.length:Int)->((ix [x] (0:Int)).Rule.Freq=0->((↑(ix [x] (0:Int)).Rule.Month.length:Int)=0/\d.Month≠(ix [x] (0:Int)).start.Day.Month->Q false)/\(¬((↑(ix [x] (0:Int)).Rule.Month.length:Int)=0/\d.Month≠(ix [x] (0:Int)).start.Day.Month)->Q (decide (d.Date=(ix [x] (0:Int)).start.Day.Date))))/\(¬(ix [x] (0:Int)).Rule.Freq=0->((ix [x] (0:Int)).Rule.Freq=1->Q (decide (d.Date=(ix [x] (0:Int)).start.Day.Date)))/\(¬(ix [x] (0:Int)).Rule.Freq=1->((ix [x] (0:Int)).Rule.Freq=2->Q (decide (wdS n=wdS (ix [x] (0:Int)).day)))/\(¬(ix [x] (0:Int)).Rule.Freq=2->Q true))))
theorem Vcl_eq {x:Lk} {d:Dy} {n:Int} {Q:Bool->Prop}:@Eq Prop (Vcl x d n Q) (vcFun (E:=Ncb) (inlHN Ncb H0 ancl 2) (ancl 85) Tryz.f85 [.fel (N:=U) 85 [x] 0 0,.agg [.int .i64 d.Year,.int .i64 d.Month,.int .i64 d.Date],.int .i64 n] [] [] 0 (resP Ncb [.bool] Q)):=by kernel_rfl
theorem Vcl_ok {x:Lk} {d:Dy} {n:Int} {Q:Bool->Prop} (h:Vcl x d n Q):vcFun (E:=Ncb) (inlHN Ncb H0 ancl 2) (ancl 85) Tryz.f85 [.fel (N:=U) 85 [x] 0 0,.agg [.int .i64 d.Year,.int .i64 d.Month,.int .i64 d.Date],.int .i64 n] [] [] 0 (resP Ncb [.bool] Q):=by rw [<- Vcl_eq]; exact h
theorem pcl (x:Lk) (d:Dy) (n:Int) (hd:d=ofS n) (f0:0<=x.Rule.Freq):Vcl x d n (fun y0=>y0=decide (LikeP x.start x.Rule x.day n)):=by
 unfold Vcl
 have ex:ix [x] 0=x:=rfl
 rw [ex]
 subst hd
 refine ⟨fun h=>decide_eq_decide.2 (by unfold LikeP; rw [if_pos h]),fun h=>?_⟩
 have key:∀ {p:Prop} [Decidable p],(p↔LikeP x.start x.Rule x.day n)->decide p=decide (LikeP x.start x.Rule x.day n):=fun h=>decide_eq_decide.2 h
 have e:LikeP x.start x.Rule x.day n↔¬ (((x.Rule.Freq<=1/\(ofS n).Date≠x.start.Day.Date) ∨ ((x.Rule.Freq=0/\(x.Rule.Month.length:Int)=0)/\(ofS n).Month≠x.start.Day.Month)))/\(x.Rule.Freq≠2 ∨ wdS n=wdS x.day):=by
  unfold LikeP; rw [if_neg h]
 refine ⟨fun h0=>⟨fun hm=>(decide_eq_false fun hl=>(e.1 hl).1 (.inr ⟨⟨h0,hm.1⟩,hm.2⟩)).symm,fun hm=>key ?_⟩,fun h0=>⟨fun h1=>key ?_,fun h1=>⟨fun h2=>key ?_,fun h2=>(decide_eq_true (e.2 ⟨by omega,.inl h2⟩)).symm⟩⟩⟩
 . rw [e]
   exact ⟨fun hh=>⟨fun ho=>by rcases ho with ⟨_,ho⟩ | ⟨⟨_,a⟩,b⟩; exact ho hh; exact hm ⟨a,b⟩,.inl (by omega)⟩,fun hh=>Classical.not_not.1 fun ho=>hh.1 (.inl ⟨by omega,ho⟩)⟩
 . rw [e]
   exact ⟨fun hh=>⟨fun ho=>by rcases ho with ⟨_,ho⟩ | ⟨⟨a,_⟩,_⟩; exact ho hh; exact h0 a,.inl (by omega)⟩,fun hh=>Classical.not_not.1 fun ho=>hh.1 (.inl ⟨by omega,ho⟩)⟩
 . rw [e]
   exact ⟨fun hh=>⟨by omega,.inr hh⟩,fun hh=>hh.2.resolve_left fun ho=>ho h2⟩
def ccls (x:Lk) (d:Dy) (n:Int):Q1 U:=⟨[d=ofS n,0<=x.Rule.Freq],[],blB (decide (LikeP x.start x.Rule x.day n))⟩
def ccl (a:List (SV U)):Option (Q1 U):=match a with | [.fel 85 [x] 0 0,.agg [.int .i64 d0,.int .i64 d1,.int .i64 d2],.int .i64 n]=>some (ccls x (⟨d0,d1,d2⟩) n) | _=>none
theorem ccl_ok (args:List (SV U)) (q:Q1 U) (h:ccl args=some q) (ho:allP q.ob):LendOK Ncb 85 args ⟨q.ob,q.hy,q.v,[]⟩:=by
 unfold ccl at h
 split at h
 . rename_i x d0 d1 d2 n
   cases h
   exact lend1 Ncb_ok (inlHN_ok Ncb_ok H0_ok ancl 2) Tryz.func85 (k:=.bool) (x:=decide (LikeP x.start x.Rule x.day n)) trivial (Vcl_ok (pcl x (⟨d0,d1,d2⟩) n ho.1 ho.2.1)) 0
 . cases h
noncomputable def Ncl:Env:=Ncb.addL 85 ccl
theorem Ncl_ok:EnvOK Ncl:=Ncb_ok.addL Tryz.call85 ccl_ok
end Go.Proofs.YtdjfeninmbpflaaGreat
end
section
namespace Go.Proofs.YtdjfeninmbpflaaGreat
open Go Go.Wk Go.Wl Go.Rx Go.Re 
noncomputable def NI105:Env:=Ncl.addI 105 Tryz.f105
theorem NI105_ok:EnvOK NI105:=Ncl_ok.addI Tryz.call105 Tryz.func105
noncomputable def NI114:Env:=NI105.addI 114 Tryz.f114
theorem NI114_ok:EnvOK NI114:=NI105_ok.addI Tryz.call114 Tryz.func114
noncomputable def NI106:Env:=NI114.addI 106 Tryz.f106
theorem NI106_ok:EnvOK NI106:=NI114_ok.addI Tryz.call106 Tryz.func106
end Go.Proofs.YtdjfeninmbpflaaGreat
end
section
namespace Go.Proofs.YtdjfeninmbpflaaGreat
open Go Go.Wk Go.Wl Go.Rx Go.Re 
attribute [local irreducible] vcFun
def ancw:Nat->Ann:=fun | 84=>⟨55,fun _=>none,fun | 4=>some ⟨[0,6],[.slot 9 (.int .i64),.slot 10 (.int .i64)]⟩ | _=>none⟩ | 105=>⟨9,fun _=>none,fun _=>none⟩ | 114=>⟨19,fun | 2=>some ⟨[0,1,7],[.slot 8 (.int .i64)]⟩ | _=>none,fun _=>none⟩ | 106=>⟨28,fun _=>none,fun _=>none⟩ | _=>⟨0,fun _=>none,fun _=>none⟩
def Vcw (x:Lk) (d:Dy) (n:Int) (lg:Int) (Q:Bool->Prop):Prop :=
∃ (J:Int->Int->Prop),(((ix [x] (0:Int)).Rule.Freq=1 ∨ (0:Int)<(↑(ix [x] (0:Int)).Rule.Month.length:Int)->J d.Date (longS d.Year d.Month))/\(¬((ix [x] (0:Int)).Rule.Freq=1 ∨ (0:Int)<(↑(ix [x] (0:Int)).Rule.Month.length:Int))->J (ydS (Dy.mk d.Year d.Month d.Date)) lg))/\∀ (x_1 x_2:Int),J x_1 x_2->in64 (x_1-1)/\(7:Int)≠0/\in64 ((x_1-1).tdiv (7:Int))/\in64 ((x_1-1).tdiv (7:Int)+1)/\in64 (x_2-x_1)/\(7:Int)≠0/\in64 ((x_2-x_1).tdiv (7:Int))/\in64 ((x_2-x_1).tdiv (7:Int)+1)/\in64 ((0:Int)-((x_2-x_1).tdiv (7:Int)+1))/\∃ (I:Int->Prop),∃ (m:Int->Nat),I (0:Int)/\∀ (x_3:Int),I x_3->(x_3<(↑(ix [x] (0:Int)).Rule.Days.length:Int)->(0:Int)<=x_3/\x_3<(↑(ix [x] (0:Int)).Rule.Days.length:Int)/\(in64 (ix (ix [x] (0:Int)).Rule.Days x_3).N->in64 (ix (ix [x] (0:Int)).Rule.Days x_3).Day->((ix (ix [x] (0:Int)).Rule.Days x_3).Day=wdS n/\(((ix (ix [x] (0:Int)).Rule.Days x_3).N=0 ∨ (ix (ix [x] (0:Int)).Rule.Days x_3).N=(x_1-1).tdiv (7:Int)+1) ∨ (ix (ix [x] (0:Int)).Rule.Days x_3).N=(0:Int)-((x_2-x_1).tdiv (7:Int)+1))->Q (decide ((0:Int)<=x_3)))/\(¬((ix (ix [x] (0:Int)).Rule.Days x_3).Day=wdS n/\(((ix (ix [x] (0:Int)).Rule.Days x_3).N=0 ∨ (ix (ix [x] (0:Int)).Rule.Days x_3).N=(x_1-1).tdiv (7:Int)+1) ∨ (ix (ix [x] (0:Int)).Rule.Days x_3).N=(0:Int)-((x_2-x_1).tdiv (7:Int)+1)))->in64 (x_3+1)/\I (x_3+1)/\m (x_3+1)<m x_3)))/\(¬x_3<(↑(ix [x] (0:Int)).Rule.Days.length:Int)->Q (decide ((0:Int)<=(-1:Int))))
theorem Vcw_eq {x:Lk} {d:Dy} {n:Int} {lg:Int} {Q:Bool->Prop}:@Eq Prop (Vcw x d n lg Q) (vcFun (E:=NI106) (inlHN NI106 H0 ancw 4) (ancw 84) Tryz.f84 [.fel (N:=U) 85 [x] 0 0,.agg [.int .i64 d.Year,.int .i64 d.Month,.int .i64 d.Date],.int .i64 n,.int .i64 lg] [] [] 0 (resP NI106 [.bool] Q)):=by kernel_rfl
theorem Vcw_ok {x:Lk} {d:Dy} {n:Int} {lg:Int} {Q:Bool->Prop} (h:Vcw x d n lg Q):vcFun (E:=NI106) (inlHN NI106 H0 ancw 4) (ancw 84) Tryz.f84 [.fel (N:=U) 85 [x] 0 0,.agg [.int .i64 d.Year,.int .i64 d.Month,.int .i64 d.Date],.int .i64 n,.int .i64 lg] [] [] 0 (resP NI106 [.bool] Q):=by rw [<- Vcw_eq]; exact h
theorem pcw (x:Lk) (d:Dy) (n:Int) (lg:Int) (hd:d=ofS n) (hlg:lg=ydS ⟨(ofS n).Year,12,31⟩) (hfw:fewR x.Rule=true) (n0:1<=n) (n1:n<=3652059) (hR:rightR x.Rule=true):Vcw x d n lg (fun y0=>y0=wdB x.Rule n):=by
 unfold Vcw
 have ex:ix [x] 0=x:=rfl
 rw [ex]
 subst hd hlg
 rw [show Dy.mk (ofS n).Year (ofS n).Month (ofS n).Date=ofS n from rfl]
 obtain ⟨wmo,wwn,wyd,wmd,wdy,who,wmi,wse,wsp,wti⟩:=fewR_ok hfw
 refine ⟨fun a b=>a=atW x.Rule n/\b=allW x.Rule n,⟨fun h=>by unfold atW allW; rw [if_pos h,if_pos h]; exact ⟨rfl,rfl⟩,fun h=>by unfold atW allW; rw [if_neg h,if_neg h]; exact ⟨rfl,rfl⟩⟩,?_⟩
 rintro _ _ ⟨rfl,rfl⟩
 obtain ⟨g1,g2,g3,g4⟩:=atW_rg x.Rule n
 obtain ⟨g5,g6⟩:=at_ok (r:=x.Rule) n0 n1
 have e1:(atW x.Rule n-1).tdiv 7=(atW x.Rule n-1) / 7:=Int.tdiv_eq_ediv_of_nonneg (by omega)
 have e2:(allW x.Rule n-atW x.Rule n).tdiv 7=(allW x.Rule n-atW x.Rule n) / 7:=Int.tdiv_eq_ediv_of_nonneg (by omega)
 rw [e1,e2]
 refine ⟨⟨by omega,by omega⟩,by decide,⟨by omega,by omega⟩,⟨by omega,by omega⟩,⟨by omega,by omega⟩,by decide,⟨by omega,by omega⟩,⟨by omega,by omega⟩,⟨by omega,by omega⟩,?_⟩
 have key:∀ y:Nt,(y.Day=wdS n/\((y.N=0 ∨ y.N=(atW x.Rule n-1) / 7+1) ∨ y.N=0-((allW x.Rule n-atW x.Rule n) / 7+1)))↔WdP x.Rule n y:=fun y=>by
  unfold WdP
  constructor <;> rintro ⟨a,b⟩ <;> refine ⟨a,?_⟩ <;> omega
 refine ⟨fun i=>0<=i/\∀ j:Int,0<=j->j<i->¬ WdP x.Rule n (ix x.Rule.Days j),fun i=>((x.Rule.Days.length:Int)-i).toNat,⟨by omega,fun j a b=>absurd b (by omega)⟩,?_⟩
 rintro i ⟨i0,hi⟩
 refine ⟨fun h=>⟨i0,h,fun _ _=>⟨fun hy=>?_,fun hy=>⟨⟨by omega,by omega⟩,⟨by omega,fun j a b=>?_⟩,by dsimp only; omega⟩⟩⟩,fun h=>wdB_no fun j a b=>hi j a (by omega)⟩
 . rw [decide_eq_true i0]; exact wdB_yes i0 h ((key _).1 hy)
 . by_cases e:j=i
   . subst e; exact fun hw=>hy ((key _).2 hw)
   . exact hi j a (by omega)
def ccws (x:Lk) (d:Dy) (n:Int) (lg:Int):Q1 U:=⟨[d=ofS n,lg=ydS ⟨(ofS n).Year,12,31⟩,fewR x.Rule=true,1<=n,n<=3652059,rightR x.Rule=true],[],blB (wdB x.Rule n)⟩
def ccw (a:List (SV U)):Option (Q1 U):=match a with | [.fel 85 [x] 0 0,.agg [.int .i64 d0,.int .i64 d1,.int .i64 d2],.int .i64 n,.int .i64 lg]=>some (ccws x (⟨d0,d1,d2⟩) n lg) | _=>none
theorem ccw_ok (args:List (SV U)) (q:Q1 U) (h:ccw args=some q) (ho:allP q.ob):LendOK NI106 84 args ⟨q.ob,q.hy,q.v,[]⟩:=by
 unfold ccw at h
 split at h
 . rename_i x d0 d1 d2 n lg
   cases h
   exact lend1 NI106_ok (inlHN_ok NI106_ok H0_ok ancw 4) Tryz.func84 (k:=.bool) (x:=wdB x.Rule n) trivial (Vcw_ok (pcw x (⟨d0,d1,d2⟩) n lg ho.1 ho.2.1 ho.2.2.1 ho.2.2.2.1 ho.2.2.2.2.1 ho.2.2.2.2.2.1)) 0
 . cases h
noncomputable def Ncw:Env:=NI106.addL 84 ccw
theorem Ncw_ok:EnvOK Ncw:=NI106_ok.addL Tryz.call84 ccw_ok
end Go.Proofs.YtdjfeninmbpflaaGreat
end
section
namespace Go.Re
open Go Go.Wk Go.Wl Go.Rx
theorem part_no {l:List Int} {n a:Int} (h:0<(l.length:Int)/\¬ Re.hasE l n a=true):partE l n a=false:=by
 unfold partE
 rw [decide_eq_false (by omega),Bool.false_or]
 exact Bool.eq_false_iff.2 h.2
theorem part_yes {l:List Int} {n a:Int} (h:¬ (0<(l.length:Int)/\¬ Re.hasE l n a=true)):partE l n a=true:=by
 unfold partE
 rw [Bool.or_eq_true,decide_eq_true_iff]
 by_cases h0:(l.length:Int)=0
 . exact .inl h0
 . exact .inr (Classical.not_not.1 fun hn=>h ⟨by omega,hn⟩)
def monB (r:Rl) (m:Int):Bool:=decide ((r.Month.length:Int)=0) || hasN r.Month m
theorem mon_no {r:Rl} {m:Int} (h:0<(r.Month.length:Int)/\¬ hasN r.Month m=true):monB r m=false:=by
 unfold monB
 rw [decide_eq_false (by omega),Bool.false_or]
 exact Bool.eq_false_iff.2 h.2
theorem mon_yes {r:Rl} {m:Int} (h:¬ (0<(r.Month.length:Int)/\¬ hasN r.Month m=true)):monB r m=true:=by
 unfold monB
 rw [Bool.or_eq_true,decide_eq_true_iff]
 by_cases h0:(r.Month.length:Int)=0
 . exact .inl h0
 . exact .inr (Classical.not_not.1 fun hn=>h ⟨by omega,hn⟩)
section
variable {s:Tm} {r:Rl} {dy n:Int}
abbrev wkB (r:Rl) (n:Int):Bool:=partE r.WeekNo (weekS n r.Wkst).2 (weeks1 (weekS n r.Wkst).1 r.Wkst)
abbrev ydB (r:Rl) (n:Int):Bool:=partE r.YearDay (ydS (ofS n)) (ydS ⟨(ofS n).Year,12,31⟩)
abbrev mdB (r:Rl) (n:Int):Bool:=partE r.MonthDay (ofS n).Date (longS (ofS n).Year (ofS n).Month)
def tailB (s:Tm) (r:Rl) (dy n:Int):Bool:=if 0<(r.Days.length:Int) then wdB r n else if 0<(r.YearDay.length:Int) ∨ 0<(r.MonthDay.length:Int) then true else decide (LikeP s r dy n)
theorem day_eq:dayS s r dy n=(((monB r (ofS n).Month && wkB r n) && (ydB r n && mdB r n)) && tailB s r dy n):=rfl
theorem day_m (h:monB r (ofS n).Month=false):false=dayS s r dy n:=by rw [day_eq,h]; rfl
theorem day_w (h:wkB r n=false):false=dayS s r dy n:=by rw [day_eq,h,Bool.and_false]; rfl
theorem day_y (h:ydB r n=false):false=dayS s r dy n:=by rw [day_eq,h,Bool.false_and,Bool.and_false]; rfl
theorem day_d (h:mdB r n=false):false=dayS s r dy n:=by rw [day_eq,h,Bool.and_false,Bool.and_false]; rfl
theorem day_all (h1:monB r (ofS n).Month=true) (h2:wkB r n=true) (h3:ydB r n=true) (h4:mdB r n=true):dayS s r dy n=tailB s r dy n:=by rw [day_eq,h1,h2,h3,h4]; rfl
end
end Go.Re
end
section
namespace Go.Proofs.YtdjfeninmbpflaaGreat
open Go Go.Wk Go.Wl Go.Rx Go.Re 
attribute [local irreducible] vcFun
def ancd:Nat->Ann:=fun | 46=>⟨141,fun _=>none,fun | 9=>some ⟨[0,1,5,7],[.slot 8 (.int .i64)]⟩ | 11=>some ⟨[0,1,5],[]⟩ | _=>none⟩ | _=>⟨0,fun _=>none,fun _=>none⟩
def Vcd (x:Lk) (n:Int) (Q:Bool->Prop):Prop :=
((0:Int)<(↑(ix [x] (0:Int)).Rule.Month.length:Int)->(ix [x] (0:Int)).Rule.Month.length<=1000000)/\((0:Int)<(↑(ix [x] (0:Int)).Rule.Month.length:Int)/\¬hasN (ix [x] (0:Int)).Rule.Month (ofS n).Month=true->Q false)/\(¬((0:Int)<(↑(ix [x] (0:Int)).Rule.Month.length:Int)/\¬hasN (ix [x] (0:Int)).Rule.Month (ofS n).Month=true)->∃ (J:Prop),(((0:Int)<(↑(ix [x] (0:Int)).Rule.WeekNo.length:Int)->∃ (J_1:Int->Prop),((weeksS (weekS n (ix [x] (0:Int)).Rule.Wkst).fst (ix [x] (0:Int)).Rule.Wkst=0->J_1 (1:Int))/\(¬weeksS (weekS n (ix [x] (0:Int)).Rule.Wkst).fst (ix [x] (0:Int)).Rule.Wkst=0->J_1 (weeksS (weekS n (ix [x] (0:Int)).Rule.Wkst).fst (ix [x] (0:Int)).Rule.Wkst)))/\∀ (x_1:Int),J_1 x_1->(ix [x] (0:Int)).Rule.WeekNo.length<=1000000/\(-10000000:Int)<=(weekS n (ix [x] (0:Int)).Rule.Wkst).snd/\(weekS n (ix [x] (0:Int)).Rule.Wkst).snd<=10000000/\(-10000000:Int)<=x_1/\x_1<=10000000/\(¬Re.hasE (ix [x] (0:Int)).Rule.WeekNo (weekS n (ix [x] (0:Int)).Rule.Wkst).snd x_1=true->Q false)/\(¬¬Re.hasE (ix [x] (0:Int)).Rule.WeekNo (weekS n (ix [x] (0:Int)).Rule.Wkst).snd x_1=true->J))/\(¬(0:Int)<(↑(ix [x] (0:Int)).Rule.WeekNo.length:Int)->J))/\(J->(((0:Int)<(↑(ix [x] (0:Int)).Rule.YearDay.length:Int)->(ix [x] (0:Int)).Rule.YearDay.length<=1000000)/\((0:Int)<(↑(ix [x] (0:Int)).Rule.YearDay.length:Int)->(-10000000:Int)<=ydS (Dy.mk (ofS n).Year (ofS n).Month (ofS n).Date))/\((0:Int)<(↑(ix [x] (0:Int)).Rule.YearDay.length:Int)->ydS (Dy.mk (ofS n).Year (ofS n).Month (ofS n).Date)<=10000000)/\((0:Int)<(↑(ix [x] (0:Int)).Rule.YearDay.length:Int)->(-10000000:Int)<=ydS (Dy.mk (ofS n).Year (12:Int) (31:Int)))/\((0:Int)<(↑(ix [x] (0:Int)).Rule.YearDay.length:Int)->ydS (Dy.mk (ofS n).Year (12:Int) (31:Int))<=10000000))/\((0:Int)<(↑(ix [x] (0:Int)).Rule.YearDay.length:Int)/\¬Re.hasE (ix [x] (0:Int)).Rule.YearDay (ydS (Dy.mk (ofS n).Year (ofS n).Month (ofS n).Date)) (ydS (Dy.mk (ofS n).Year (12:Int) (31:Int)))=true->Q false)/\(¬((0:Int)<(↑(ix [x] (0:Int)).Rule.YearDay.length:Int)/\¬Re.hasE (ix [x] (0:Int)).Rule.YearDay (ydS (Dy.mk (ofS n).Year (ofS n).Month (ofS n).Date)) (ydS (Dy.mk (ofS n).Year (12:Int) (31:Int)))=true)->(((0:Int)<(↑(ix [x] (0:Int)).Rule.MonthDay.length:Int)->(ix [x] (0:Int)).Rule.MonthDay.length<=1000000)/\((0:Int)<(↑(ix [x] (0:Int)).Rule.MonthDay.length:Int)->(-10000000:Int)<=(ofS n).Date)/\((0:Int)<(↑(ix [x] (0:Int)).Rule.MonthDay.length:Int)->(ofS n).Date<=10000000)/\((0:Int)<(↑(ix [x] (0:Int)).Rule.MonthDay.length:Int)->(-10000000:Int)<=longS (ofS n).Year (ofS n).Month)/\((0:Int)<(↑(ix [x] (0:Int)).Rule.MonthDay.length:Int)->longS (ofS n).Year (ofS n).Month<=10000000))/\((0:Int)<(↑(ix [x] (0:Int)).Rule.MonthDay.length:Int)/\¬Re.hasE (ix [x] (0:Int)).Rule.MonthDay (ofS n).Date (longS (ofS n).Year (ofS n).Month)=true->Q false)/\(¬((0:Int)<(↑(ix [x] (0:Int)).Rule.MonthDay.length:Int)/\¬Re.hasE (ix [x] (0:Int)).Rule.MonthDay (ofS n).Date (longS (ofS n).Year (ofS n).Month)=true)->((0:Int)<(↑(ix [x] (0:Int)).Rule.Days.length:Int)->Dy.mk (ofS n).Year (ofS n).Month (ofS n).Date=ofS n/\ydS (Dy.mk (ofS n).Year (12:Int) (31:Int))=ydS (Dy.mk (ofS n).Year (12:Int) (31:Int))/\fewR x.Rule=true/\(1:Int)<=n/\n<=3652059/\rightR x.Rule=true/\Q (decide (wdB x.Rule n=true)))/\(¬(0:Int)<(↑(ix [x] (0:Int)).Rule.Days.length:Int)->in64 ((↑(ix [x] (0:Int)).Rule.YearDay.length:Int)+(↑(ix [x] (0:Int)).Rule.MonthDay.length:Int))/\((0:Int)<(↑(ix [x] (0:Int)).Rule.YearDay.length:Int)+(↑(ix [x] (0:Int)).Rule.MonthDay.length:Int)->Q true)/\(¬(0:Int)<(↑(ix [x] (0:Int)).Rule.YearDay.length:Int)+(↑(ix [x] (0:Int)).Rule.MonthDay.length:Int)->Dy.mk (ofS n).Year (ofS n).Month (ofS n).Date=ofS n/\(0:Int)<=x.Rule.Freq/\Q (decide (decide (LikeP x.start x.Rule x.day n)=true))))))))
theorem Vcd_eq {x:Lk} {n:Int} {Q:Bool->Prop}:@Eq Prop (Vcd x n Q) (vcFun (E:=Ncw) (inlHN Ncw H0 ancd 2) (ancd 46) Tryz.f46 [.fel (N:=U) 85 [x] 0 0,.int .i64 n] [] [] 0 (resP Ncw [.bool] Q)):=by kernel_rfl
theorem Vcd_ok {x:Lk} {n:Int} {Q:Bool->Prop} (h:Vcd x n Q):vcFun (E:=Ncw) (inlHN Ncw H0 ancd 2) (ancd 46) Tryz.f46 [.fel (N:=U) 85 [x] 0 0,.int .i64 n] [] [] 0 (resP Ncw [.bool] Q):=by rw [<- Vcd_eq]; exact h
theorem pcd (x:Lk) (n:Int) (hfw:fewR x.Rule=true) (n0:1<=n) (n1:n<=3652059) (hR:rightR x.Rule=true):Vcd x n (fun y0=>y0=dayS x.start x.Rule x.day n):=by
 unfold Vcd
 have ex:ix [x] 0=x:=rfl
 rw [ex]
 rw [show Dy.mk (ofS n).Year (ofS n).Month (ofS n).Date=ofS n from rfl]
 obtain ⟨wmo,wwn,wyd,wmd,wdy,who,wmi,wse,wsp,wti⟩:=fewR_ok hfw
 have k1:=wk_rg n x.Rule.Wkst
 have k2:=wks_rg (weekS n x.Rule.Wkst).1 x.Rule.Wkst
 have k3:=yd_rg (ofS n)
 have k4:=yd_rg ⟨(ofS n).Year,12,31⟩
 have k5:=long_rg (ofS n).Year (ofS n).Month
 obtain ⟨_,_,k6⟩:=of_rg n
 refine ⟨fun _=>by omega,fun h=>day_m (mon_no h),fun hm=>?_⟩
 have hm:=mon_yes hm
 refine ⟨wkB x.Rule n=true,⟨fun hl=>⟨fun w=>w=weeks1 (weekS n x.Rule.Wkst).1 x.Rule.Wkst,⟨fun h=>by unfold weeks1; rw [if_pos h],fun h=>by unfold weeks1; rw [if_neg h]⟩,?_⟩,fun hl=>part_yes fun h=>hl h.1⟩,fun hw=>?_⟩
 . rintro _ rfl
   exact ⟨by omega,by omega,by omega,by omega,by omega,fun h=>day_w (part_no ⟨hl,h⟩),fun h=>part_yes fun hh=>h hh.2⟩
 refine ⟨⟨fun _=>by omega,fun _=>by omega,fun _=>by omega,fun _=>by omega,fun _=>by omega⟩,fun h=>day_y (part_no h),fun hy=>?_⟩
 refine ⟨⟨fun _=>by omega,fun _=>by omega,fun _=>by omega,fun _=>by omega,fun _=>by omega⟩,fun h=>day_d (part_no h),fun hd=>?_⟩
 rw [day_all hm hw (part_yes hy) (part_yes hd)]
 unfold tailB
 refine ⟨fun h=>⟨rfl,rfl,hfw,n0,n1,hR,by rw [if_pos h,Bool.decide_eq_true]⟩,fun h=>⟨⟨by omega,by omega⟩,fun h2=>by rw [if_neg h,if_pos (by omega)],fun h2=>⟨rfl,(rightR_iff.1 hR).head.1,by rw [if_neg h,if_neg (by omega),Bool.decide_eq_true]⟩⟩⟩
def ccd (a:List (SV U)):Option (Q1 U):=match a with | [.fel 85 [x] 0 0,.int .i64 n]=>some ⟨[fewR x.Rule=true,1<=n,n<=3652059,rightR x.Rule=true],[],blB (dayS x.start x.Rule x.day n)⟩ | _=>none
theorem ccd_ok (args:List (SV U)) (q:Q1 U) (h:ccd args=some q) (ho:allP q.ob):LendOK Ncw 46 args ⟨q.ob,q.hy,q.v,[]⟩:=by
 unfold ccd at h
 split at h
 . rename_i x n
   cases h
   exact lend1 Ncw_ok (inlHN_ok Ncw_ok H0_ok ancd 2) Tryz.func46 (k:=.bool) (x:=dayS x.start x.Rule x.day n) trivial (Vcd_ok (pcd x n ho.1 ho.2.1 ho.2.2.1 ho.2.2.2.1)) 0
 . cases h
noncomputable def Ncd:Env:=Ncw.addL 46 ccd
theorem Ncd_ok:EnvOK Ncd:=Ncw_ok.addL Tryz.call46 ccd_ok
end Go.Proofs.YtdjfeninmbpflaaGreat
end
section
namespace Go.Re
open Go Go.Wk Go.Wl Go.Rx
theorem drop_step {l:List Int} {i:Int} (h0:0<=i) (h1:i<l.length):l.drop i.toNat=ix l i::l.drop (i+1).toNat:=by
 have h:i.toNat<l.length:=by omega
 rw [List.drop_eq_getElem_cons h,ix_get h,show (i+1).toNat=i.toNat+1 by omega]
def pickG (sp:List Int) (len:Int):Int->List Int->List Int
 | _,[]=>[]
 | i,t::r=>if hasN sp (i+1)=true ∨ hasN sp (i-len)=true then t::pickG sp len (i+1) r else pickG sp len (i+1) r
theorem pickG_nil {sp:List Int} {n i:Int}:pickG sp n i []=[]:=rfl
theorem pickG_cons {sp:List Int} {n i t:Int} {r:List Int}:pickG sp n i (t::r)=if hasN sp (i+1)=true ∨ hasN sp (i-n)=true then t::pickG sp n (i+1) r else pickG sp n (i+1) r:=rfl
def pickS (r:Rl) (l:List Int):List Int:=if (r.SetPos.length:Int)=0 then l else pickG r.SetPos l.length 0 l
structure PickI (sp:List Int) (l x:List Int) (i:Int):Prop where
 a:0<=i
 b:i<=l.length
 c:(x.length:Int)<=i
 d:x++pickG sp l.length i (l.drop i.toNat)=pickG sp l.length 0 l
theorem PickI.init {sp l:List Int}:PickI sp l [] 0:=⟨Int.le_refl 0,by omega,by simp,by simp⟩
theorem PickI.yes {sp l x:List Int} {i:Int} (h:PickI sp l x i) (hi:i<l.length) (hp:hasN sp (i+1)=true ∨ hasN sp (i-l.length)=true):PickI sp l (x++[ix l i]) (i+1):=by
 have d:=h.d
 rw [drop_step h.a hi,pickG_cons,if_pos hp] at d
 exact ⟨by have:=h.a; omega,by omega,by have:=h.c; simp only [List.length_append,List.length_cons,List.length_nil]; omega,by rw [<- d]; simp⟩
theorem PickI.no {sp l x:List Int} {i:Int} (h:PickI sp l x i) (hi:i<l.length) (hp:¬ (hasN sp (i+1)=true ∨ hasN sp (i-l.length)=true)):PickI sp l x (i+1):=by
 have d:=h.d
 rw [drop_step h.a hi,pickG_cons,if_neg hp] at d
 exact ⟨by have:=h.a; omega,by omega,by have:=h.c; omega,d⟩
theorem PickI.fin {sp l x:List Int} {i:Int} (h:PickI sp l x i) (hi:¬ i<l.length):x=pickG sp l.length 0 l:=by
 have d:=h.d
 rw [List.drop_eq_nil_of_le (by omega),pickG_nil] at d
 rw [<- d,List.append_nil]
def rngI (n:Nat):List Int:=(List.range n).map Int.ofNat
def partsS (l:List Int) (fr:Bool) (own all:Int):List Int:=if 0<(l.length:Int) then l else if fr=true then rngI all.toNat else [own]
theorem rng_len (n:Nat):(rngI n).length=n:=by unfold rngI; simp
structure FillI (n:Nat) (x:List Int) (i:Int):Prop where
 a:0<=i
 b:i<=n
 c:x.length=n
 d:∀ j:Nat,(j:Int)<i->x[j]?=some (j:Int)
theorem FillI.step {n:Nat} {x:List Int} {i:Int} (h:FillI n x i) (hi:i<n):FillI n (x.set i.toNat i) (i+1):=by
 have ha:=h.a
 refine ⟨by omega,by omega,by rw [List.length_set]; exact h.c,fun j hj=>?_⟩
 by_cases e:j=i.toNat
 . subst e
   rw [List.getElem?_set_self (by rw [h.c]; omega)]
   congr 1; omega
 . rw [List.getElem?_set_ne (Ne.symm e)]
   exact h.d j (by omega)
theorem FillI.fin {n:Nat} {x:List Int} {i:Int} (h:FillI n x i) (hi:¬ i<n):x=rngI n:=by
 have hb:=h.b
 refine List.ext_getElem? fun j=>?_
 by_cases hj:j<n
 . rw [h.d j (by omega)]
   unfold rngI
   simp [hj]
 . rw [List.getElem?_eq_none (by rw [h.c]; omega),List.getElem?_eq_none (by rw [rng_len]; omega)]
def hB (s:Tm) (r:Rl) (h:Int):Prop:=¬ ((0<(r.Hour.length:Int)/\¬ hasN r.Hour h=true) ∨ ((r.Hour.length:Int)=0/\r.Freq<=3)/\h≠s.Hour)
def mB (s:Tm) (r:Rl) (m:Int):Prop:=¬ ((0<(r.Minute.length:Int)/\¬ hasN r.Minute m=true) ∨ ((r.Minute.length:Int)=0/\r.Freq<=4)/\m≠s.Min)
def sB (s:Tm) (r:Rl) (x:Int):Prop:=(0<(r.Second.length:Int)/\hasN r.Second x=true) ∨ (r.Second.length:Int)=0/\(5<r.Freq ∨ x=s.Sec)
instance (s:Tm) (r:Rl) (h:Int):Decidable (hB s r h):=by unfold hB; infer_instance
instance (s:Tm) (r:Rl) (h:Int):Decidable (mB s r h):=by unfold mB; infer_instance
instance (s:Tm) (r:Rl) (h:Int):Decidable (sB s r h):=by unfold sB; infer_instance
def secU (s:Tm) (r:Rl) (h m:Int):Nat->List Int
 | 0=>[]
 | k+1=>secU s r h m k++if sB s r k then [3600 * h+60 * m+(k:Int)] else []
def minU (s:Tm) (r:Rl) (h:Int):Nat->List Int
 | 0=>[]
 | k+1=>minU s r h k++if mB s r k then secU s r h k 60 else []
def houU (s:Tm) (r:Rl):Nat->List Int
 | 0=>[]
 | k+1=>houU s r k++if hB s r k then minU s r k 60 else []
def clkS (s:Tm) (r:Rl):List Int:=houU s r 24
section
variable {s:Tm} {r:Rl} {i h m:Int}
end
end Go.Re
end
section
namespace Go.Proofs.YtdjfeninmbpflaaGreat
open Go Go.Wk Go.Wl Go.Rx Go.Re 
attribute [local irreducible] vcFun
def ancp:Nat->Ann:=fun | 87=>⟨34,fun | 7=>some ⟨[9,24],[.slot 25 (.int .i64),.cont 9 3]⟩ | _=>none,fun _=>none⟩ | _=>⟨0,fun _=>none,fun _=>none⟩
def Vcp (l:List Int) (fr:Bool) (o:Int) (a:Int) (Q:List Int->Prop):Prop :=
((0:Int)<(↑l.length:Int)->Q l)/\(¬(0:Int)<(↑l.length:Int)->(¬fr=true->Q [o])/\(¬¬fr=true->(0:Int)<=a/\a=a/\(↑((some (8:Nat)).getD (0:Nat)):Int) * a<=140737488355328/\∃ (I:Int->List Int->Prop),∃ (m:Int->List Int->Nat),I (0:Int) (List.replicate a.toNat (0:Int))/\∀ (x:Int) (x_1:List Int),I x x_1->(x<(↑(List.replicate a.toNat (0:Int)).length:Int)->(0:Int)<=x/\x<(↑x_1.length:Int)/\in64 (x+1)/\I (x+1) (x_1.set x.toNat x)/\m (x+1) (x_1.set x.toNat x)<m x x_1)/\(¬x<(↑(List.replicate a.toNat (0:Int)).length:Int)->Q x_1)))
def Wcp (l:List Int) (fr:Bool) (o:Int) (a:Int) (Q:List Int->Prop):Prop:=vcFun (E:=Ncd) (inlHN Ncd H0 ancp 2) (ancp 87) Tryz.f87 [.sl (N:=U) 3 l,blB fr,.int .i64 o,.int .i64 a] [] [] 0 (resZ Ncd 1 [.sl 3] Q)
attribute [local irreducible] Wcp HZ
theorem Vcp_eq {l:List Int} {fr:Bool} {o:Int} {a:Int} {Q:List Int->Prop}:Vcp l fr o a Q=Wcp l fr o a Q:=by kernel_rfl
theorem Vcp_ok {l:List Int} {fr:Bool} {o:Int} {a:Int} {Q:List Int->Prop} (h:Vcp l fr o a Q):Wcp l fr o a Q:=by rw [<- Vcp_eq]; exact h
theorem pcp (l:List Int) (fr:Bool) (o:Int) (a:Int) (ha0:0<=a) (ha1:a<=100):Vcp l fr o a (fun y0=>y0=partsS l fr o a):=by
 have a0:=ha0
 have a1:=ha1
 unfold Vcp partsS
 refine ⟨fun h=>by rw [if_pos h],fun h=>?_⟩
 rw [if_neg h]
 refine ⟨fun h=>by rw [if_neg h],fun h=>?_⟩
 rw [if_pos (Classical.not_not.1 h)]
 have el:((List.replicate a.toNat (0:Int)).length:Int)=a:=by rw [List.length_replicate]; omega
 refine ⟨a0,rfl,by show (8:Int) * a<=140737488355328; omega,fun i x=>FillI a.toNat x i,fun i _=>(a-i).toNat,⟨Int.le_refl 0,by omega,List.length_replicate,fun j hj=>by omega⟩,?_⟩
 rintro i x hI
 have ha:=hI.a
 have hc:=hI.c
 refine ⟨fun hi=>⟨ha,by omega,⟨by omega,by omega⟩,hI.step (by omega),by dsimp only; omega⟩,fun hi=>hI.fin (by omega)⟩
theorem Ycp_eq {l:List Int} {fr:Bool} {o:Int} {a:Int}:Wcp l fr o a (fun y0=>y0=partsS l fr o a)=HZ Ncd (inlHN Ncd H0 ancp 2) (ancp 87) Tryz.f87 [.sl (N:=U) 3 l,blB fr,.int .i64 o,.int .i64 a] 1 [.sl 3] (partsS l fr o a,()):=by kernel_rfl
theorem Ycp_ok (l:List Int) (fr:Bool) (o:Int) (a:Int) (ha0:0<=a) (ha1:a<=100):HZ Ncd (inlHN Ncd H0 ancp 2) (ancp 87) Tryz.f87 [.sl (N:=U) 3 l,blB fr,.int .i64 o,.int .i64 a] 1 [.sl 3] (partsS l fr o a,()):=by
 rw [<- Ycp_eq]
 exact Vcp_ok (pcp l fr o a ha0 ha1)
def ccpr (l:List Int) (fr:Bool) (o:Int) (a:Int):CR U:=⟨[0<=a,a<=100],[],.sl 3 (partsS l fr o a),[]⟩
theorem ccpr_eq (l:List Int) (fr:Bool) (o:Int) (a:Int):(⟨[0<=a,a<=100],[],tellA 1 (tell Ncd [.sl 3] (partsS l fr o a,())),[]⟩:CR Ncd.N)=ccpr l fr o a:=by kernel_rfl
theorem ccpr_ok (l:List Int) (fr:Bool) (o:Int) (a:Int) (ha0:0<=a) (ha1:a<=100) (nx:Nat) (hp:([.sl (N:=U) 3 l,blB fr,.int .i64 o,.int .i64 a]:List (SV U)).all pureS=true):ConOK Ncd.P Ncd.N Ncd.T Ncd.G 87 [.sl (N:=U) 3 l,blB fr,.int .i64 o,.int .i64 a] nx (ccpr l fr o a):=by
 rw [<- ccpr_eq]
 exact conH Ncd_ok (inlHN_ok Ncd_ok H0_ok ancp 2) Tryz.func87 rfl hp (Ycp_ok l fr o a ha0 ha1)
def ccp (a:List (SV U)) (nx:Nat):Option (CR U):=match a with | [.sl 3 l,x_fr,.int .i64 o,.int .i64 a]=>(boolOf x_fr).bind fun fr=>some (ccpr l fr o a) | _=>none
theorem ccp_ok (args:List (SV U)) (nx:Nat) (c:CR U) (h:ccp args nx=some c) (hp:args.all pureS=true) (ho:allP c.ob):ConOK Ncd.P Ncd.N Ncd.T Ncd.G 87 args nx c:=by
 unfold ccp at h
 split at h
 . rename_i l x_fr o a
   obtain ⟨fr,hb_fr,h⟩:=Option.bind_eq_some_iff.1 h
   cases h
   exact ConOK.weak (b:=[.sl (N:=U) 3 l,blB fr,.int .i64 o,.int .i64 a]) (ccpr_ok l fr o a ho.1 ho.2.1 nx rfl) fun ρ Z w v hr=>tup_conv [.sl 3 l,x_fr,.int .i64 o,.int .i64 a] [.sl (N:=U) 3 l,blB fr,.int .i64 o,.int .i64 a] _ ⟨fun _ h=>h,fun _ h=>boolOf_rep (E:=Ncd) hb_fr h,fun _ h=>h,fun _ h=>h,trivial⟩ hr
 . cases h
noncomputable def Ncp:Env:=Ncd.addC 87 ccp
theorem Ncp_ok:EnvOK Ncp:=Ncd_ok.addC Tryz.call87 ccp_ok
end Go.Proofs.YtdjfeninmbpflaaGreat
end
section
namespace Go.Re
open Go Go.Wk Go.Wl Go.Rx
theorem idxR_rg {r:Rl} {t:Int} (t0:0<=t) (t1:t<315537897600) (w0:0<=r.Wkst) (w1:r.Wkst<=6):0<=idxR r t/\idxR r t<=315537897600/\(r.Freq=1->13<=idxR r t):=by
 obtain ⟨h1,_⟩:=of_ok (n:=t / 86400+1) (by omega) (by omega)
 obtain ⟨a,b,c,d,_⟩:=h1.ym
 unfold idxR
 split
 . omega
 split
 . omega
 split
 . omega
 split
 . omega
 split
 . omega
 split <;> omega
theorem secs_rg {s:Tm} (h:rightT s=true):0<=secsT s/\secsT s<315537897600:=by
 have hr:=rightT_iff.1 h
 have:=secsN_rg hr
 unfold secsT
 rw [if_pos hr]
 omega
theorem k_int {r:Rl} {k:Int} (hR:rightR r=true) (k0:0<=k) (k1:k<=40000):0<=k * r.Interval/\k * r.Interval<=399960000:=by
 obtain ⟨_,_,i0,i1,_⟩:=(rightR_iff.1 hR).head
 have a:=Int.mul_nonneg k0 (show 0<=r.Interval by omega)
 have b:=Int.mul_le_mul k1 i1 (show 0<=r.Interval by omega) (by omega:(0:Int)<=40000)
 omega
end Go.Re
end
section
namespace Go.Re
open Go Go.Wk Go.Wl Go.Rx
def sameT (a b:List Tm):Bool:=decide (a=b)
def farL:List Int:=[3000,3000,1500,700,60,4,1]
def nearS (s:Tm) (r:Rl) (t:Tm):Bool:=if ¬ rightT s=true ∨ ¬ rightT t=true then true else decide (secsT t-secsT s<=86400 * ix farL (max 0 (min r.Freq 6)))
def toldE (e:Err):Err:=if e.is 5 then .no 5 else .nil
theorem toldE_bare (e:Err):toldE e=.nil ∨ ∃ n,toldE e=.no n:=by
 unfold toldE
 split
 . exact .inr ⟨5,rfl⟩
 . exact .inl rfl
theorem far_rg {i:Int} (h0:0<=i) (h1:i<=6):1<=ix farL i/\ix farL i<=3000:=by
 have:i=0 ∨ i=1 ∨ i=2 ∨ i=3 ∨ i=4 ∨ i=5 ∨ i=6:=by omega
 rcases this with rfl | rfl | rfl | rfl | rfl | rfl | rfl <;> decide
theorem tm_ext {a b:Tm} (h:((a.Day.Year=b.Day.Year/\a.Day.Month=b.Day.Month/\a.Day.Date=b.Day.Date/\True)/\a.Hour=b.Hour/\a.Min=b.Min/\a.Sec=b.Sec/\(a.Bare=true↔b.Bare=true)/\(a.UTC=true↔b.UTC=true)/\True)):a=b:=by
 obtain ⟨⟨y,m,d⟩,hh,mi,se,ba,ut⟩:=a
 obtain ⟨⟨y2,m2,d2⟩,hh2,mi2,se2,ba2,ut2⟩:=b
 obtain ⟨⟨h1,h2,h3,_⟩,h4,h5,h6,h7,h8,_⟩:=h
 have e7:ba=ba2:=Bool.eq_iff_iff.2 h7
 have e8:ut=ut2:=Bool.eq_iff_iff.2 h8
 subst h1 h2 h3 h4 h5 h6 e7 e8
 rfl
end Go.Re
end
section
namespace Go.Proofs.YtdjfeninmbpflaaGreat
open Go Go.Wk Go.Wl Go.Rx Go.Re 
attribute [local irreducible] vcFun
def anxS:Nat->Ann:=fun | 15=>⟨26,fun | 4=>some ⟨[0,1],[.slot 5 (.int .i64)]⟩ | _=>none,fun _=>none⟩ | _=>⟨0,fun _=>none,fun _=>none⟩
def VxS (a:List Tm) (b:List Tm) (Q:Bool->Prop):Prop :=
((↑a.length:Int)≠(↑b.length:Int)->Q false)/\(¬(↑a.length:Int)≠(↑b.length:Int)->∃ (I:Int->Prop),∃ (m:Int->Nat),I (0:Int)/\∀ (x:Int),I x->(x<(↑a.length:Int)->(0:Int)<=x/\x<(↑a.length:Int)/\(in64 (ix a x).Day.Year->in64 (ix a x).Day.Month->in64 (ix a x).Day.Date->in64 (ix a x).Hour->in64 (ix a x).Min->in64 (ix a x).Sec->(0:Int)<=x/\x<(↑b.length:Int)/\(in64 (ix b x).Day.Year->in64 (ix b x).Day.Month->in64 (ix b x).Day.Date->in64 (ix b x).Hour->in64 (ix b x).Min->in64 (ix b x).Sec->(¬(((ix a x).Day.Year=(ix b x).Day.Year/\(ix a x).Day.Month=(ix b x).Day.Month/\(ix a x).Day.Date=(ix b x).Day.Date/\True)/\(ix a x).Hour=(ix b x).Hour/\(ix a x).Min=(ix b x).Min/\(ix a x).Sec=(ix b x).Sec/\((ix a x).Bare=true↔(ix b x).Bare=true)/\((ix a x).UTC=true↔(ix b x).UTC=true)/\True)->Q false)/\(¬¬(((ix a x).Day.Year=(ix b x).Day.Year/\(ix a x).Day.Month=(ix b x).Day.Month/\(ix a x).Day.Date=(ix b x).Day.Date/\True)/\(ix a x).Hour=(ix b x).Hour/\(ix a x).Min=(ix b x).Min/\(ix a x).Sec=(ix b x).Sec/\((ix a x).Bare=true↔(ix b x).Bare=true)/\((ix a x).UTC=true↔(ix b x).UTC=true)/\True)->in64 (x+1)/\I (x+1)/\m (x+1)<m x))))/\(¬x<(↑a.length:Int)->Q true))
theorem VxS_eq {a:List Tm} {b:List Tm} {Q:Bool->Prop}:@Eq Prop (VxS a b Q) (vcFun (E:=Ncp) (inlHN Ncp H0 anxS 2) (anxS 15) Tryz.f15 [.sl (N:=U) 25 a,.sl (N:=U) 25 b] [] [] 0 (resP Ncp [.bool] Q)):=by kernel_rfl
theorem VxS_ok {a:List Tm} {b:List Tm} {Q:Bool->Prop} (h:VxS a b Q):vcFun (E:=Ncp) (inlHN Ncp H0 anxS 2) (anxS 15) Tryz.f15 [.sl (N:=U) 25 a,.sl (N:=U) 25 b] [] [] 0 (resP Ncp [.bool] Q):=by rw [<- VxS_eq]; exact h
theorem list_ixT {a b:List Tm} (hl:a.length=b.length) (h:∀ i:Int,0<=i->i<a.length->ix a i=ix b i):a=b:=List.ext_getElem hl fun i h1 h2=>by
 have:=h i (by omega) (by omega)
 have e:(i:Int).toNat=i:=by omega
 rw [ix_get (by omega),ix_get (by omega)] at this
 simpa [e] using this
set_option maxHeartbeats 2000000 in
theorem pxS (a:List Tm) (b:List Tm) (ha:a.length<=10000000):VxS a b (fun y0=>y0=sameT a b):=by
 unfold VxS sameT
 refine ⟨fun h=>(decide_eq_false (p:=(a:List Tm)=b) fun e=>h (by rw [e])).symm,fun h=>?_⟩
 have hl:a.length=b.length:=by omega
 refine ⟨fun i=>0<=i/\∀ j:Int,0<=j->j<i->ix a j=ix b j,fun i=>((a.length:Int)-i).toNat,⟨by omega,fun j h0 h1=>absurd h1 (by omega)⟩,?_⟩
 rintro i ⟨i0,hi⟩
 refine ⟨fun h1=>⟨i0,h1,fun _ _ _ _ _ _=>⟨i0,by omega,fun _ _ _ _ _ _=>⟨fun hn=>(decide_eq_false (p:=(a:List Tm)=b) fun e=>hn (by rw [e]; exact ⟨⟨rfl,rfl,rfl,trivial⟩,rfl,rfl,rfl,Iff.rfl,Iff.rfl,trivial⟩)).symm,fun he=>⟨⟨by omega,by omega⟩,⟨by omega,fun j j0 j1=>?_⟩,by dsimp only; omega⟩⟩⟩⟩,fun h1=>(decide_eq_true (p:=(a:List Tm)=b) (list_ixT hl fun j j0 j1=>hi j j0 (by omega))).symm⟩
 by_cases e:j=i
 . subst e; exact tm_ext (Classical.not_not.1 he)
 . exact hi j j0 (by omega)
def cxS (a:List (SV U)):Option (Q1 U):=match a with | [.sl 25 a,.sl 25 b]=>some ⟨[List.length (α:=Tm) a<=10000000],[],blB (sameT a b)⟩ | _=>none
theorem cxS_ok (args:List (SV U)) (q:Q1 U) (h:cxS args=some q) (ho:allP q.ob):LendOK Ncp 15 args ⟨q.ob,q.hy,q.v,[]⟩:=by
 unfold cxS at h
 split at h
 . rename_i a b
   cases h
   exact lend1 Ncp_ok (inlHN_ok Ncp_ok H0_ok anxS 2) Tryz.func15 (k:=.bool) (x:=sameT a b) trivial (VxS_ok (pxS a b ho.1)) 0
 . cases h
noncomputable def NxS:Env:=Ncp.addL 15 cxS
theorem NxS_ok:EnvOK NxS:=Ncp_ok.addL Tryz.call15 cxS_ok
end Go.Proofs.YtdjfeninmbpflaaGreat
end
section
namespace Go.Proofs.YtdjfeninmbpflaaGreat
open Go Go.Wk Go.Wl Go.Rx Go.Re 
attribute [local irreducible] vcFun
def anct:Nat->Ann:=fun | 33=>⟨8,fun _=>none,fun _=>none⟩ | _=>⟨0,fun _=>none,fun _=>none⟩
def Vct (e:Err) (Q:Err->Prop):Prop :=
(e.is (5:Int)->Q (Err.no (5:Int)))/\(¬e.is (5:Int)->Q e)
theorem Vct_eq {e:Err} {Q:Err->Prop}:@Eq Prop (Vct e Q) (vcFun (E:=NxS) (inlHN NxS H0 anct 2) (anct 33) Tryz.f33 [.err e] [] [] 0 (resP NxS [.err] Q)):=by kernel_rfl
theorem Vct_ok {e:Err} {Q:Err->Prop} (h:Vct e Q):vcFun (E:=NxS) (inlHN NxS H0 anct 2) (anct 33) Tryz.f33 [.err e] [] [] 0 (resP NxS [.err] Q):=by rw [<- Vct_eq]; exact h
theorem pct (e:Err) (he:e.is 5 ∨ e=Err.nil):Vct e (fun y0=>y0=toldE e):=by
 unfold Vct toldE
 exact ⟨fun h=>by rw [if_pos h],fun h=>by rw [if_neg h]; exact he.resolve_left h⟩
def cct (a:List (SV U)):Option (Q1 U):=match a with | [.err e]=>some ⟨[e.is 5 ∨ e=Err.nil],[],.err (toldE e)⟩ | _=>none
theorem cct_ok (args:List (SV U)) (q:Q1 U) (h:cct args=some q) (ho:allP q.ob):LendOK NxS 33 args ⟨q.ob,q.hy,q.v,[]⟩:=by
 unfold cct at h
 split at h
 . rename_i e
   cases h
   exact lend1 NxS_ok (inlHN_ok NxS_ok H0_ok anct 2) Tryz.func33 (k:=.err) (x:=toldE e) (toldE_bare _) (Vct_ok (pct e ho.1)) 0
 . cases h
noncomputable def Nct:Env:=NxS.addL 33 cct
theorem Nct_ok:EnvOK Nct:=NxS_ok.addL Tryz.call33 cct_ok
end Go.Proofs.YtdjfeninmbpflaaGreat
end
section
namespace Go.Proofs.YtdjfeninmbpflaaGreat
open Go Go.Wk Go.Wl Go.Rx Go.Re 
attribute [local irreducible] vcFun
def anc2:Nat->Ann:=fun | 81=>⟨18,fun _=>none,fun _=>none⟩ | _=>⟨0,fun _=>none,fun _=>none⟩
def Vc2 (l:List Int) (n:Int) (a:Int) (Q:Bool->Prop):Prop :=
l.length<=1000000/\(¬hasN l n=true->in64 (n-a))/\(¬hasN l n=true->in64 (n-a-1))/\(¬hasN l n=true->l.length<=1000000)/\Q (decide (hasN l n=true ∨ hasN l (n-a-1)=true))
theorem Vc2_eq {l:List Int} {n:Int} {a:Int} {Q:Bool->Prop}:@Eq Prop (Vc2 l n a Q) (vcFun (E:=Nct) (inlHN Nct H0 anc2 2) (anc2 81) Tryz.f81 [.sl (N:=U) 3 l,.int .i64 n,.int .i64 a] [] [] 0 (resP Nct [.bool] Q)):=by kernel_rfl
theorem Vc2_ok {l:List Int} {n:Int} {a:Int} {Q:Bool->Prop} (h:Vc2 l n a Q):vcFun (E:=Nct) (inlHN Nct H0 anc2 2) (anc2 81) Tryz.f81 [.sl (N:=U) 3 l,.int .i64 n,.int .i64 a] [] [] 0 (resP Nct [.bool] Q):=by rw [<- Vc2_eq]; exact h
theorem pc2 (l:List Int) (n:Int) (a:Int) (hl:l.length<=1000000) (n0:-1000000000000000<=n) (n1:n<=1000000000000000) (a0:-1000000000000000<=a) (a1:a<=1000000000000000):Vc2 l n a (fun y0=>y0=Re.hasE l n a):=by
 unfold Vc2 Re.hasE
 refine ⟨hl,fun _=>⟨by omega,by omega⟩,fun _=>⟨by omega,by omega⟩,fun _=>hl,dec_eq ?_⟩
 rw [Bool.or_eq_true]
def cc2 (a:List (SV U)):Option (Q1 U):=match a with | [.sl 3 l,.int .i64 n,.int .i64 a]=>some ⟨[List.length (α:=Int) l<=1000000,-1000000000000000<=n,n<=1000000000000000,-1000000000000000<=a,a<=1000000000000000],[],blB (Re.hasE l n a)⟩ | _=>none
theorem cc2_ok (args:List (SV U)) (q:Q1 U) (h:cc2 args=some q) (ho:allP q.ob):LendOK Nct 81 args ⟨q.ob,q.hy,q.v,[]⟩:=by
 unfold cc2 at h
 split at h
 . rename_i l n a
   cases h
   exact lend1 Nct_ok (inlHN_ok Nct_ok H0_ok anc2 2) Tryz.func81 (k:=.bool) (x:=Re.hasE l n a) trivial (Vc2_ok (pc2 l n a ho.1 ho.2.1 ho.2.2.1 ho.2.2.2.1 ho.2.2.2.2.1)) 0
 . cases h
noncomputable def Nc2:Env:=Nct.addL 81 cc2
theorem Nc2_ok:EnvOK Nc2:=Nct_ok.addL Tryz.call81 cc2_ok
end Go.Proofs.YtdjfeninmbpflaaGreat
end
section
namespace Go.Rx
open Go Go.Wk Go.Wl
def mark (D:Nat):Deferred:={ target:=.collected D,args:=#[] }
def marks (ds:List Nat):List Deferred:=ds.map mark
abbrev QD:=Exit->Fr->World->List Nat->Prop
def liftD (n:Nat) (Q:QD):Exit->Act->World->Prop:=fun e a w1=>∃ f w ds,Is a f n/\a.defers=marks ds/\Sim w w1/\Q e f w ds
def WD (P:Program) (n:Nat) (c:Code) (Q:QD) (f:Fr) (w:World) (ds:List Nat):Prop :=
 ∀ a w1,Is a f n->a.defers=marks ds->Sim w w1->c.wpIn (wideR none) 0 P (liftD n Q) a w1
def thenD (next:Fr->World->List Nat->Prop) (Q:QD):QD
 | .normal,f,w,ds=>next f w ds
 | e,f,w,ds=>Q e f w ds
def blockD (id:Nat) (Q:QD):QD
 | .exit j,f,w,ds=>bif Nat.beq j id then Q .normal f w ds else Q (.exit j) f w ds
 | e,f,w,ds=>Q e f w ds
section
variable {P:Program} {n:Nat} {Q:QD} {f:Fr} {w:World} {ds:List Nat}
theorem WD_of {c:Code} {Q0:Exit->Fr->World->Prop} (h:W P n c Q0 f w) (hq:∀ e f' w',Q0 e f' w'->Q e f' w' ds):WD P n c Q f w ds:=fun a w1 ha hd hs =>
 Go.wpIn_mono (h a w1 ha hs none) fun _ _ _ ⟨g,v,hg,hd',hv,q⟩=>⟨g,v,ds,hg,hd'.trans hd,hv,hq _ _ _ q⟩
theorem WD_mono {c:Code} {Q':QD} (h:WD P n c Q f w ds) (hq:∀ e f w ds,Q e f w ds->Q' e f w ds):WD P n c Q' f w ds:=fun a w1 ha hd hs =>
 Go.wpIn_mono (h a w1 ha hd hs) fun _ _ _ ⟨g,v,d,h1,h2,h3,q⟩=>⟨g,v,d,h1,h2,h3,hq _ _ _ _ q⟩
theorem WD_seq {x y:Code} (h:WD P n x (thenD (WD P n y Q) Q) f w ds):WD P n (.seq x y) Q f w ds:=fun a w1 ha hd hs =>
 wpIn_seq (Go.wpIn_mono (h a w1 ha hd hs) fun e a' w' ⟨g,v,d,hg,hd,hv,q⟩=>by
  cases e <;> first | exact q a' w' hg hd hv | exact ⟨g,v,d,hg,hd,hv,q⟩)
theorem WD_block {id:Nat} {c:Code} (h:WD P n c (blockD id Q) f w ds):WD P n (.block id c) Q f w ds:=fun a w1 ha hd hs =>
 wpIn_block (Go.wpIn_mono (h a w1 ha hd hs) fun e a' w' ⟨g,v,d,hg,hd,hv,q⟩=>by
  cases e with
  | exit j =>
   simp only [Exit.inBlock]
   unfold blockD at q
   by_cases hj:j=id
   . subst hj; simp only [Nat.beq_refl,cond_true] at q; rw [if_pos rfl]; exact ⟨g,v,d,hg,hd,hv,q⟩
   . simp only [beq_ne hj,cond_false] at q; rw [if_neg hj]; exact ⟨g,v,d,hg,hd,hv,q⟩
  | _=>exact ⟨g,v,d,hg,hd,hv,q⟩)
theorem WD_loop {c:Code} (I:Nat->Fr->World->List Nat->Prop) (m:Nat) (h0:I m f w ds)
  (round:∀ m f w ds,I m f w ds->WD P n c (thenD (fun f' w' ds'=>∃ m',m'<m/\I m' f' w' ds') Q) f w ds):WD P n (.loop c) Q f w ds:=by
 intro a w1 ha hd hs
 classical
 let X:Nat->Act->World->Prop:=fun m a w1=>∃ f w ds,Is a f n/\a.defers=marks ds/\Sim w w1/\I m f w ds
 let J:Act->World->Prop:=fun a w1=>∃ m,X m a w1
 let μ:Act->World->Nat:=fun a w1=>if h:∃ m,X m a w1 then Classical.choose (exists_min h) else 0
 have mu:∀ a w1,J a w1->X (μ a w1) a w1/\∀ k,X k a w1->μ a w1<=k:=fun a w1 h=>by
  have e:μ a w1=Classical.choose (exists_min h):=dif_pos h
  rw [e]; exact Classical.choose_spec (exists_min h)
 refine wpIn_loop J μ ⟨m,f,w,ds,ha,hd,hs,h0⟩ ?_
 intro a w1 hJ
 obtain ⟨f,w,ds,hf,hds,hw,hI⟩:=(mu a w1 hJ).1
 refine Go.wpIn_mono (round _ f w ds hI a w1 hf hds hw) ?_
 intro e a' w' ⟨g,v,d,hg,hd,hv,q⟩
 cases e with
 | normal =>
  obtain ⟨m',hlt,hI'⟩:=q
  have hx:X m' a' w':=⟨g,v,d,hg,hd,hv,hI'⟩
  exact ⟨⟨m',hx⟩,Nat.lt_of_le_of_lt ((mu a' w' ⟨m',hx⟩).2 m' hx) hlt⟩
 | _=>exact ⟨g,v,d,hg,hd,hv,q⟩
def rcL (fn:FuncId) (tm:Array Value) (ps:Array Tmp) (asg body:Code) (D:Nat) (st:LoopState) (pe:Option Code):Loop :=
 { state:=st,pending:=pe,fn,tmps:=tm,params:=ps,assign:=asg,body,defers:=D }
theorem sim_put {w1:World} (hs:Sim w w1) (r:Nat) (o:Obj):Sim (w.putObj r o) (w1.putObj r o):=by obtain ⟨k,rfl⟩:=hs; exact ⟨k,rfl⟩
theorem sim_alloc {w1:World} (hs:Sim w w1) (o:Obj):Sim (w.alloc o) (w1.alloc o):=by obtain ⟨k,rfl⟩:=hs; exact ⟨k,rfl⟩
def entered (w:World) (fn:FuncId) (tm:Array Value) (ps:Array Tmp) (asg body:Code):World:=(w.alloc (.deferred (some []))).alloc (.loop (rcL fn tm ps asg body w.heap.size .ready none))
theorem WD_range {g:Operand} {ps:Array Tmp} {asg body:Code} {gf:Nat} {lb:List Value} (hg:ev f g=.func (.func gf) #[] lb.toArray) (eg:∀ args w,(callFunc gf args).run P w=.ok (.enter gf args) w)
  (h:∀ (fn:FuncId) (tm:Array Value),Is { tmps:=tm,defers:=[] } f n ->
   CallR P gf (.func (.yield (w.heap.size+1)) #[] #[]::lb) (entered w fn tm ps asg body) (fun _ w2=>∃ st pe,st≠.busy/\w2.heap[w.heap.size+1]?=some (.loop (rcL fn tm ps asg body w.heap.size st pe)) /\
    ((pe=none/\Q .normal f (w2.putObj (w.heap.size+1) (.loop (rcL fn tm ps asg body w.heap.size .exhausted pe))) (w.heap.size::ds)) ∨
     (pe=some .ret/\Q .ret f (w2.putObj (w.heap.size+1) (.loop (rcL fn tm ps asg body w.heap.size .exhausted pe))) (w.heap.size::ds))))):WD P n (.rangeFunc g ps asg body) Q f w ds:=by
 intro a w1 ha hd hs
 have hsz:w1.heap.size=w.heap.size:=by rw [hs.heap]
 refine wpIn_rangeFunc fun fn _=>?_
 obtain ⟨W1,hW1⟩:∃ W1,(w1.alloc (.deferred (some []))).alloc (.loop { state:=.ready,pending:=none,fn,tmps:=a.tmps,params:=ps,assign:=asg,body,defers:=w1.heap.size })=W1:=⟨_,rfl⟩
 refine ⟨w1.heap.size+1,[{ target:=.collected w1.heap.size,args:=#[] }],W1,{ target:=.fn (.func gf) lb.toArray,args:=#[.func (.yield (w1.heap.size+1)) #[] #[]] },W1,gf,#[.func (.yield (w1.heap.size+1)) #[] #[]]++lb.toArray,W1,by rw [<- hW1]; exact run_enterLoop_outer _ _ _ _ _,?_,?_,?_,fun h=>(by cases h),?_⟩
 . have e:a.eval g=.func (.func gf) #[] lb.toArray:=by rw [ha.eval]; exact hg
   simp only [resolve,e]
   simp [go_sem]
 . intro f' _; trivial
 . simp [invoke,go_sem,eg]
 . have hi:Is { tmps:=a.tmps,defers:=[] } f n:=⟨ha.size,ha.get⟩
   have hc:=h fn a.tmps hi
   have hS:Sim (entered w fn a.tmps ps asg body) W1:=by
    rw [<- hW1,hsz]; exact sim_alloc (sim_alloc hs _) _
   have hc:=hc _ hS
   have ea:(Value.func (.yield (w.heap.size+1)) #[] #[]::lb).toArray=#[.func (.yield (w1.heap.size+1)) #[] #[]]++lb.toArray:=by rw [hsz]; simp
   rw [ea] at hc
   refine enterIn (Calls.mono hc ?_)
   rintro e w3 ⟨v,w2,rfl,hs2,st,pe,hb,hl,hq⟩
   have hl3:w3.heap[w1.heap.size+1]?=some (.loop (rcL fn a.tmps ps asg body w.heap.size st pe)):=by rw [hs2.heap,hsz]; exact hl
   have hend:=run_endLoop (P:=P) hl3 hb
   have hs3:Sim (w2.putObj (w.heap.size+1) (.loop (rcL fn a.tmps ps asg body w.heap.size .exhausted pe))) (w3.putObj (w1.heap.size+1) (.loop (rcL fn a.tmps ps asg body w.heap.size .exhausted pe))):=by rw [hsz]; exact sim_put hs2 _ _
   have hdd:([{ target:=.collected w1.heap.size,args:=#[] }]:List Deferred)++a.defers=marks (w.heap.size::ds):=by rw [hd,hsz]; rfl
   rcases hq with ⟨rfl,hq⟩ | ⟨rfl,hq⟩
   . exact ⟨none,_,hend,f,_,_,⟨ha.size,ha.get⟩,hdd,hs3,hq⟩
   . exact ⟨some .ret,_,hend,wpIn_ret ⟨f,_,_,⟨ha.size,ha.get⟩,hdd,hs3,hq⟩⟩
theorem yield_round {l:Nat} {fn:FuncId} {tm:Array Value} {p:Tmp} {asg body:Code} {D:Nat} {v:Value} {R:Value->World->Prop} (hl:w.heap[l]?=some (.loop (rcL fn tm #[p] asg body D .ready none))) (hi:Is { tmps:=tm,defers:=[] } f n) (hp:Nat.blt p n=true)
  (h:W P n asg (thenQ (fun f2 w2=>w2.heap[l]?=some (.loop (rcL fn tm #[p] asg body D .ready none))/\W P n body (fun e _ w3=>w3.heap[l]?=some (.loop (rcL fn tm #[p] asg body D .busy none)) /\
   ((e=.normal/\R (.bool true) (w3.putObj l (.loop (rcL fn tm #[p] asg body D .ready none)))) ∨ (e=.ret/\R (.bool false) (w3.putObj l (.loop (rcL fn tm #[p] asg body D .done (some .ret)))))))
    f2 (w2.putObj l (.loop (rcL fn tm #[p] asg body D .busy none)))) (fun _ _ _=>False)) (upd f p v) w):YieldR P l [v] w R:=by
 intro w1 hs
 have hl1:w1.heap[l]?=some (.loop (rcL fn tm #[p] asg body D .ready none)):=by rw [hs.heap]; exact hl
 refine ⟨fn,_,asg,body,run_yield (P:=P) (args:=[v].toArray) hl1 rfl,roundIn_of_wpIn trivial ?_⟩
 have ht:((#[p]:Array Tmp).zip [v].toArray).foldl (fun tmps (x:Tmp×Value)=>tmps.setIfInBounds x.1 x.2) tm=tm.setIfInBounds p v:=by simp
 have hip:Is { tmps:=((#[p]:Array Tmp).zip [v].toArray).foldl (fun tmps (x:Tmp×Value)=>tmps.setIfInBounds x.1 x.2) tm,defers:=[] } (upd f p v) n:=by
  rw [ht]; exact hi.put (blt_lt hp) v
 refine Go.wpIn_mono (h _ w1 hip hs (some l)) ?_
 rintro e a2 w2 ⟨f2,w2',hi2,hd2,hs2,q⟩
 cases e with
 | normal =>
  obtain ⟨hl2,hb⟩:=q
  have hl2':w2.heap[l]?=some (.loop (rcL fn tm #[p] asg body D .ready none)):=by rw [hs2.heap]; exact hl2
  refine ⟨_,run_beginRound (P:=P) hl2' rfl,?_⟩
  refine Go.wpIn_mono (hb a2 _ hi2 (sim_put hs2 _ _) (some l)) ?_
  rintro e a3 w3 ⟨f3,w3',hi3,hd3,hs3,hl3,q⟩
  have hl3':w3.heap[l]?=some (.loop (rcL fn tm #[p] asg body D .busy none)):=by rw [hs3.heap]; exact hl3
  rcases q with ⟨rfl,q⟩ | ⟨rfl,q⟩
  . exact ⟨_,_,run_endRound (P:=P) none hl3',_,_,rfl,sim_put hs3 _ _,q⟩
  . exact ⟨_,_,run_endRound (P:=P) (some .ret) hl3',_,_,rfl,sim_put hs3 _ _,q⟩
 | _=>exact q.elim
def shutM:World->List Nat->World
 | w,[]=>w
 | w,D::ds=>shutM (w.putObj D (.deferred none)) ds
theorem leaves_marks {fn:Func} {R:Ending->World->Prop} {tm:Array Value}:∀ (ds:List Nat) (w:World),ds.Nodup->(∀ D∈ds,w.heap[D]?=some (.deferred (some [])))->(∃ v,(results fn tm).run P (shutM w ds)=.ok v (shutM w ds)/\R (.returned v) (shutM w ds))->LeavesInM (wideR none) 0 P fn tm R (marks ds) .returning w
 | [],_,_,_,h=>h
 | D::ds,w,hn,hd,h=>by
  refine ⟨(by intro e; cases e),.inl ⟨D,_,rfl,run_takeDeferred (hd D (List.mem_cons_self ..)),?_⟩⟩
  refine leaves_marks ds _ (List.nodup_cons.1 hn).2 (fun D' h'=>?_) h
  have hne:D'≠D:=fun e=>(List.nodup_cons.1 hn).1 (e ▸ h')
  rw [World.putObj_heap_other hne]
  exact hd D' (List.mem_cons_of_mem _ h')
theorem sim_shutM {w1:World}:∀ (ds:List Nat) (w:World) (w1:World),Sim w w1->Sim (shutM w ds) (shutM w1 ds)
 | [],_,_,h=>h
 | _::ds,_,_,h=>sim_shutM (w1:=w1) ds _ _ (sim_put h _ _)
theorem Call_D {K:FuncId} {fn:Func} {c:Code} {args:List Value} {R:Value->World->Prop} (hf:P.funcs[K]?=some fn) (hb:fn.body=some c) (hn:fn.ntmps=n) (hs:Nat.ble args.length n=true)
  (h:WD P n c (fun e f w ds=>(e=.ret ∨ e=.normal)/\ds.Nodup/\(∀ D∈ds,w.heap[D]?=some (.deferred (some [])))/\∃ v,RunR P fn n f (shutM w ds) v/\R v (shutM w ds)) (nth args) w []):CallR P K args w R:=by
 subst hn
 intro w1 hw
 refine (callsIn_wide (n:=0)).1 (callsIn_of_wp_marks hf hb trivial (Go.wpIn_mono (h _ w1 (is_enter args _ (Nat.le_of_ble_eq_true hs)) rfl hw) ?_))
 rintro e a w2 ⟨f,w',ds,hi,hd,hv,he,hnd,hm,v,hr,hR⟩
 have key:LeavesInM (wideR none) 0 P fn a.tmps (fun e w2=>∃ v w',e=.returned v/\Sim w' w2/\R v w') a.defers .returning w2:=by
  rw [hd]
  have hss:=sim_shutM (w1:=w1) ds w' w2 hv
  refine leaves_marks ds w2 hnd (fun D hD=>by rw [hv.heap]; exact hm D hD) ⟨v,hr a _ hi hss,v,_,rfl,hss,hR⟩
 rcases he with rfl | rfl <;> exact key
end
end Go.Rx
end
section
namespace Go.Rx
open Go Go.Wk Go.Wl
theorem Sep.stay {B0:List Nat} {w0 w w':World} {Z:Nat->Prop} {l:List It} {B F:List Nat} (hs:Sep B0 w0 Z w l) (hx:Ext B w w') (hB:∀ b∈B,b<w.heap.size->(∀ t∈l,b ∉ t.F)/\¬ Z b) (hO:∀ t∈l,t.O=F) (hF:∀ t∈l,∀ b∈t.F,b∈F):Sep F w' Z w' l:=by
 refine ⟨Ext.refl _ _,fun b hb=>Nat.lt_of_lt_of_le (hs.zlt b hb) hx.size,fun k t hk=>?_,hs.apart⟩
 have hm:t∈l:=List.mem_of_getElem? hk
 have ok:=hs.ok k t hk
 refine ⟨ok.stab Z Z B w w' ok.holds hx (fun b hb h=>?_) (fun _ h=>h),ok.stab,fun b hb=>Nat.lt_of_lt_of_le (ok.lt b hb) hx.size,ok.notZ,fun b hb=>.inl (by rw [hO t hm]; exact hF t hm b hb),fun b hb=>by rw [hO t hm] at hb; exact hb⟩
 rcases Nat.lt_or_ge b w.heap.size with h1 | h1
 . rcases h with h | h
   . exact absurd h ((hB b hb h1).1 t hm)
   . exact absurd h (hB b hb h1).2
 . exact h1
section
variable {E:Env} {C C0:Ctx} {ρ ρ' ρb:Env1} {Z Z' Zb:Nat->Prop} {w w' wb:World} {its its' lkd:Items E.N} {nx nb:Nat} {fx:Slots E.N} {st:E.St} {f fb:Fr}
def foots (E:Env) (ρ:Env1) (its:Items E.N):List Nat:=its.flatMap fun p=>foot E.N ρ p.1 p.2
theorem mem_foots {b:Nat}:b∈foots E ρ its↔∃ p∈its,b∈foot E.N ρ p.1 p.2:=by unfold foots; exact List.mem_flatMap
theorem toIts_mem {B0:List Nat} {t:It}:t∈toIts E.N E.T ρ B0 its↔∃ p∈its,t=toIt E.N E.T ρ B0 p.1 p.2:=by
 unfold toIts
 rw [List.mem_map]
 exact ⟨fun ⟨p,h1,h2⟩=>⟨p,h1,h2.symm⟩,fun ⟨p,h1,h2⟩=>⟨p,h1,h2.symm⟩⟩
theorem Mem.okp (hm:Mem E C ρ Z w its nx) {p:Nat×Item E.N} (hp:p∈its):(toIt E.N E.T ρ C.B0 p.1 p.2).Ok C.B0 C.w0 Z w:=by
 obtain ⟨k,hk⟩:=List.getElem?_of_mem hp
 exact hm.sep.ok k _ (toIts_at hk)
theorem toIts_re {B0 B1:List Nat} {w0:World} (hs:Sep B0 w0 Z w (toIts E.N E.T ρ B0 its)) (hx:∀ p∈its,∀ b∈foot E.N ρ p.1 p.2,b∈B1 ∨ w.heap.size<=b):Sep B1 w Z w (toIts E.N E.T ρ B1 its):=by
 refine ⟨Ext.refl _ _,hs.zlt,fun k t hk=>?_,fun j k s t hj hk hne=>?_⟩
 . obtain ⟨p,hp,rfl⟩:=toIts_get hk
   have ok:=hs.ok k _ (toIts_at hp)
   refine ⟨ok.holds,toIt_stab,ok.lt,ok.notZ,fun b hb=>?_,fun b hb=>hb⟩
   rcases hx p (List.mem_of_getElem? hp) b hb with h | h
   . exact .inl h
   . exact absurd (ok.lt b hb) (by omega)
 . obtain ⟨p,hp,rfl⟩:=toIts_get hj
   obtain ⟨q,hq,rfl⟩:=toIts_get hk
   exact fun b hb hb'=>hs.apart j k (toIt E.N E.T ρ B0 p.1 p.2) (toIt E.N E.T ρ B0 q.1 q.2) (toIts_at hp) (toIts_at hq) hne b hb hb'
def Ctx.gr (ρ0:Env1) (Z:Nat->Prop) (w:World) (B:List Nat):Ctx:=⟨ρ0,Z,w,B,w⟩
theorem Mem.movB {B:List Nat} (hm:Mem E C ρ Z w its nx) (hx:Ext B w w') (hB:∀ b∈B,b<w.heap.size->b ∉ foots E ρ its/\¬ Z b) {ρ0:Env1} (h0:∀ i L,ρ0 i=some L->ρ i=some L):Mem E (Ctx.gr ρ0 Z w' (foots E ρ its)) ρ Z w' its nx:=by
 have h1:Sep (foots E ρ its) w Z w (toIts E.N E.T ρ (foots E ρ its) its):=toIts_re hm.sep fun p hp b hb=>.inl (mem_foots.2 ⟨p,hp,hb⟩)
 refine ⟨Sep.stay h1 hx (fun b hb hlt=>⟨fun t ht hbt=>?_,(hB b hb hlt).2⟩) (fun t ht=>?_) (fun t ht b hb=>?_),hm.fr,h0,fun _ h=>h,fun _ h=>.inl h⟩
 . obtain ⟨p,hp,rfl⟩:=toIts_mem.1 ht
   exact (hB b hb hlt).1 (mem_foots.2 ⟨p,hp,hbt⟩)
 . obtain ⟨p,hp,rfl⟩:=toIts_mem.1 ht; rfl
 . obtain ⟨p,hp,rfl⟩:=toIts_mem.1 ht
   exact mem_foots.2 ⟨p,hp,hb⟩
theorem Mem.base (hm:Mem E C ρ Z w its nx):Mem E (Ctx.gr ρ Z w (foots E ρ its)) ρ Z w its nx:=hm.movB (B:=[]) (Ext.refl _ _) (fun _ h=>by cases h) (fun _ _ h=>h)
theorem Mem.unbase {ib:Items E.N} (hb:Mem E C ρb Zb wb ib nb) (hm:Mem E (Ctx.gr ρb Zb wb (foots E ρb ib)) ρ Z w its nx):Mem E C ρ Z w its nx:=by
 have hB:∀ x∈foots E ρb ib,x∈C.B0 ∨ C.w0.heap.size<=x:=fun x hx=>by
  obtain ⟨p,hp,h⟩:=mem_foots.1 hx
  exact (hb.okp hp).org x h
 have hsz:=hb.sep.ext.size
 refine ⟨⟨hb.sep.ext.trans hm.sep.ext (fun x hx=>.inl hx) hB,hm.sep.zlt,fun k t hk=>?_,fun j k s t hj hk hne=>?_⟩,hm.fr,fun i L e=>hm.ge i L (hb.ge i L e),fun b h=>hm.zge b (hb.zge b h),fun b h=>?_⟩
 . obtain ⟨p,hp,rfl⟩:=toIts_get hk
   have ok:=hm.sep.ok k _ (toIts_at hp)
   refine ⟨ok.holds,toIt_stab,ok.lt,ok.notZ,fun b hb'=>?_,fun b hb=>hb⟩
   rcases ok.org b hb' with h | h
   . exact hB b h
   . exact .inr (Nat.le_trans hsz h)
 . obtain ⟨p,hp,rfl⟩:=toIts_get hj
   obtain ⟨q,hq,rfl⟩:=toIts_get hk
   exact fun b hb1 hb2=>hm.sep.apart j k (toIt E.N E.T ρ _ p.1 p.2) (toIt E.N E.T ρ _ q.1 q.2) (toIts_at hp) (toIts_at hq) hne b hb1 hb2
 . rcases hm.zle b h with h | h | h
   . exact hb.zle b h
   . exact .inr (hB b h)
   . exact .inr (.inr (Nat.le_trans hsz h))
theorem Mem.quiet {B:List Nat} (hm:Mem E C ρ Z w its nx) (hx:Ext B w w') (hB:∀ b∈B,b<w.heap.size->b ∉ foots E ρ its/\¬ Z b/\C.w0.heap.size<=b):Mem E C ρ Z w' its nx:=by
 have hsz:=hm.sep.ext.size
 refine ⟨⟨hm.sep.ext.trans hx (fun x hx=>.inl hx) (fun x hx=>?_),fun b hb=>Nat.lt_of_lt_of_le (hm.sep.zlt b hb) hx.size,fun k t hk=>?_,hm.sep.apart⟩,hm.fr,hm.ge,hm.zge,hm.zle⟩
 . rcases Nat.lt_or_ge x w.heap.size with h1 | h1
   . exact .inr (hB x hx h1).2.2
   . exact .inr (Nat.le_trans hsz h1)
 . obtain ⟨p,hp,rfl⟩:=toIts_get hk
   have ok:=hm.sep.ok k _ (toIts_at hp)
   refine ⟨toIt_stab Z Z B w w' ok.holds hx (fun b hb h=>?_) (fun _ h=>h),toIt_stab,fun b hb=>Nat.lt_of_lt_of_le (ok.lt b hb) hx.size,ok.notZ,ok.org,ok.org0⟩
   rcases Nat.lt_or_ge b w.heap.size with h1 | h1
   . rcases h with h | h
     . exact absurd (mem_foots.2 ⟨p,List.mem_of_getElem? hp,h⟩) (hB b hb h1).1
     . exact absurd h (hB b hb h1).2.1
   . exact h1
def TnW (Z:Nat->Prop) (w:World) (Z':Nat->Prop) (w':World):Prop:=Tn (fun _=>none) Z w (fun _=>none) Z' w'
theorem TnW.of (h:Tn ρ Z w ρ' Z' w'):TnW Z w Z' w':=⟨fun _ _ h=>h,h.z,h.ext⟩
theorem TnW.tn (h:TnW Z w Z' w') (hρ:∀ i L,ρ i=some L->ρ' i=some L):Tn ρ Z w ρ' Z' w':=⟨hρ,h.z,h.ext⟩
theorem TnW.tr {Z1:Nat->Prop} {w1:World} (h:TnW Z w Z1 w1) (k:TnW Z1 w1 Z' w'):TnW Z w Z' w':=Tn.trans h k
theorem TnW.q {B:List Nat} (hx:Ext B w w') (hB:∀ b∈B,b<w.heap.size->¬ Z b):TnW Z w Z w':=⟨fun _ _ h=>h,fun _ h _=>h,B,hx,fun b hb hz=>by
 rcases Nat.lt_or_ge b w.heap.size with h1 | h1
 . exact absurd hz (hB b hb h1)
 . exact h1⟩
theorem Rel.base (h:Rel E C fx lkd st ρ Z f w):Rel E (Ctx.gr ρ Z w (foots E ρ (st.items++lkd))) fx lkd st ρ Z f w:=⟨h.sl,h.fx,h.gs,h.mem.base,Tn.refl _ _ _,h.glob⟩
theorem Rel.unbase {lkd':Items E.N} {fx':Slots E.N} {st':E.St} {f':Fr} (hb:Rel E C fx lkd st ρb Zb fb wb) (h:Rel E (Ctx.gr ρb Zb wb (foots E ρb (st.items++lkd))) fx' lkd' st' ρ Z f' w):Rel E C fx' lkd' st' ρ Z f' w:=⟨h.sl,h.fx,h.gs,hb.mem.unbase h.mem,hb.tn.trans h.tn,hb.g⟩
structure Mk (E:Env) (C:Ctx) (ρ:Env1) (Z:Nat->Prop) (w:World) (its:Items E.N) (ds:List Nat):Prop where
 nd:ds.Nodup
 is:∀ D∈ds,w.heap[D]?=some (.deferred (some []))
 new:∀ D∈ds,C.w0.heap.size<=D
 ap:∀ D∈ds,D ∉ foots E ρ its/\¬ Z D
theorem Mk.lt {ds:List Nat} (h:Mk E C ρ Z w its ds):∀ D∈ds,D<w.heap.size:=fun D hD=>(Array.getElem?_eq_some_iff.1 (h.is D hD)).1
theorem Mk.go {ds:List Nat} (h:Mk E C ρ Z w its ds) (hm:Mem E (Ctx.gr ρb Z w (foots E ρ its)) ρ' Z' w' its' nx):Mk E C ρ' Z' w' its' ds:=by
 refine ⟨h.nd,fun D hD=>?_,h.new,fun D hD=>⟨fun hf=>?_,fun hz=>?_⟩⟩
 . rw [hm.sep.ext.block D (h.lt D hD) (h.ap D hD).1]; exact h.is D hD
 . obtain ⟨p,hp,hb⟩:=mem_foots.1 hf
   have hlt:=h.lt D hD
   rcases (hm.okp hp).org D hb with h1 | h1
   . exact (h.ap D hD).1 h1
   . exact absurd h1 (Nat.not_le.2 hlt)
 . have hlt:=h.lt D hD
   rcases hm.zle D hz with h1 | h1 | h1
   . exact (h.ap D hD).2 h1
   . exact (h.ap D hD).1 h1
   . exact absurd h1 (Nat.not_le.2 hlt)
theorem Mk.sub {ds:List Nat} (h:Mk E C ρ Z w its ds) (hs:∀ p∈its',p∈its):Mk E C ρ Z w its' ds:=⟨h.nd,h.is,h.new,fun D hD=>⟨fun hf=>by
 obtain ⟨p,hp,hb⟩:=mem_foots.1 hf
 exact (h.ap D hD).1 (mem_foots.2 ⟨p,hs p hp,hb⟩),(h.ap D hD).2⟩⟩
def QKD (E:Env) (C:Ctx) (fx:Slots E.N) (lkd:Items E.N) (K:Ks E):QD:=fun e f w ds=>∃ st ρ Z,Rel E C fx lkd st ρ Z f w/\Mk E C ρ Z w (st.items++lkd) ds/\endK K e st
theorem piece_ok {inl:Inl E} {an:Ann} (hE:EnvOK E) (hI:InlOK E inl) {c:Code} {K:Ks E} {ds:List Nat} (h:Rel E C fx lkd st ρ Z f w) (hk:Mk E C ρ Z w (st.items++lkd) ds) (hv:vc inl an c fx lkd st K):WD E.P an.n c (QKD E C fx lkd K) f w ds :=
 WD_of (vc_ok hE hI c _ fx lkd st K ρ Z f w h.base hv) fun _ _ _ ⟨st',ρ',Z',hr,he⟩=>⟨st',ρ',Z',h.unbase hr,hk.go hr.mem,he⟩
theorem ext_shutM:∀ (ds:List Nat) (w:World),Ext ds w (shutM w ds)
 | [],w=>Ext.refl _ _
 | D::ds,w=>by
  refine Ext.trans (B1:=[D]) (B2:=ds) (b:=w.putObj D (.deferred none)) ⟨rfl,rfl,rfl,by rw [World.putObj_size]; exact Nat.le_refl _,fun b _ hb=>World.putObj_heap_other (by simpa using hb)⟩ (ext_shutM ds _) (fun x hx=>.inl (by simp at hx; simp [hx])) (fun x hx=>.inl (List.mem_cons_of_mem _ hx))
theorem Rel.shutM {ds:List Nat} (h:Rel E C fx lkd st ρ Z f w) (hk:Mk E C ρ Z w (st.items++lkd) ds):Rel E C fx lkd st ρ Z f (Go.Rx.shutM w ds):=by
 have hx:=ext_shutM ds w
 have ht:TnW Z w Z (Go.Rx.shutM w ds):=TnW.q hx fun b hb _=>(hk.ap b hb).2
 exact ⟨fun k s e=>(ht.tn (fun _ _ h=>h)).rep (h.sl k s e),fun p hp=>(ht.tn (fun _ _ h=>h)).rep (h.fx p hp),fun k j b s e=>⟨fun hb=>(ht.tn (fun _ _ h=>h)).rep ((h.gs k j b s e).1 hb),(h.gs k j b s e).2⟩,h.mem.quiet hx fun b hb _=>⟨(hk.ap b hb).1,(hk.ap b hb).2,hk.new b hb⟩,h.tn.trans (ht.tn (fun _ _ h=>h)),h.g⟩
theorem rbP_ok2 {keep:List Nat} {vs:List LV} {lkd':Items E.N} {st':E.St} {α:Type} {g:Cur E.N α vs} {Kα:α->Prop} {K:α->E.St->Prop} (h0:Rel E C0 fx lkd st ρb Zb fb wb) (hl:∀ p∈lkd',p∈st.items++lkd)
  (h:Rel E C (keepS fx st keep++fx) lkd' st' ρ Z f w) (hρ:∀ i L,ρb i=some L->ρ i=some L) (hC:∀ i L,C.ρ0 i=some L->ρb i=some L) (hv:rbP E fx st (keepS fx st keep++fx) st' vs g Kα) (hK:allC E fx st vs g ⟨[],[],[],st.nx⟩ K) :
  ∃ new ρ2 a,Kα a/\K a new/\Rel E C (keepS fx st keep++fx) lkd' new ρ2 Z f w/\∀ i L,ρb i=some L->ρ2 i=some L:=by
 unfold rbP at hv
 cases hb:rbOK E fx st (keepS fx st keep++fx) st' vs with
 | false=>rw [hb] at hv; exact hv.elim
 | true =>
  rw [hb,cond_true] at hv
  unfold rbOK at hb
  simp only [Bool.and_eq_true] at hb
  obtain ⟨hd,hr⟩:=hb
  split at hv
  . rename_i a ha
    have hbase:∀ s id off,slotOf fx st s=.ref id off->∃ L,ρb id=some L:=fun s id off e=>by
     have:=h0.slot s
     rw [e] at this
     generalize fb s=u at this
     cases this with
     | ref hL=>exact ⟨_,hL⟩
    have hbA:∀ s id,accN (slotOf fx st s)=some id ∨ obN (slotOf fx st s)=some id->∃ L,ρb id=some L:=fun s id e=>by
     have:=h0.slot s
     generalize slotOf fx st s=x at e this
     generalize fb s=u at this
     rcases e with e | e
     . cases this with
       | acc hL=>cases e; exact ⟨_,hL⟩
       | subs hL _ _ _ _ _=>cases e; exact ⟨_,hL⟩
       | _=>cases e
     . cases this with
       | ref hL=>cases e; exact ⟨_,hL⟩
       | yld hL=>cases e; exact ⟨_,hL⟩
       | _=>cases e
    obtain ⟨new,ρ2,os,hF,hp,hk⟩:=rbAll_ok (fun s id e=>h0.ownN e) hbase hbA hρ h vs g a ⟨[],[],[],st.nx⟩ ρb [] ha (eqL_spec hr) ⟨.nil,h0.mem.fr,fun _ _ h=>h,fun k s e=>(by cases e),rfl⟩ K hK
    have hnd:(os.filterMap id).Nodup:=hp.nodup_iff.2 (by simpa using distinct_nodup hd)
    refine ⟨new,ρ2,a,hv,hk,⟨hF.sl,fun p hp=>?_,fun k j b s e=>(by rw [hF.gs] at e; cases e),?_,⟨fun i L e=>hF.sub i L (hC i L e),h.tn.z,h.tn.ext⟩,h.g⟩,hF.sub⟩
    . have r1:=h.fx p hp
      have r2:∃ v,Rep E.N E.T ρb Zb wb v p.2:=by
       rcases List.mem_append.1 hp with hp | hp
       . simp only [keepS,List.mem_map] at hp
         obtain ⟨s,_,rfl⟩:=hp
         exact ⟨_,h0.slot s⟩
       . exact ⟨_,h0.fx p hp⟩
      obtain ⟨v,r2⟩:=r2
      exact Rep.sub (Rep.lower r1 r2 hρ) hF.sub
    . refine Mem.rebuild h.mem (fun p hp=>?_) hF.tg hnd hF.fr (fun i L e=>hF.sub i L (hC i L e))
      obtain ⟨k,hk⟩:=List.getElem?_of_mem hp
      have e1:holds E.N E.T ρ p.1 Z w p.2:=h.mem.holds (k:=st'.items.length+k) (by rw [List.getElem?_append_right (by omega)]; simpa using hk)
      obtain ⟨k2,hk2⟩:=List.getElem?_of_mem (hl p hp)
      have e2:holds E.N E.T ρb p.1 Zb wb p.2:=h0.mem.holds hk2
      obtain ⟨a1,a2⟩:=holds_lower e1 e2 hρ
      obtain ⟨b1,b2⟩:=holds_sub hF.sub a1
      exact ⟨b1,by rw [b2,a2]⟩
  . exact hv.elim
end
end Go.Rx
end
section
namespace Go.Rx
open Go Go.Wk Go.Wl
structure YE (E:Env) where
 yo:ClX E.P->E.N.O 0
 is:∀ (b:Nat) (Z:Nat->Prop) (w:World) (x:ClX E.P) (F:List Nat),((E.N.oj 0).ob b).is Z w (yo x) F↔(obY E.P b).is Z w x F
def stopB (res:List Int->Int->Bool) (xs:List Int):Bool:=match xs.getLast? with | none=>false | some t=>!res xs.dropLast t
theorem stopB_app {res:List Int->Int->Bool} {xs:List Int} {t:Int}:stopB res (xs++[t])=!res xs t:=by simp [stopB]
def stA (b:Bool):LoopState:=bif b then .done else .ready
def stP (b:Bool):Option Code:=bif b then some .ret else none
def iRec (L:Nat) (r:Loop):It:=⟨[L],[L],fun _ w=>w.heap[L]?=some (.loop r)⟩
theorem iRec_stab {L:Nat} {r:Loop}:(iRec L r).Stab:=fun Z Z' B w w' h hx hB _=>by
 have h:w.heap[L]?=some (.loop r):=h
 have hlt:=(Array.getElem?_eq_some_iff.1 h).1
 show w'.heap[L]?=_
 rw [hx.block L hlt (fun hm=>absurd (hB L hm (.inl (List.mem_singleton.2 rfl))) (Nat.not_le.2 hlt))]; exact h
theorem Sep.stay2 {w w':World} {Z:Nat->Prop} {l:List It} {B F:List Nat} (hs:Sep F w Z w l) (hx:Ext B w w') (hB:∀ b∈B,b<w.heap.size->b ∉ F/\¬ Z b):Sep F w' Z w' l:=by
 refine ⟨Ext.refl _ _,fun b hb=>Nat.lt_of_lt_of_le (hs.zlt b hb) hx.size,fun k t hk=>?_,hs.apart⟩
 have ok:=hs.ok k t hk
 have hO:∀ b∈t.F,b∈t.O:=fun b hb=>by
  rcases ok.org b hb with h | h
  . exact h
  . exact absurd (ok.lt b hb) (Nat.not_lt.2 h)
 refine ⟨ok.stab Z Z B w w' ok.holds hx (fun b hb h=>?_) (fun _ h=>h),ok.stab,fun b hb=>Nat.lt_of_lt_of_le (ok.lt b hb) hx.size,ok.notZ,fun b hb=>.inl (hO b hb),ok.org0⟩
 rcases Nat.lt_or_ge b w.heap.size with h1 | h1
 . rcases h with h | h
   . exact absurd (ok.org0 b (hO b h)) (hB b hb h1).1
   . exact absurd h (hB b hb h1).2
 . exact h1
theorem ext_put (w:World) (L:Nat) (o:Obj):Ext [L] w (w.putObj L o):=⟨rfl,rfl,rfl,by rw [World.putObj_size]; exact Nat.le_refl _,fun b _ hb=>World.putObj_heap_other (by simpa using hb)⟩
section
variable {E:Env} {fx:Slots E.N} {st:E.St}
theorem allTc_to {nm:List Nat} {α:Type} {G:α->Nat->Items E.N->List E.SV->Prop}:∀ (ks:List TK) (f:tcD E.N α ks) (nx:Nat) (its:Items E.N) (acc:List E.SV),allTc E nm ks nx its acc f G->∀ Y,G (appTc ks f Y) (putTc E nm ks nx its acc Y).1 (putTc E nm ks nx its acc Y).2.1 (putTc E nm ks nx its acc Y).2.2
 | [],_,_,_,_,h,_=>h
 | .v k::r,f,_,_,_,h,Y=>allTc_to r (f Y.1) _ _ _ (h Y.1) Y.2
 | .to _::r,f,_,_,_,h,Y=>allTc_to r f _ _ _ h Y
 | .nilp::r,f,_,_,_,h,Y=>allTc_to r f _ _ _ h Y
theorem allTp_to {nm:List Nat} {α:Type} {G:α->Nat->Items E.N->Prop}:∀ (ps:List TP) (f:tpD E.N α ps) (i nx:Nat) (its:Items E.N),allTp E nm ps i nx its f G->∀ Y,G (appTp ps f Y) (putTp E nm ps i nx its Y).1 (putTp E nm ps i nx its Y).2
 | [],_,_,_,_,h,_=>h
 | .own _ T ks::r,f,i,nx,its,h,Y=>allTp_to r _ _ _ _ (allTc_to ks f nx its [] h Y.1) Y.2
 | .ob _ k::r,f,i,nx,its,h,Y=>allTp_to r (f Y.1) _ _ _ (h Y.1) Y.2
theorem allC_to {α:Type} {d:α} {G:α->E.St->Prop}:∀ (vs:List LV) (f:Cur E.N α vs) (new:E.St),okSh vs=true->allC E fx st vs f new G->∀ Y,G (appC d vs f Y) (putC E fx st vs Y new)
 | [],_,_,_,h,_=>h
 | .slot s k::r,f,new,ho,h,Y=>allC_to r (f Y.1) _ ho (h Y.1) Y.2
 | .tree ss ps::r,f,new,ho,h,Y=>allC_to r (appTp ps f Y.1) _ ho (allTp_to ps f 0 _ _ h Y.1) Y.2
 | .own _ _::_,_,_,ho,_,_=>by cases ho
 | .ob _ _::_,_,_,ho,_,_=>by cases ho
 | .cont _ _::_,_,_,ho,_,_=>by cases ho
 | .chain _ _ _ _::_,_,_,ho,_,_=>by cases ho
 | .rows _ _ _ _::_,_,_,ho,_,_=>by cases ho
 | .alt::_,_,_,ho,_,_=>by cases ho
 | .unr _::_,_,_,ho,_,_=>by cases ho
def noSl:List LV->Bool
 | []=>true
 | v::r=>(match v with | .tree ss _=>ss.isEmpty | _=>false) && noSl r
def stY (E:Env) (fx:Slots E.N) (st:E.St) (vs:List LV) (Y:vC E.N vs):E.St:=putC E fx st vs Y ⟨[],[],[],st.nx⟩
theorem putC_slots:∀ (vs:List LV) (Y:vC E.N vs) (new:E.St),noSl vs=true->(putC E fx st vs Y new).slots=new.slots
 | [],_,_,_=>rfl
 | v::r,Y,new,h=>by
  unfold noSl at h
  simp only [Bool.and_eq_true] at h
  obtain ⟨h1,h2⟩:=h
  cases v with
  | tree ss ps =>
   have h1:ss.isEmpty=true:=h1
   have e:ss=[]:=List.isEmpty_iff.1 h1
   subst e
   exact putC_slots r Y.2 _ h2
  | _=>cases h1
theorem stY_slots {vs:List LV} (Y:vC E.N vs) (h:noSl vs=true):(stY E fx st vs Y).slots=[]:=putC_slots vs Y _ h
end
section
variable {E:Env} {C0:Ctx} {ρ:Env1} {Z:Nat->Prop} {w:World} {lkd:Items E.N} {fx:Slots E.N} {st:E.St} {f:Fr} {inl:Inl E} {an:Ann}
def JY (E:Env) (fx:Slots E.N) (st:E.St) (vs:List LV) (rest:Items E.N) (L:Nat) (rec:LoopState->Option Code->Loop) (I:List Int->Cur E.N Prop vs) (res:List Int->Int->Bool) (ρ:Env1) (Z:Nat->Prop) (w:World) (Zc:Nat->Prop) (wc:World) (xs:List Int) (F:List Nat):Prop :=
 ∃ (Y:vC E.N vs) (ρj:Env1) (Zj:Nat->Prop),appC False vs (I xs) Y/\(∀ i,(stY E fx st vs Y).nx<=i->ρj i=none)/\(∀ i Lo,ρ i=some Lo->ρj i=some Lo)/\(∀ b,Zj b->Zc b ∨ b∈F)/\(∀ b∈F,b<wc.heap.size)/\TnW Z w Zj wc /\
  Sep F wc Zj wc (iRec L (rec (stA (stopB res xs)) (stP (stopB res xs)))::toIts E.N E.T ρj F ((stY E fx st vs Y).items++rest))
variable {vs:List LV} {rest:Items E.N} {L:Nat} {I:List Int->Cur E.N Prop vs} {res:List Int->Int->Bool} {pre:List Int->Int->Prop} {keep:List Nat} {p:Nat} {asg body:Code} {fn D:Nat} {tm:Array Value}
theorem JY_stab {rec:LoopState->Option Code->Loop} {xs:List Int} {F:List Nat}:It.Stab ⟨F,[],fun Zc wc=>JY E fx st vs rest L rec I res ρ Z w Zc wc xs F⟩:=by
 intro Z1 Z2 B w1 w2 h hx hB hZ
 obtain ⟨Y,ρj,Zj,hY,hfr,hsub,hZj,hlt,htn,hs⟩:=h
 have hB':∀ b∈B,b<w1.heap.size->b ∉ F/\¬ Zj b:=fun b hb h1=>by
  have hF:b ∉ F:=fun h=>absurd (hB b hb (.inl h)) (Nat.not_le.2 h1)
  refine ⟨hF,fun hz=>?_⟩
  rcases hZj b hz with h | h
  . exact absurd (hB b hb (.inr h)) (Nat.not_le.2 h1)
  . exact hF h
 refine ⟨Y,ρj,Zj,hY,hfr,hsub,fun b hb=>?_,fun b hb=>Nat.lt_of_lt_of_le (hlt b hb) hx.size,htn.tr (TnW.q hx fun b hb h1=>(hB' b hb h1).2),Sep.stay2 hs hx hB'⟩
 rcases hZj b hb with h | h
 . exact .inl (hZ b h)
 . exact .inr h
theorem rel_go {C:Ctx} {ρ1:Env1} {Z1:Nat->Prop} {w1 w2:World} {st1:E.St} {f1:Fr} {fx1:Slots E.N} {lk1:Items E.N} {B:List Nat} (h:Rel E C fx1 lk1 st1 ρ1 Z1 f1 w1) (hx:Ext B w1 w2) (hB:∀ b∈B,b<w1.heap.size->b ∉ foots E ρ1 (st1.items++lk1)/\¬ Z1 b):Rel E (Ctx.gr C.ρ0 Z1 w2 (foots E ρ1 (st1.items++lk1))) fx1 lk1 st1 ρ1 Z1 f1 w2:=by
 have ht:Tn ρ1 Z1 w1 ρ1 Z1 w2:=(TnW.q hx fun b hb h1=>(hB b hb h1).2).tn (fun _ _ h=>h)
 exact ⟨fun k s e=>ht.rep (h.sl k s e),fun q hq=>ht.rep (h.fx q hq),fun k j b s e=>⟨fun hb=>ht.rep ((h.gs k j b s e).1 hb),(h.gs k j b s e).2⟩,h.mem.movB hx hB h.mem.ge,⟨h.mem.ge,fun _ h _=>h,[],Ext.refl _ _,fun _ h=>by cases h⟩,Glob.turn h.glob ht⟩
theorem round_ok (hE:EnvOK E) (hI:InlOK E inl) (h:Rel E C0 fx lkd st ρ Z f w) (hrest:∀ q∈rest,q∈st.items++lkd) (hns:noSl vs=true) (hok:okSh vs=true) (hp:Nat.blt p an.n=true) (hpf:∀ q∈keepS fx st keep++fx,q.1≠p)
  (hst:∀ xs t,pre xs t->stopB res xs=false)
  (hv:∀ xs t,in64 t->pre xs t->allC E fx st vs (I xs) ⟨[],[],[],st.nx⟩ (fun x new=>x->vc inl an asg (keepS fx st keep++fx) rest ⟨(p,.int .i64 t)::new.slots,[],new.items,new.nx⟩
   ⟨fun st1=>vc inl an body (keepS fx st keep++fx) rest st1 ⟨fun st'=>res xs t=true/\rbP E fx st (keepS fx st keep++fx) st' vs (I (xs++[t])) id,fun st'=>res xs t=false/\rbP E fx st (keepS fx st keep++fx) st' vs (I (xs++[t])) id,[]⟩,fun _=>False,[]⟩))
  (hi:Is { tmps:=tm,defers:=[] } f an.n) (Zc:Nat->Prop) (wc:World) (F:List Nat) (xs:List Int) (t:Int) (hz:∀ b,Zc b->b<wc.heap.size) (hF:∀ b∈F,¬ Zc b) (hJ:JY E fx st vs rest L (rcL fn tm #[p] asg body D) I res ρ Z w Zc wc xs F) (hpre:pre xs t) (hin:in64 t) :
  YieldR E.P L [.int .i64 t] wc (fun v w'=>v=.bool (res xs t)/\∃ F',JY E fx st vs rest L (rcL fn tm #[p] asg body D) I res ρ Z w Zc w' (xs++[t]) F'/\Turn wc w' F F'):=by
 classical
 obtain ⟨Y,ρj,Zj,hY,hfr,hsub,hZj,hlt,htn,hs⟩:=hJ
 have hsb:=hst xs t hpre
 rw [hsb] at hs
 have hrec:wc.heap[L]?=some (.loop (rcL fn tm #[p] asg body D .ready none)):=hs.at 0 rfl
 have hLlt:L<wc.heap.size:=(Array.getElem?_eq_some_iff.1 hrec).1
 have hLF:L∈F:=(hs.ok 0 _ rfl).org0 L (List.mem_singleton.2 rfl)
 have hLZ:¬ Zj L:=hs.nz 0 rfl L (List.mem_singleton.2 rfl)
 have hLf:L ∉ foots E ρj ((stY E fx st vs Y).items++rest):=fun hm=>by
  obtain ⟨q,hq,hb⟩:=mem_foots.1 hm
  obtain ⟨k,hk⟩:=List.getElem?_of_mem hq
  exact hs.apart 0 (k+1) _ (toIt E.N E.T ρj F q.1 q.2) rfl (by rw [List.getElem?_cons_succ]; exact toIts_at hk) (by omega) L (List.mem_singleton.2 rfl) hb
 have hfF:∀ b∈foots E ρj ((stY E fx st vs Y).items++rest),b∈F:=fun b hm=>by
  obtain ⟨q,hq,hb⟩:=mem_foots.1 hm
  obtain ⟨k,hk⟩:=List.getElem?_of_mem hq
  have ok:=hs.ok (k+1) (toIt E.N E.T ρj F q.1 q.2) (by rw [List.getElem?_cons_succ]; exact toIts_at hk)
  rcases ok.org b hb with h1 | h1
  . exact h1
  . exact absurd (ok.lt b hb) (Nat.not_lt.2 h1)
 have hm0:Mem E (Ctx.gr ρ Zj wc F) ρj Zj wc ((stY E fx st vs Y).items++rest) (stY E fx st vs Y).nx:=⟨hs.drop,hfr,hsub,fun _ h=>h,fun _ h=>.inl h⟩
 have hm:=hm0.movB (B:=[]) (Ext.refl _ _) (fun _ h=>by cases h) hsub
 have hT:Tn ρ Z w ρj Zj wc:=htn.tn hsub
 have hr0:Rel E (Ctx.gr ρ Zj wc (foots E ρj ((stY E fx st vs Y).items++rest))) (keepS fx st keep++fx) rest ⟨(p,.int .i64 t)::(stY E fx st vs Y).slots,[],(stY E fx st vs Y).items,(stY E fx st vs Y).nx⟩ ρj Zj (upd f p (.int .i64 t)) wc:=by
  refine ⟨fun k s e=>?_,fun q hq=>?_,fun k j b s e=>(by cases e),hm,⟨hsub,fun _ h _=>h,[],Ext.refl _ _,fun _ h=>by cases h⟩,Glob.turn h.glob hT⟩
  . have e:lk ((p,.int .i64 t)::(stY E fx st vs Y).slots) k=some s:=e
    rw [lk_cons] at e
    by_cases hk:p=k
    . rw [if_pos hk] at e; cases e; subst hk; rw [upd_eq,if_pos rfl]; exact .int fun _=>hin
    . rw [if_neg hk,stY_slots Y hns] at e; cases e
  . rw [upd_eq,if_neg (hpf q hq)]
    refine hT.rep ?_
    rcases List.mem_append.1 hq with hq | hq
    . simp only [keepS,List.mem_map] at hq
      obtain ⟨s,_,rfl⟩:=hq
      exact h.slot s
    . exact h.fx q hq
 have hvc:=allC_to (d:=False) vs (I xs) _ hok (hv xs t hin hpre) Y hY
 refine yield_round hrec hi hp (W_mono (vc_ok hE hI asg _ _ _ _ _ ρj Zj _ wc hr0 hvc) fun e f2 w2 q=>?_)
 obtain ⟨st1,ρ1,Z1,hr1,he1⟩:=q
 cases e with
 | normal =>
  have he1:vc inl an body (keepS fx st keep++fx) rest st1 ⟨fun st'=>res xs t=true/\rbP E fx st (keepS fx st keep++fx) st' vs (I (xs++[t])) id,fun st'=>res xs t=false/\rbP E fx st (keepS fx st keep++fx) st' vs (I (xs++[t])) id,[]⟩:=he1
  have hx1:Ext (foots E ρj ((stY E fx st vs Y).items++rest)) wc w2:=hr1.mem.sep.ext
  have hL2:w2.heap[L]?=some (.loop (rcL fn tm #[p] asg body D .ready none)):=by rw [hx1.block L hLlt hLf]; exact hrec
  refine ⟨hL2,?_⟩
  have hLf1:L ∉ foots E ρ1 (st1.items++rest):=fun hm=>by
   obtain ⟨q,hq,hb⟩:=mem_foots.1 hm
   rcases (hr1.mem.okp hq).org L hb with h1 | h1
   . exact hLf h1
   . exact absurd hLlt (Nat.not_lt.2 h1)
  have hLZ1:¬ Z1 L:=fun hz=>by
   rcases hr1.mem.zle L hz with h1 | h1 | h1
   . exact hLZ h1
   . exact hLf h1
   . exact absurd hLlt (Nat.not_lt.2 h1)
  have hr2:=rel_go hr1 (ext_put w2 L (.loop (rcL fn tm #[p] asg body D .busy none))) (fun b hb _=>by rw [List.mem_singleton] at hb; subst hb; exact ⟨hLf1,hLZ1⟩)
  refine W_mono (vc_ok hE hI body _ _ _ _ _ ρ1 Z1 f2 _ hr2 he1) fun e f3 w3 q=>?_
  obtain ⟨st',ρ',Z',hr',he'⟩:=q
  have hx3:Ext (foots E ρ1 (st1.items++rest)) (w2.putObj L (.loop (rcL fn tm #[p] asg body D .busy none))) w3:=hr'.mem.sep.ext
  have hLlt2:L<w2.heap.size:=(Array.getElem?_eq_some_iff.1 hL2).1
  have hLlt2':L<(w2.putObj L (.loop (rcL fn tm #[p] asg body D .busy none))).heap.size:=by rw [World.putObj_size]; exact hLlt2
  have hL3:w3.heap[L]?=some (.loop (rcL fn tm #[p] asg body D .busy none)):=by rw [hx3.block L hLlt2' hLf1]; exact World.putObj_heap_same hLlt2
  have hLlt3:L<w3.heap.size:=(Array.getElem?_eq_some_iff.1 hL3).1
  have fin:∀ b:Bool,res xs t=b->rbP E fx st (keepS fx st keep++fx) st' vs (I (xs++[t])) id->(Value.bool b=.bool (res xs t)/\∃ F',JY E fx st vs rest L (rcL fn tm #[p] asg body D) I res ρ Z w Zc (w3.putObj L (.loop (rcL fn tm #[p] asg body D (stA (!b)) (stP (!b))))) (xs++[t]) F'/\Turn wc (w3.putObj L (.loop (rcL fn tm #[p] asg body D (stA (!b)) (stP (!b))))) F F'):=by
   intro b hb hrb
   obtain ⟨new,ρ2,a,ha,⟨Y',e1,e2⟩,hr3,hsub2⟩:=rbP_ok2 (K:=fun x new=>∃ Y,x=appC False vs (I (xs++[t])) Y/\new=stY E fx st vs Y) h hrest hr' hr'.mem.ge (fun _ _ h=>h) hrb (allC_of (d:=False) vs _ _ hok fun Y=>⟨Y,rfl,rfl⟩)
   subst e2
   have hLf2:L ∉ foots E ρ2 ((stY E fx st vs Y').items++rest):=fun hm=>by
    obtain ⟨q,hq,hb⟩:=mem_foots.1 hm
    rcases (hr3.mem.okp hq).org L hb with h1 | h1
    . exact hLf1 h1
    . exact absurd hLlt2' (Nat.not_lt.2 h1)
   have hLZ2:¬ Z' L:=fun hz=>by
    rcases hr3.mem.zle L hz with h1 | h1 | h1
    . exact hLZ1 h1
    . exact hLf1 h1
    . exact absurd hLlt2' (Nat.not_lt.2 h1)
   have hm4:=hr3.mem.movB (ext_put w3 L (.loop (rcL fn tm #[p] asg body D (stA (!b)) (stP (!b))))) (fun b' hb' _=>by rw [List.mem_singleton] at hb'; subst hb'; exact ⟨hLf2,hLZ2⟩) hr3.mem.ge
   have hs1:w2.heap.size<=w3.heap.size:=by have:=hx3.size; rw [World.putObj_size] at this; exact this
   have hs0:=hx1.size
   let ex:=(List.range w3.heap.size).filter fun b=>decide (Z' b/\¬ Zc b)
   have hex:∀ b,b∈ex↔b<w3.heap.size/\Z' b/\¬ Zc b:=fun b=>by simp [ex]
   -- old feet
   have org1:∀ b∈foots E ρ1 (st1.items++rest),b∈F ∨ wc.heap.size<=b:=fun b hb=>by
    obtain ⟨q,hq,hb⟩:=mem_foots.1 hb
    rcases (hr1.mem.okp hq).org b hb with h1 | h1
    . exact .inl (hfF b h1)
    . exact .inr h1
   have org2:∀ b∈foots E ρ2 ((stY E fx st vs Y').items++rest),b∈F ∨ wc.heap.size<=b:=fun b hb=>by
    obtain ⟨q,hq,hb⟩:=mem_foots.1 hb
    rcases (hr3.mem.okp hq).org b hb with h1 | h1
    . exact org1 b h1
    . have h1:(w2.putObj L (.loop (rcL fn tm #[p] asg body D .busy none))).heap.size<=b:=h1
      rw [World.putObj_size] at h1; exact .inr (Nat.le_trans hs0 h1)
   have orgZ:∀ b,Z' b->Zc b ∨ b∈F ∨ wc.heap.size<=b:=fun b hz=>by
    rcases hr3.mem.zle b hz with h1 | h1 | h1
    . rcases hr1.mem.zle b h1 with h1 | h1 | h1
      . rcases hZj b h1 with h1 | h1
        . exact .inl h1
        . exact .inr (.inl h1)
      . exact .inr (.inl (hfF b h1))
      . exact .inr (.inr h1)
    . exact .inr (org1 b h1)
    . have h1:(w2.putObj L (.loop (rcL fn tm #[p] asg body D .busy none))).heap.size<=b:=h1
      rw [World.putObj_size] at h1; exact .inr (.inr (Nat.le_trans hs0 h1))
   have ltf:∀ b∈foots E ρ2 ((stY E fx st vs Y').items++rest),b<w3.heap.size:=fun b hb=>by
    obtain ⟨q,hq,hb⟩:=mem_foots.1 hb
    exact (hr3.mem.okp hq).lt b hb
   refine ⟨by rw [hb],L::(foots E ρ2 ((stY E fx st vs Y').items++rest)++ex),⟨Y',ρ2,Z',e1 ▸ ha,hr3.mem.fr,hsub2,fun b hb=>?_,fun b hb=>?_,?_,?_⟩,?_,fun b hb=>?_⟩
   . by_cases hc:Zc b
     . exact .inl hc
     . exact .inr (List.mem_cons_of_mem _ (List.mem_append_right _ ((hex b).2 ⟨hr3.mem.sep.zlt b hb,hb,hc⟩)))
   . rw [World.putObj_size]
     rcases List.mem_cons.1 hb with rfl | hb
     . exact hLlt3
     . rcases List.mem_append.1 hb with hb | hb
       . exact ltf b hb
       . exact ((hex b).1 hb).1
   . exact (((htn.tr (TnW.of hr1.tn)).tr (TnW.q (ext_put w2 L _) fun b hb _=>by rw [List.mem_singleton] at hb; subst hb; exact hLZ1)).tr (TnW.of hr3.tn)).tr (TnW.q (ext_put w3 L _) fun b hb _=>by rw [List.mem_singleton] at hb; subst hb; exact hLZ2)
   . have es:stopB res (xs++[t])=!b:=by rw [stopB_app,hb]
     rw [es]
     have h5:Sep (L::(foots E ρ2 ((stY E fx st vs Y').items++rest)++ex)) (w3.putObj L (.loop (rcL fn tm #[p] asg body D (stA (!b)) (stP (!b))))) Z' (w3.putObj L (.loop (rcL fn tm #[p] asg body D (stA (!b)) (stP (!b))))) (toIts E.N E.T ρ2 (L::(foots E ρ2 ((stY E fx st vs Y').items++rest)++ex)) ((stY E fx st vs Y').items++rest)) :=
      toIts_re hm4.sep fun q hq b hb=>.inl (List.mem_cons_of_mem _ (List.mem_append_left _ (mem_foots.2 ⟨q,hq,hb⟩)))
     refine Sep.give h5 ?_ iRec_stab (fun b' hb'=>?_) (fun b' hb'=>?_) rfl (fun b' hb'=>?_) (fun k s hk b' hb' hbs=>?_)
     . exact World.putObj_heap_same hLlt3
     . have hb':b'∈[L]:=hb'
       rw [List.mem_singleton] at hb'; subst hb'; rw [World.putObj_size]; exact hLlt3
     . have hb':b'∈[L]:=hb'
       rw [List.mem_singleton] at hb'; subst hb'; exact hLZ2
     . have hb':b'∈[L]:=hb'
       rw [List.mem_singleton] at hb'; subst hb'; exact List.mem_cons_self ..
     . have hb':b'∈[L]:=hb'
       rw [List.mem_singleton] at hb'; subst hb'
       obtain ⟨q,hq,rfl⟩:=toIts_get hk
       exact hLf2 (mem_foots.2 ⟨q,List.mem_of_getElem? hq,hbs⟩)
   . refine Ext.trans (B1:=F) (B2:=F) (b:=w3) ?_ ((ext_put w3 L _).mono fun x hx=>by rw [List.mem_singleton] at hx; subst hx; exact .inl hLF) (fun x hx=>.inl hx) (fun x hx=>.inl hx)
     refine Ext.trans (B1:=F) (B2:=foots E ρ1 (st1.items++rest)) (b:=w2.putObj L (.loop (rcL fn tm #[p] asg body D .busy none))) ?_ hx3 (fun x hx=>.inl hx) org1
     exact Ext.trans (B1:=foots E ρj ((stY E fx st vs Y).items++rest)) (B2:=[L]) (b:=w2) hx1 (ext_put w2 L _) (fun x hx=>.inl (hfF x hx)) (fun x hx=>by rw [List.mem_singleton] at hx; subst hx; exact .inl hLF)
   . rcases List.mem_cons.1 hb with rfl | hb
     . exact .inl hLF
     . rcases List.mem_append.1 hb with hb | hb
       . exact org2 b hb
       . rcases orgZ b ((hex b).1 hb).2.1 with h1 | h1
         . exact absurd h1 ((hex b).1 hb).2.2
         . exact h1
  cases e with
  | normal=>exact ⟨hL3,.inl ⟨rfl,fin true he'.1 he'.2⟩⟩
  | ret=>exact ⟨hL3,.inr ⟨rfl,fin false he'.1 he'.2⟩⟩
  | _=>exact he'.elim
 | _=>exact he1.elim
end
end Go.Rx
end
section
namespace Go.Rx
open Go Go.Wk Go.Wl
def refIds {N:Uni}:List (SV N)->Option (List Nat)
 | []=>some []
 | v::r=>match v with
  | .ref id off=>bif Nat.beq off 0 then (match refIds r with | some l=>some (id::l) | none=>none) else none
  | _=>none
def canI {N:Uni} (its:Items N):Nat->List Nat->Option (Items N)
 | _,[]=>some []
 | n,id::r=>match lk its id with
  | some (.own T cells)=>bif cells.all pureS then (match canI its (n+1) r with | some l=>some ((n,.own T cells)::l) | none=>none) else none
  | _=>none
def refsC {N:Uni}:Nat->Nat->List (SV N)
 | _,0=>[]
 | n,m+1=>.ref n 0::refsC (n+1) m
structure Tell (E:Env) (Y:YE E) where
 f:Nat->List E.SV->Items E.N->(List Int->Int->Prop)->(List Int->Int->Bool)->Option (Prop×List Int)
 ok:∀ K cs its pre res ob xs,f K cs its pre res=some (ob,xs)->ob->(∀ args w,(callFunc K args).run E.P w=.ok (.enter K args) w)/\∀ c:Cl E.P,c.pre=pre->c.res=res ->
  GenOK E.P E.N E.T E.G K (.yld 0::cs) ((0,.ob 0 (its.length+1) (Y.yo (c,[])))::its) (2 * (its.length+1)) (fun k=>∀ fid n v,k v ((0,.ob 0 fid (Y.yo (c,xs)))::its) n)
section
variable {E:Env} {ρ ρ':Env1} {Z:Nat->Prop} {w e:World} {its:Items E.N}
theorem canI_spec:∀ (ids:List Nat) (n:Nat) (itc:Items E.N),canI its n ids=some itc->itc.length=ids.length/\∀ j q,itc[j]?=some q->∃ id T cells,ids[j]?=some id/\lk its id=some (.own T cells)/\cells.all pureS=true/\q=(n+j,.own T cells)
 | [],n,itc,h=>by cases h; exact ⟨rfl,fun j q hq=>by simp at hq⟩
 | id::r,n,itc,h=>by
  unfold canI at h
  split at h
  . rename_i T cells hl
    have ⟨h1,h2⟩:=bif_some h
    split at h2
    . rename_i l hr
      cases h2
      obtain ⟨g1,g2⟩:=canI_spec r (n+1) l hr
      refine ⟨by simp [g1],fun j q hq=>?_⟩
      cases j with
      | zero=>simp at hq; exact ⟨id,T,cells,rfl,hl,h1,by rw [<- hq]; rfl⟩
      | succ j =>
       obtain ⟨id',T',cells',a1,a2,a3,a4⟩:=g2 j q (by simpa using hq)
       exact ⟨id',T',cells',by simpa using a1,a2,a3,by rw [a4]; congr 1; omega⟩
    . cases h2
  . cases h
theorem refs_tup {ρc:Env1}:∀ (cs:List E.SV) (ids:List Nat) (vs:List Value) (n:Nat),refIds cs=some ids->RepL E.N E.T ρ Z w vs cs->(∀ j id,ids[j]?=some id->ρc (n+j)=ρ id)->Rep E.N E.T ρc Z e (.tuple vs.toArray) (.tup (refsC n ids.length))
 | [],ids,vs,n,h,hr,_=>by
  cases h
  rw [RepL.nil_inv hr]; exact .tup0
 | v::cs,ids,vs,n,h,hr,hc=>by
  unfold refIds at h
  split at h
  . rename_i id off
    have ⟨h1,h2⟩:=bif_some h
    split at h2
    . rename_i l hl
      cases h2
      have:=Nat.eq_of_beq_eq_true h1
      subst this
      obtain ⟨v1,r,rfl,g1,_,g2⟩:=hr.cons_inv
      cases g1 with
      | ref hL =>
       exact .tup1 (.ref (by have:=hc 0 id rfl; rw [Nat.add_zero] at this; rw [this]; exact hL)) (refs_tup cs l r (n+1) hl g2 fun j id' hj=>by rw [show n+1+j=n+(j+1) by omega]; exact hc (j+1) id' (by simpa using hj))
    . cases h2
  . cases h
theorem lk_uniq {id:Nat} {x y:Item E.N} (hd:distinct (its.map (·.1))=true) (h1:lk its id=some x) (h2:(id,y)∈its):y=x:=by
 have hn:=distinct_nodup hd
 obtain ⟨i,hi,_⟩:=lk_mem h1
 obtain ⟨j,hj⟩:=List.getElem?_of_mem h2
 have e1:(its.map (·.1))[i]?=some id:=by simp [hi]
 have e2:(its.map (·.1))[j]?=some id:=by simp [hj]
 have hlt:i<(its.map (·.1)).length:=lt_get e1
 have:i=j:=(List.getElem?_inj hlt hn).1 (e1.trans e2.symm)
 subst this
 rw [hi] at hj; cases hj; rfl
end
section
variable {E:Env} {C:Ctx} {ρ:Env1} {Z:Nat->Prop} {w:World} {lkd:Items E.N} {fx:Slots E.N} {st:E.St} {f:Fr} {inl:Inl E} {an:Ann} {YY:YE E} {ds:List Nat}
variable {vs:List LV} {I:List Int->Cur E.N Prop vs} {res:List Int->Int->Bool} {pre:List Int->Int->Prop} {keep ids iti:List Nat} {p:Nat} {asg body:Code} {K:Ks E} {g:Operand} {gf:Nat} {cs:List E.SV} {itc:Items E.N} {ob:Prop} {xs:List Int}
theorem entered_ext (w:World) (fn:FuncId) (tm:Array Value) (ps:Array Tmp) (asg body:Code):Ext [] w (entered w fn tm ps asg body):=by
 have h1:∀ (w:World) (o:Obj),Ext [] w (w.alloc o):=fun w o=>⟨rfl,rfl,rfl,by show w.heap.size<=(w.heap.push o).size; rw [Array.size_push]; omega,fun k hk _=>by
  show (w.heap.push o)[k]?=_
  rw [Array.getElem?_push,if_neg (by omega)]⟩
 exact (h1 w _).tr (h1 _ _)
theorem entered_size (w:World) (fn:FuncId) (tm:Array Value) (ps:Array Tmp) (asg body:Code):(entered w fn tm ps asg body).heap.size=w.heap.size+2:=by
 show ((w.heap.push _).push _).size=_
 rw [Array.size_push,Array.size_push]
theorem entered_L (w:World) (fn:FuncId) (tm:Array Value) (ps:Array Tmp) (asg body:Code):(entered w fn tm ps asg body).heap[w.heap.size+1]?=some (.loop (rcL fn tm ps asg body w.heap.size .ready none)):=by
 show ((w.heap.push _).push _)[w.heap.size+1]?=_
 rw [Array.getElem?_push,if_pos (by rw [Array.size_push])]
theorem entered_D (w:World) (fn:FuncId) (tm:Array Value) (ps:Array Tmp) (asg body:Code):(entered w fn tm ps asg body).heap[w.heap.size]?=some (.deferred (some [])):=by
 show ((w.heap.push _).push _)[w.heap.size]?=_
 rw [Array.getElem?_push,if_neg (by rw [Array.size_push]; omega),Array.getElem?_push,if_pos rfl]
theorem range_ok (hE:EnvOK E) (hI:InlOK E inl) (TL:Tell E YY) (h:Rel E C fx lkd st ρ Z f w) (hk:Mk E C ρ Z w (st.items++lkd) ds) (hg:evS fx lkd st [] g=.clo gf cs) (hcs:refIds cs=some iti) (hci:canI st.items 1 iti=some itc)
  (hp:Nat.blt p an.n=true) (hdi:distinct iti=true) (hds:distinct (st.items.map (·.1))=true) (hns:noSl vs=true) (hok:okSh vs=true) (hni:iti.all (fun i=>!ids.elem i)=true) (hpf:(keepS fx st keep++fx).all (fun q=>!Nat.beq q.1 p)=true)
  (hids:ids=idsOf E fx st vs)
  (h0:rbP E fx st (keepS fx st keep++fx) (inn st ids) vs (I []) id) (hst:∀ xs t,pre xs t->stopB res xs=false)
  (hv:∀ xs t,in64 t->pre xs t->allC E fx st vs (I xs) ⟨[],[],[],st.nx⟩ (fun x new=>x->vc inl an asg (keepS fx st keep++fx) (without (without st.items ids) iti++lkd) ⟨(p,.int .i64 t)::new.slots,[],new.items,new.nx⟩
   ⟨fun st1=>vc inl an body (keepS fx st keep++fx) (without (without st.items ids) iti++lkd) st1 ⟨fun st'=>res xs t=true/\rbP E fx st (keepS fx st keep++fx) st' vs (I (xs++[t])) id,fun st'=>res xs t=false/\rbP E fx st (keepS fx st keep++fx) st' vs (I (xs++[t])) id,[]⟩,fun _=>False,[]⟩))
  (ht:TL.f gf (refsC 1 iti.length) itc pre res=some (ob,xs)) (hob:ob)
  (hK:allC E fx st vs (I xs) ⟨[],[],[],st.nx⟩ (fun x new=>x->(bif stopB res xs then K.r else K.n) ⟨new.slots++keepS fx st keep,[],new.items++without st.items ids,new.nx⟩)) :
  WD E.P an.n (.rangeFunc g #[p] asg body) (QKD E C fx lkd K) f w ds:=by
 have hR:=h.base
 obtain ⟨new,ρ2,a,ha,⟨Y0,e1,e2⟩,h2⟩:=rbP_ok (K:=fun x new=>∃ Y,x=appC False vs (I []) Y/\new=stY E fx st vs Y) hR (hR.enter keep ids) h0 (allC_of (d:=False) vs _ _ hok fun Y=>⟨Y,rfl,rfl⟩)
 subst e2
 have hm2:Mem E (Ctx.gr ρ Z w (foots E ρ (st.items++lkd))) ρ2 Z w ((stY E fx st vs Y0).items++(without st.items ids++lkd)) (stY E fx st vs Y0).nx:=h2.mem
 have hsub2:∀ i L,ρ i=some L->ρ2 i=some L:=hm2.ge
 generalize hWi:without st.items ids=Wi at *
 generalize hrest:without Wi iti++lkd=rest at *
 have hWsub:∀ q∈Wi,q∈st.items:=fun q hq=>by rw [<- hWi] at hq; exact (List.mem_filter.1 hq).1
 have hrsub:∀ q∈rest,q∈st.items++lkd:=fun q hq=>by
  rw [<- hrest] at hq
  rcases List.mem_append.1 hq with hq | hq
  . exact List.mem_append_left _ (hWsub q (List.mem_filter.1 hq).1)
  . exact List.mem_append_right _ hq
 have perm:∀ A:Items E.N,(A++(Wi++lkd)).Perm ((A++rest)++within Wi iti):=fun A=>by
  rw [<- hrest,List.append_assoc A]
  refine List.Perm.append_left A ?_
  have:=(split_perm Wi iti).append_right lkd
  refine this.trans ?_
  rw [List.append_assoc]
  exact List.perm_append_comm
 have hmp:=hm2.perm (perm (stY E fx st vs Y0).items)
 -- the parts that the function is led to
 obtain ⟨hlen,hcan⟩:=canI_spec iti 1 itc hci
 have hndi:=distinct_nodup hdi
 have inI:∀ j id,iti[j]?=some id->∃ T cells L,lk st.items id=some (.own T cells)/\cells.all pureS=true/\itc[j]?=some (1+j,.own T cells)/\ρ id=some L/\L.bs=[L.b]/\(id,Item.own T cells)∈st.items:=fun j id hj=>by
  have hlt:j<itc.length:=by rw [hlen]; exact lt_get hj
  obtain ⟨id',T,cells,a1,a2,a3,a4⟩:=hcan j _ (List.getElem?_eq_getElem hlt)
  rw [hj] at a1; cases a1
  obtain ⟨k,hk',_⟩:=lk_mem a2
  obtain ⟨L,_,hL,hbs,_⟩:=h.mem.holds (its_get (l2:=lkd) hk')
  exact ⟨T,cells,L,a2,a3,by rw [List.getElem?_eq_getElem hlt,a4],hL,hbs,List.mem_of_getElem? hk'⟩
 have inW:∀ q∈within Wi iti,∃ (j:Nat) (T:Nat) (cells:List E.SV) (L:Loc),iti[j]?=some q.1/\q.2=.own T cells/\cells.all pureS=true/\itc[j]?=some (1+j,.own T cells)/\ρ q.1=some L/\L.bs=[L.b]/\q∈st.items:=fun q hq=>by
  obtain ⟨q1,q2⟩:=q
  obtain ⟨hq1,hq2⟩:=List.mem_filter.1 hq
  obtain ⟨j,hj⟩:=List.getElem?_of_mem (List.elem_iff.1 hq2)
  obtain ⟨T,cells,L,b1,b2,b3,b4,b5,_⟩:=inI j q1 hj
  exact ⟨j,T,cells,L,hj,lk_uniq hds b1 (hWsub _ hq1),b2,b3,b4,b5,hWsub _ hq1⟩
 -- the closure
 have hre:=h.ev AllG.nil g
 rw [hg] at hre
 generalize hgv:Wk.ev f g=gv at hre
 cases hre with | @clo _ lb _ hrl =>
 have hrl:RepL E.N E.T ρ Z w lb cs:=hrl
 obtain ⟨heg,hgen⟩:=TL.ok _ _ _ _ _ _ _ ht hob
 refine WD_range (lb:=lb) hgv heg fun fn tm hi=>?_
 have hxe:=entered_ext w fn tm #[p] asg body
 have hse:=entered_size w fn tm #[p] asg body
 have hL0:=entered_L w fn tm #[p] asg body
 have hD0:=entered_D w fn tm #[p] asg body
 generalize entered w fn tm #[p] asg body=ew at hxe hse hL0 hD0 ⊢
 have hzw:∀ b,Z b->b<w.heap.size:=h.mem.sep.zlt
 have hlt2:∀ (b:Nat) (its:Items E.N),(∀ q∈its,q∈(stY E fx st vs Y0).items++(Wi++lkd))->b∈foots E ρ2 its->b<w.heap.size:=fun b its hs hb=>by
  obtain ⟨q,hq,hb⟩:=mem_foots.1 hb
  exact (hm2.okp (hs q hq)).lt b hb
 -- the client's own parts
 have hl1:∀ q∈(stY E fx st vs Y0).items++rest,q∈(stY E fx st vs Y0).items++(Wi++lkd):=fun q hq=>(perm _).mem_iff.2 (List.mem_append_left _ hq)
 have hmJ:Mem E (Ctx.gr ρ Z ew (foots E ρ2 ((stY E fx st vs Y0).items++rest))) ρ2 Z ew ((stY E fx st vs Y0).items++rest) (stY E fx st vs Y0).nx :=
  (hmp.sel (its':=(stY E fx st vs Y0).items++rest) (nx':=(stY E fx st vs Y0).nx) (fun _ _ h=>h) hmp.fr (fun i=>i) (fun _ _ _ _ h=>h) fun i q hq=>its_get hq).movB hxe (fun _ h=>by cases h) hsub2
 generalize hF0:(w.heap.size+1)::foots E ρ2 ((stY E fx st vs Y0).items++rest)=F0
 have hLn:w.heap.size+1 ∉ foots E ρ2 ((stY E fx st vs Y0).items++rest):=fun hm=>absurd (hlt2 _ _ hl1 hm) (by omega)
 have hF0m:∀ b,b∈F0↔b=w.heap.size+1 ∨ b∈foots E ρ2 ((stY E fx st vs Y0).items++rest):=fun b=>by rw [<- hF0,List.mem_cons]
 have hJ0:JY E fx st vs rest (w.heap.size+1) (rcL fn tm #[p] asg body w.heap.size) I res ρ Z w Z ew [] F0:=by
  refine ⟨Y0,ρ2,Z,e1 ▸ ha,hm2.fr,hsub2,fun b hb=>.inl hb,fun b hb=>?_,TnW.q hxe (fun _ h=>by cases h),?_⟩
  . rcases (hF0m b).1 hb with rfl | hb
    . omega
    . have:=hlt2 _ _ hl1 hb; omega
  . have h5:Sep F0 ew Z ew (toIts E.N E.T ρ2 F0 ((stY E fx st vs Y0).items++rest)):=toIts_re hmJ.sep fun q hq b hb=>.inl ((hF0m b).2 (.inr (mem_foots.2 ⟨q,hq,hb⟩)))
    refine Sep.give h5 hL0 iRec_stab (fun b hb=>?_) (fun b hb hz=>?_) rfl (fun b hb=>?_) (fun k s hk b hb hbs=>?_)
    . have hb:b∈[w.heap.size+1]:=hb
      rw [List.mem_singleton] at hb; omega
    . have hb:b∈[w.heap.size+1]:=hb
      rw [List.mem_singleton] at hb; have:=hzw b hz; omega
    . have hb:b∈[w.heap.size+1]:=hb
      rw [List.mem_singleton] at hb; exact (hF0m b).2 (.inl hb)
    . have hb:b∈[w.heap.size+1]:=hb
      rw [List.mem_singleton] at hb; subst hb
      obtain ⟨q,hq,rfl⟩:=toIts_get hk
      exact hLn (mem_foots.2 ⟨q,List.mem_of_getElem? hq,hbs⟩)
 have hpf':∀ q∈keepS fx st keep++fx,q.1≠p:=fun q hq e=>by
  have:=List.all_eq_true.1 hpf q hq
  rw [e,Nat.beq_refl] at this; cases this
 let c : Cl E.P := { J := fun b Zc wc xs F => b = w.heap.size + 1 /\ JY E fx st vs rest (w.heap.size + 1) (rcL fn tm #[p] asg body w.heap.size) I res ρ Z w Zc wc xs F
                     stab:=fun Z1 Z2 B w1 w2 hh hx hB hZ=>⟨hh.1,JY_stab Z1 Z2 B w1 w2 hh.2 hx hB hZ⟩
                     lt:=fun hh=>by obtain ⟨_,_,_,_,_,_,_,_,hl,_⟩:=hh; exact hl
                     pre:=pre,res:=res
                     step:=fun Zc wc b F xs t hz hF hJ hpre hin=>by
                      obtain ⟨rfl,hJ⟩:=hJ
                      exact (round_ok hE hI hR hrsub hns hok hp hpf' hst hv hi Zc wc F xs t hz hF hJ hpre hin).mono fun v w' ⟨a,F',b,d⟩=>⟨a,F',⟨rfl,b⟩,d⟩ }
 have hG:=hgen c rfl rfl
 let ρc:Env1:=fun i=>if i=0 then some ⟨w.heap.size+1,none,0,0,[]⟩ else if i=itc.length+1 then some ⟨w.heap.size+1,none,0,0,F0⟩ else (match iti[i-1]? with | some id=>ρ id | none=>none)
 have hc0:ρc 0=some ⟨w.heap.size+1,none,0,0,[]⟩:=rfl
 have hcf:ρc (itc.length+1)=some ⟨w.heap.size+1,none,0,0,F0⟩:=by simp [ρc]
 have hcj:∀ j id,iti[j]?=some id->ρc (1+j)=ρ id:=fun j id hj=>by
  have:=lt_get hj
  have e1:¬ (1+j=0):=by omega
  have e2:¬ (1+j=itc.length+1):=by omega
  simp only [ρc]
  rw [if_neg e1,if_neg e2,show 1+j-1=j by omega,hj]
 generalize hFI:foots E ρ (within Wi iti)=FI
 have hFIm:∀ j id L,iti[j]?=some id->ρ id=some L->(∃ T cells,lk st.items id=some (.own T cells))->L.bs=[L.b]->L.b∈FI/\L.b∈foots E ρ (st.items++lkd)/\L.b<w.heap.size/\¬ Z L.b/\L.b ∉ foots E ρ2 ((stY E fx st vs Y0).items++rest):=fun j id L hj hL ⟨T,cells,hl⟩ hbs=>by
  obtain ⟨k,hk',_⟩:=lk_mem hl
  have hmem:(id,Item.own T cells)∈st.items:=List.mem_of_getElem? hk'
  have hWm:(id,Item.own T cells)∈Wi:=by
   rw [<- hWi]
   exact List.mem_filter.2 ⟨hmem,List.all_eq_true.1 hni id (List.mem_of_getElem? hj)⟩
  have hw:(id,Item.own T cells)∈within Wi iti:=List.mem_filter.2 ⟨hWm,List.elem_eq_true_of_mem (List.mem_of_getElem? hj)⟩
  have hb:L.b∈foot E.N ρ id (.own T cells):=by rw [foot_own hL,hbs]; exact List.mem_singleton.2 rfl
  have hb2:L.b∈foot E.N ρ2 id (.own T cells):=by rw [foot_own (hsub2 _ _ hL),hbs]; exact List.mem_singleton.2 rfl
  have ok:=h.mem.okp (List.mem_append_left lkd hmem)
  refine ⟨by rw [<- hFI]; exact mem_foots.2 ⟨_,hw,hb⟩,mem_foots.2 ⟨_,List.mem_append_left _ hmem,hb⟩,ok.lt _ hb,ok.notZ _ hb,fun hf=>?_⟩
  obtain ⟨q,hq,hqb⟩:=mem_foots.1 hf
  obtain ⟨k1,hk1⟩:=List.getElem?_of_mem hq
  obtain ⟨k2,hk2⟩:=List.getElem?_of_mem hw
  have hk1':=lt_get hk1
  have hk2':(((stY E fx st vs Y0).items++rest)++within Wi iti)[((stY E fx st vs Y0).items++rest).length+k2]?=some (id,Item.own T cells):=by rw [List.getElem?_append_right (Nat.le_add_right _ _),Nat.add_sub_cancel_left]; exact hk2
  exact hmp.sep.apart k1 (((stY E fx st vs Y0).items++rest).length+k2) (toIt E.N E.T ρ2 _ q.1 q.2) (toIt E.N E.T ρ2 _ id (.own T cells)) (toIts_at (its_get hk1)) (toIts_at hk2') (by omega) L.b hqb hb2
 have hsepI:Sep (F0++FI) ew Z ew (toIts E.N E.T ρc (F0++FI) itc):=by
  refine ⟨Ext.refl _ _,fun b hb=>by have:=hzw b hb; omega,fun k t hk'=>?_,fun k1 k2 t1 t2 hk1 hk2 hne b hb1 hb2=>?_⟩
  . obtain ⟨q,hq,rfl⟩:=toIts_get hk'
    obtain ⟨id,T,cells,b1,b2,b3,rfl⟩:=hcan k q hq
    obtain ⟨T',cells',L,d1,d2,d3,d4,d5,d6⟩:=inI k id b1
    rw [b2] at d1; cases d1
    obtain ⟨m1,m2,m3,m4,m5⟩:=hFIm k id L b1 d4 ⟨T,cells,b2⟩ d5
    have hcl:ρc (1+k)=some L:=by rw [hcj k id b1]; exact d4
    have hft:∀ b,b∈foot E.N ρc (1+k) (.own T cells)->b=L.b:=fun b hb=>by rw [foot_own hcl,d5] at hb; exact List.mem_singleton.1 hb
    obtain ⟨k',hk'',_⟩:=lk_mem b2
    have hh:holds E.N E.T ρ id Z w (.own T cells):=h.mem.holds (its_get (l2:=lkd) hk'')
    have hh:=(toIt_stab (N:=E.N) (T:=E.T) (ρ:=ρ) (B0:=[]) (id:=id) (i:=.own T cells)) Z Z [] w ew hh hxe (fun _ h=>by cases h) (fun _ h=>h)
    obtain ⟨L',cs',hL',hbs',ho,hr⟩:=hh
    rw [d4] at hL'; cases hL'
    exact ⟨⟨L,cs',hcl,d5,ho,pureL_rep b3 hr _⟩,toIt_stab,fun b hb=>by rw [hft b hb]; omega,fun b hb=>by rw [hft b hb]; exact m4,fun b hb=>.inl (by rw [hft b hb]; exact List.mem_append_right _ m1),fun b hb=>hb⟩
  . obtain ⟨q1,hq1,rfl⟩:=toIts_get hk1
    obtain ⟨q2,hq2,rfl⟩:=toIts_get hk2
    obtain ⟨id1,T1,c1,b1,b2,b3,rfl⟩:=hcan k1 q1 hq1
    obtain ⟨id2,T2,c2,g1,g2,g3,rfl⟩:=hcan k2 q2 hq2
    obtain ⟨_,_,L1,_,_,_,d4,d5,_⟩:=inI k1 id1 b1
    obtain ⟨_,_,L2,_,_,_,f4,f5,_⟩:=inI k2 id2 g1
    have hb1:b∈foot E.N ρc (1+k1) (.own T1 c1):=hb1
    have hb2:b∈foot E.N ρc (1+k2) (.own T2 c2):=hb2
    rw [foot_own (show ρc (1+k1)=some L1 by rw [hcj k1 id1 b1]; exact d4)] at hb1
    rw [foot_own (show ρc (1+k2)=some L2 by rw [hcj k2 id2 g1]; exact f4)] at hb2
    have hid:id1≠id2:=fun e=>by
     subst e
     exact hne ((List.getElem?_inj (lt_get b1) hndi).1 (b1.trans g1.symm))
    obtain ⟨i1,hi1,_⟩:=lk_mem b2
    obtain ⟨i2,hi2,_⟩:=lk_mem g2
    refine h.mem.sep.apart i1 i2 (toIt E.N E.T ρ _ id1 (.own T1 c1)) (toIt E.N E.T ρ _ id2 (.own T2 c2)) (toIts_at (its_get (l2:=lkd) hi1)) (toIts_at (its_get (l2:=lkd) hi2)) (fun e=>?_) b (by show b∈foot E.N ρ id1 (.own T1 c1); rw [foot_own d4]; exact hb1) (by show b∈foot E.N ρ id2 (.own T2 c2); rw [foot_own f4]; exact hb2)
    subst e
    rw [hi1] at hi2; cases hi2; exact hid rfl
 have hF0Z:∀ b∈F0,¬ Z b:=fun b hb hz=>by
  rcases (hF0m b).1 hb with rfl | hb
  . have:=hzw _ hz; omega
  . obtain ⟨q,hq,hb⟩:=mem_foots.1 hb
    exact (hm2.okp (hl1 q hq)).notZ b hb hz
 have hfob:foot E.N ρc 0 (.ob 0 (itc.length+1) (YY.yo (c,[])))=F0:=by rw [foot_ob hcf]
 have hsep:Sep (F0++FI) ew Z ew (toIts E.N E.T ρc (F0++FI) ((0,.ob 0 (itc.length+1) (YY.yo (c,[])))::itc)):=by
  refine ⟨Ext.refl _ _,hsepI.zlt,fun k t hk'=>?_,fun k1 k2 t1 t2 hk1 hk2 hne b hb1 hb2=>?_⟩
  . cases k with
    | succ k=>exact hsepI.ok k t hk'
    | zero =>
     cases hk'
     refine ⟨⟨_,_,hc0,hcf,(YY.is _ _ _ _ _).2 ⟨rfl,hJ0⟩⟩,toIt_stab,fun b hb=>?_,fun b hb=>?_,fun b hb=>.inl ?_,fun b hb=>hb⟩
     . have hb:b∈foot E.N ρc 0 (.ob 0 (itc.length+1) (YY.yo (c,[]))):=hb
       rw [hfob] at hb
       obtain ⟨_,_,_,_,_,_,_,hl,_⟩:=hJ0
       exact hl b hb
     . have hb:b∈foot E.N ρc 0 (.ob 0 (itc.length+1) (YY.yo (c,[]))):=hb
       rw [hfob] at hb; exact hF0Z b hb
     . have hb:b∈foot E.N ρc 0 (.ob 0 (itc.length+1) (YY.yo (c,[]))):=hb
       rw [hfob] at hb; exact List.mem_append_left _ hb
  . have key:∀ (k:Nat) (t:It) (b:Nat),(toIts E.N E.T ρc (F0++FI) itc)[k]?=some t->b∈F0->b∈t.F->False:=fun k t b hk' hb hbt=>by
      obtain ⟨q,hq,rfl⟩:=toIts_get hk'
      obtain ⟨id,T,cells,b1,b2,b3,rfl⟩:=hcan k q hq
      obtain ⟨_,_,L,_,_,_,d4,d5,_⟩:=inI k id b1
      obtain ⟨m1,m2,m3,m4,m5⟩:=hFIm k id L b1 d4 ⟨T,cells,b2⟩ d5
      have hbt:b∈foot E.N ρc (1+k) (.own T cells):=hbt
      rw [foot_own (show ρc (1+k)=some L by rw [hcj k id b1]; exact d4),d5,List.mem_singleton] at hbt
      subst hbt
      rcases (hF0m _).1 hb with e | hb
      . omega
      . exact m5 hb
    cases k1 with
    | zero =>
     cases k2 with
     | zero=>exact hne rfl
     | succ k2 =>
      cases hk1
      have hb1:b∈foot E.N ρc 0 (.ob 0 (itc.length+1) (YY.yo (c,[]))):=hb1
      rw [hfob] at hb1
      exact key k2 t2 b hk2 hb1 hb2
    | succ k1 =>
     cases k2 with
     | zero =>
      cases hk2
      have hb2:b∈foot E.N ρc 0 (.ob 0 (itc.length+1) (YY.yo (c,[]))):=hb2
      rw [hfob] at hb2
      exact key k1 t1 b hk1 hb2 hb1
     | succ k2=>exact hsepI.apart k1 k2 t1 t2 hk1 hk2 (by omega) b hb1 hb2
 have hrun:=hG (fun _ it _=>∃ fid,it=(0,.ob 0 fid (YY.yo (c,xs)))::itc) (fun fid _ _=>⟨fid,rfl⟩) ρc Z ew (.func (.yield (w.heap.size+1)) #[] #[]::lb) (F0++FI) (fun i hi'=>by
   have e1:¬ (i=0):=by omega
   have e2:¬ (i=itc.length+1):=by omega
   simp only [ρc]
   rw [if_neg e1,if_neg e2,List.getElem?_eq_none (by omega)]) hsep
  (Glob.turn h.glob ((TnW.q hxe (fun _ h=>by cases h)).tn (ρ:=fun _=>none) (ρ':=fun _=>none) (fun _ _ h=>h)))
  (.tup1 (.yld hc0) (refs_tup cs iti lb 1 hcs hrl hcj))
 refine hrun.mono fun v w2 ⟨ρ',Z2,s,its',nx',hs2,hfr2,hsc,hZ12,hZ21,_,fid,hits⟩=>?_
 subst hits
 -- what the client has then
 obtain ⟨L',Lf',hL',hLf',hJ⟩:=hs2.at 0 (t:=toIt E.N E.T ρ' (F0++FI) 0 (.ob 0 fid (YY.yo (c,xs)))) rfl
 have hL'':=hsc _ _ hc0
 rw [hL''] at hL'; cases hL'
 have hJ:=(YY.is _ _ _ _ _).1 hJ
 obtain ⟨_,Y,ρj,Zj,hY,hfrj,hsubj,hZj,hlt,htn,hsJ⟩:=hJ
 generalize hF2:Lf'.bs=F2 at *
 have hfoot2:∀ b∈F2,b∈(toIt E.N E.T ρ' (F0++FI) 0 (.ob 0 fid (YY.yo (c,xs)))).F:=fun b hb=>by
  show b∈foot E.N ρ' 0 (.ob 0 fid (YY.yo (c,xs)))
  rw [foot_ob hLf',hF2]; exact hb
 have hF2Z:∀ b∈F2,¬ Z2 b:=fun b hb=>hs2.nz 0 rfl b (hfoot2 b hb)
 have hBo:∀ b∈F0++FI,b∈foots E ρ (st.items++lkd) ∨ b=w.heap.size+1:=fun b hb=>by
  rcases List.mem_append.1 hb with hb | hb
  . rcases (hF0m b).1 hb with rfl | hb
    . exact .inr rfl
    . obtain ⟨q,hq,hb⟩:=mem_foots.1 hb
      rcases (hm2.okp (hl1 q hq)).org b hb with h1 | h1
      . exact .inl h1
      . exact absurd ((hm2.okp (hl1 q hq)).lt b hb) (Nat.not_lt.2 h1)
  . rw [<- hFI] at hb
    obtain ⟨q,hq,hb⟩:=mem_foots.1 hb
    obtain ⟨_,_,_,_,_,_,_,_,_,_,hm'⟩:=inW q hq
    exact .inl (mem_foots.2 ⟨q,List.mem_append_left _ hm',hb⟩)
 have hF2o:∀ b∈F2,b∈F0++FI ∨ w.heap.size+2<=b:=fun b hb=>by
  rcases (hs2.ok 0 _ rfl).org b (hfoot2 b hb) with h1 | h1
  . exact .inl h1
  . rw [hse] at h1; exact .inr h1
 have hext:Ext (foots E ρ (st.items++lkd)) w w2:=Ext.trans hxe hs2.ext (fun _ h=>by cases h) (fun b hb=>by
  rcases hBo b hb with h1 | h1
  . exact .inl h1
  . exact .inr (by omega))
 have hrec:=hsJ.at 0 (t:=iRec (w.heap.size+1) _) rfl
 have hrec:w2.heap[w.heap.size+1]?=some (.loop (rcL fn tm #[p] asg body w.heap.size (stA (stopB res xs)) (stP (stopB res xs)))):=hrec
 have hJF:∀ q∈(stY E fx st vs Y).items++rest,∀ b∈foot E.N ρj q.1 q.2,b∈F2/\b≠w.heap.size+1:=fun q hq b hb=>by
  obtain ⟨k,hk'⟩:=List.getElem?_of_mem hq
  have ok:=hsJ.ok (k+1) (toIt E.N E.T ρj F2 q.1 q.2) (by rw [List.getElem?_cons_succ]; exact toIts_at hk')
  refine ⟨?_,fun e=>?_⟩
  . rcases ok.org b hb with h1 | h1
    . exact h1
    . exact absurd (ok.lt b hb) (Nat.not_lt.2 h1)
  . exact hsJ.apart 0 (k+1) _ (toIt E.N E.T ρj F2 q.1 q.2) rfl (by rw [List.getElem?_cons_succ]; exact toIts_at hk') (by omega) b (by rw [e]; exact List.mem_singleton.2 rfl) hb
 have hLF2:w.heap.size+1∈F2:=(hsJ.ok 0 _ rfl).org0 _ (List.mem_singleton.2 rfl)
 have hLZj:¬ Zj (w.heap.size+1):=hsJ.nz 0 rfl _ (List.mem_singleton.2 rfl)
 -- the iterator's parts then
 have itAt:∀ j id,iti[j]?=some id->∃ T cells L cs',lk st.items id=some (.own T cells)/\cells.all pureS=true/\ρ id=some L/\L.bs=[L.b]/\Own w2 L.b T cs'/\RepL E.N E.T ρ' Z2 w2 cs' cells/\¬ Z2 L.b/\L.b ∉ F2/\L.b<w.heap.size/\L.b∈foots E ρ (st.items++lkd):=fun j id hj=>by
  obtain ⟨T,cells,L,d1,d2,d3,d4,d5,_⟩:=inI j id hj
  obtain ⟨m1,m2,m3,m4,m5⟩:=hFIm j id L hj d4 ⟨T,cells,d1⟩ d5
  have hcl:ρ' (1+j)=some L:=hsc _ _ (by rw [hcj j id hj]; exact d4)
  have hat:(toIts E.N E.T ρ' (F0++FI) ((0,.ob 0 fid (YY.yo (c,xs)))::itc))[j+1]?=some (toIt E.N E.T ρ' (F0++FI) (1+j) (.own T cells)):=toIts_at (p:=(1+j,.own T cells)) (by rw [List.getElem?_cons_succ]; exact d3)
  obtain ⟨L1,cs',hL1,_,ho,hr⟩:=hs2.at (j+1) hat
  rw [hcl] at hL1; cases hL1
  have hbf:L.b∈foot E.N ρ' (1+j) (.own T cells):=by rw [foot_own hcl,d5]; exact List.mem_singleton.2 rfl
  exact ⟨T,cells,L,cs',d1,d2,d4,d5,ho,hr,hs2.nz (j+1) hat _ hbf,fun hb=>hs2.apart 0 (j+1) _ _ rfl hat (by omega) _ (hfoot2 _ hb) hbf,m3,m2⟩
 have inW2:∀ q∈within Wi iti,∃ L,ρ q.1=some L/\L.bs=[L.b]/\¬ Z2 L.b/\¬ Zj L.b/\L.b ∉ F2/\L.b<w.heap.size/\L.b∈foots E ρ (st.items++lkd)/\(∀ b,b∈foot E.N ρj q.1 q.2->b=L.b)/\(∀ b,b∈foot E.N ρj q.1 q.2↔b∈foot E.N ρ2 q.1 q.2)/\holds E.N E.T ρj q.1 (fun b=>Z2 b ∨ Zj b) w2 q.2:=fun q hq=>by
  obtain ⟨j,T,cells,L,b1,b2,b3,b4,b5,b6,b7⟩:=inW q hq
  obtain ⟨T',cells',L1,cs',d1,d2,d4,d5,ho,hr,z1,z2,z3,z4⟩:=itAt j q.1 b1
  rw [b5] at d4; cases d4
  have hq2:q.2=.own T' cells':=lk_uniq hds d1 b7
  rw [b2] at hq2; cases hq2
  have hzj:¬ Zj L.b:=fun hz=>by
   rcases hZj _ hz with h1 | h1
   . exact z1 h1
   . exact z2 h1
  refine ⟨L,b5,b6,z1,hzj,z2,z3,z4,fun b hb=>?_,fun b=>?_,?_⟩
  . rw [b2,foot_own (hsubj _ _ b5),b6] at hb; exact List.mem_singleton.1 hb
  . rw [b2,foot_own (hsubj _ _ b5),foot_own (hsub2 _ _ b5)]
  . rw [b2]
    exact ⟨L,cs',hsubj _ _ b5,b6,ho,(pureL_rep b3 hr ρj).stab (Ext.refl [] w2) (fun _ h=>by cases h) (fun b h _=>.inl h) (fun _ _ h=>h)⟩
 have hmF:Mem E (Ctx.gr ρ Z w (foots E ρ (st.items++lkd))) ρj (fun b=>Z2 b ∨ Zj b) w2 (((stY E fx st vs Y).items++rest)++within Wi iti) (stY E fx st vs Y).nx:=by
  refine ⟨⟨hext,fun b hb=>?_,fun k t hk'=>?_,fun k1 k2 t1 t2 hk1 hk2 hne b hb1 hb2=>?_⟩,hfrj,hsubj,fun b hb=>.inl (hZ12 b hb),fun b hb=>?_⟩
  . rcases hb with hb | hb
    . exact hs2.zlt b hb
    . exact hsJ.zlt b hb
  . obtain ⟨q,hq,rfl⟩:=toIts_get hk'
    rcases Nat.lt_or_ge k ((stY E fx st vs Y).items++rest).length with hlt' | hge
    . rw [List.getElem?_append_left hlt'] at hq
      have ok:=hsJ.ok (k+1) (toIt E.N E.T ρj F2 q.1 q.2) (by rw [List.getElem?_cons_succ]; exact toIts_at hq)
      have hJq:=hJF q (List.mem_of_getElem? hq)
      refine ⟨toIt_stab (N:=E.N) (T:=E.T) (ρ:=ρj) (B0:=F2) (id:=q.1) (i:=q.2) Zj _ [] w2 w2 ok.holds (Ext.refl _ _) (fun _ h=>by cases h) (fun b h=>.inr h),toIt_stab,ok.lt,fun b hb hz=>?_,fun b hb=>?_,fun b hb=>hb⟩
      . rcases hz with hz | hz
        . exact hF2Z b (hJq b hb).1 hz
        . exact ok.notZ b hb hz
      . rcases hF2o b (hJq b hb).1 with h1 | h1
        . rcases hBo b h1 with h1 | h1
          . exact .inl h1
          . exact absurd h1 (hJq b hb).2
        . exact .inr (by show w.heap.size<=b; omega)
    . rw [List.getElem?_append_right hge] at hq
      obtain ⟨L,b5,b6,z1,zj,z2,z3,z4,hft,_,hh⟩:=inW2 q (List.mem_of_getElem? hq)
      refine ⟨hh,toIt_stab,fun b hb=>?_,fun b hb hz=>?_,fun b hb=>.inl ?_,fun b hb=>hb⟩
      . rw [hft b hb]; exact Nat.lt_of_lt_of_le z3 hext.size
      . rw [hft b hb] at hz
        rcases hz with hz | hz
        . exact z1 hz
        . exact zj hz
      . rw [hft b hb]; exact z4
  . obtain ⟨q1,hq1,rfl⟩:=toIts_get hk1
    obtain ⟨q2,hq2,rfl⟩:=toIts_get hk2
    have hb1:b∈foot E.N ρj q1.1 q1.2:=hb1
    have hb2:b∈foot E.N ρj q2.1 q2.2:=hb2
    rcases Nat.lt_or_ge k1 ((stY E fx st vs Y).items++rest).length with h1 | h1
    . rw [List.getElem?_append_left h1] at hq1
      rcases Nat.lt_or_ge k2 ((stY E fx st vs Y).items++rest).length with h2' | h2'
      . rw [List.getElem?_append_left h2'] at hq2
        exact hsJ.apart (k1+1) (k2+1) (toIt E.N E.T ρj F2 q1.1 q1.2) (toIt E.N E.T ρj F2 q2.1 q2.2) (by rw [List.getElem?_cons_succ]; exact toIts_at hq1) (by rw [List.getElem?_cons_succ]; exact toIts_at hq2) (by omega) b hb1 hb2
      . rw [List.getElem?_append_right h2'] at hq2
        obtain ⟨L,_,_,_,_,z2,_,_,hft,_⟩:=inW2 q2 (List.mem_of_getElem? hq2)
        exact z2 (hft b hb2 ▸ (hJF q1 (List.mem_of_getElem? hq1) b hb1).1)
    . rw [List.getElem?_append_right h1] at hq1
      rcases Nat.lt_or_ge k2 ((stY E fx st vs Y).items++rest).length with h2' | h2'
      . rw [List.getElem?_append_left h2'] at hq2
        obtain ⟨L,_,_,_,_,z2,_,_,hft,_⟩:=inW2 q1 (List.mem_of_getElem? hq1)
        exact z2 (hft b hb1 ▸ (hJF q2 (List.mem_of_getElem? hq2) b hb2).1)
      . rw [List.getElem?_append_right h2'] at hq2
        obtain ⟨_,_,_,_,_,_,_,_,_,hf1,_⟩:=inW2 q1 (List.mem_of_getElem? hq1)
        obtain ⟨_,_,_,_,_,_,_,_,_,hf2,_⟩:=inW2 q2 (List.mem_of_getElem? hq2)
        have l1:=lt_get hq1
        have l2:=lt_get hq2
        exact hmp.sep.apart (((stY E fx st vs Y0).items++rest).length+(k1-((stY E fx st vs Y).items++rest).length)) (((stY E fx st vs Y0).items++rest).length+(k2-((stY E fx st vs Y).items++rest).length)) (toIt E.N E.T ρ2 _ q1.1 q1.2) (toIt E.N E.T ρ2 _ q2.1 q2.2)
         (toIts_at (by rw [List.getElem?_append_right (by omega),Nat.add_sub_cancel_left]; exact hq1)) (toIts_at (by rw [List.getElem?_append_right (by omega),Nat.add_sub_cancel_left]; exact hq2)) (by omega) b ((hf1 b).1 hb1) ((hf2 b).1 hb2)
  . have z2:∀ b,Z2 b->Z b ∨ b∈foots E ρ (st.items++lkd) ∨ w.heap.size<=b:=fun b hz=>by
      rcases hZ21 b hz with h1 | h1 | h1
      . exact .inl h1
      . rcases hBo b h1 with h1 | h1
        . exact .inr (.inl h1)
        . exact .inr (.inr (by omega))
      . exact .inr (.inr (by omega))
    rcases hb with hb | hb
    . exact z2 b hb
    . rcases hZj b hb with h1 | h1
      . exact z2 b h1
      . rcases hF2o b h1 with h1 | h1
        . rcases hBo b h1 with h1 | h1
          . exact .inr (.inl h1)
          . exact .inr (.inr (by show w.heap.size<=b; omega))
        . exact .inr (.inr (by show w.heap.size<=b; omega))
 have hmW:=hmF.perm (perm (stY E fx st vs Y).items).symm
 have hLf:w.heap.size+1 ∉ foots E ρj ((stY E fx st vs Y).items++(Wi++lkd))/\¬ (Z2 (w.heap.size+1) ∨ Zj (w.heap.size+1)):=by
  refine ⟨fun hm=>?_,fun hz=>?_⟩
  . obtain ⟨q,hq,hb⟩:=mem_foots.1 hm
    rcases List.mem_append.1 ((perm _).mem_iff.1 hq) with hq | hq
    . exact (hJF q hq _ hb).2 rfl
    . obtain ⟨L,_,_,_,_,_,z3,_,hft,_⟩:=inW2 q hq
      have:=hft _ hb; omega
  . rcases hz with hz | hz
    . exact hF2Z _ hLF2 hz
    . exact hLZj hz
 have fin:∀ pe:Option Code,QKD E C fx lkd K (match stopB res xs with | true=>.ret | false=>.normal) f (w2.putObj (w.heap.size+1) (.loop (rcL fn tm #[p] asg body w.heap.size .exhausted pe))) (w.heap.size::ds):=fun pe=>by
  have hxp:=ext_put w2 (w.heap.size+1) (.loop (rcL fn tm #[p] asg body w.heap.size .exhausted pe))
  have hD2:w2.heap[w.heap.size]?=some (.deferred (some [])):=by
   rw [hs2.ext.block _ (by omega) (fun hb=>?_)]; exact hD0
   rcases hBo _ hb with h1 | h1
   . obtain ⟨q,hq,hb⟩:=mem_foots.1 h1
     have:=(h.mem.okp hq).lt _ hb; omega
   . omega
  have hmQ:=hmW.quiet hxp (fun b hb _=>by rw [List.mem_singleton] at hb; subst hb; exact ⟨hLf.1,hLf.2,by show w.heap.size<=_; omega⟩)
  have hT:Tn ρ Z w ρj (fun b=>Z2 b ∨ Zj b) (w2.putObj (w.heap.size+1) (.loop (rcL fn tm #[p] asg body w.heap.size .exhausted pe))):=by
   refine ⟨hsubj,fun b hb _=>.inl (hZ12 b hb),foots E ρ (st.items++lkd),hext.trans hxp (fun x hx=>.inl hx) (fun x hx=>by rw [List.mem_singleton] at hx; subst hx; exact .inr (by omega)),fun b hb hz=>?_⟩
   obtain ⟨q,hq,hb⟩:=mem_foots.1 hb
   exact absurd hz ((h.mem.okp hq).notZ b hb)
  have hslots:(stY E fx st vs Y).slots=[]:=stY_slots Y hns
  have hrel:Rel E C fx lkd ⟨(stY E fx st vs Y).slots++keepS fx st keep,[],(stY E fx st vs Y).items++Wi,(stY E fx st vs Y).nx⟩ ρj (fun b=>Z2 b ∨ Zj b) f (w2.putObj (w.heap.size+1) (.loop (rcL fn tm #[p] asg body w.heap.size .exhausted pe))):=by
   refine ⟨fun k s e=>?_,fun q hq=>hT.rep (h.fx q hq),fun k j b s e=>(by cases e),?_,h.tn.trans hT,h.g⟩
   . have e:lk ((stY E fx st vs Y).slots++keepS fx st keep) k=some s:=e
     rw [hslots,List.nil_append] at e
     obtain ⟨i,hi',_⟩:=lk_mem e
     have:=List.mem_of_getElem? hi'
     simp only [keepS,List.mem_map] at this
     obtain ⟨s',_,e'⟩:=this
     cases e'
     exact hT.rep (h.slot k)
   . show Mem E C ρj _ _ (((stY E fx st vs Y).items++Wi)++lkd) _
     rw [List.append_assoc]
     exact h.mem.unbase hmQ
  have hmk:Mk E C ρj (fun b=>Z2 b ∨ Zj b) (w2.putObj (w.heap.size+1) (.loop (rcL fn tm #[p] asg body w.heap.size .exhausted pe))) (((stY E fx st vs Y).items++Wi)++lkd) (w.heap.size::ds):=by
   have hold:=hk.go hmQ
   rw [List.append_assoc]
   refine ⟨List.nodup_cons.2 ⟨fun hd=>absurd (hk.lt _ hd) (Nat.lt_irrefl _),hk.nd⟩,fun D hD=>?_,fun D hD=>?_,fun D hD=>?_⟩
   . rcases List.mem_cons.1 hD with rfl | hD
     . rw [World.putObj_heap_other (by omega)]; exact hD2
     . exact hold.is D hD
   . rcases List.mem_cons.1 hD with rfl | hD
     . exact h.mem.sep.ext.size
     . exact hold.new D hD
   . rcases List.mem_cons.1 hD with rfl | hD
     . have hnB:w.heap.size ∉ F0++FI:=fun hb=>by
         rcases hBo _ hb with h1 | h1
         . obtain ⟨q,hq,hb⟩:=mem_foots.1 h1
           have:=(h.mem.okp hq).lt _ hb; omega
         . omega
       have hnF:w.heap.size ∉ F2:=fun hb=>by
        rcases hF2o _ hb with h1 | h1
        . exact hnB h1
        . omega
       have hnZ:¬ Z2 w.heap.size:=fun hz=>by
        rcases hZ21 _ hz with h1 | h1 | h1
        . have:=hzw _ h1; omega
        . exact hnB h1
        . omega
       refine ⟨fun hm=>?_,fun hz=>?_⟩
       . obtain ⟨q,hq,hb⟩:=mem_foots.1 hm
         rcases List.mem_append.1 ((perm _).mem_iff.1 hq) with hq | hq
         . exact hnF (hJF q hq _ hb).1
         . obtain ⟨L,_,_,_,_,_,z3,_,hft,_⟩:=inW2 q hq
           have:=hft _ hb; omega
       . rcases hz with hz | hz
         . exact hnZ hz
         . rcases hZj _ hz with h1 | h1
           . exact hnZ h1
           . exact hnF h1
     . exact hold.ap D hD
  have hKY:=allC_to (d:=False) vs (I xs) _ hok hK Y hY
  refine ⟨_,_,_,hrel,hmk,?_⟩
  have hKY:(bif stopB res xs then K.r else K.n) ⟨(stY E fx st vs Y).slots++keepS fx st keep,[],(stY E fx st vs Y).items++Wi,(stY E fx st vs Y).nx⟩:=hKY
  cases hb:stopB res xs with
  | true=>rw [hb] at hKY; exact hKY
  | false=>rw [hb] at hKY; exact hKY
 refine ⟨stA (stopB res xs),stP (stopB res xs),?_,hrec,?_⟩
 . cases stopB res xs <;> (intro e; cases e)
 . have hfin:=fin (stP (stopB res xs))
   cases hb:stopB res xs with
   | true=>rw [hb] at hfin; exact .inr ⟨rfl,hfin⟩
   | false=>rw [hb] at hfin; exact .inl ⟨rfl,hfin⟩
end
end Go.Rx
end
section
namespace Go.Rx
open Go Go.Wk Go.Wl
def rng:Code->Bool
 | .rangeFunc _ _ _ _=>true
 | .seq a b=>rng a || rng b
 | .block _ c=>rng c
 | .loop c=>rng c
 | _=>false
theorem bif_true {b:Bool} {p:Prop} (h:bif b then p else False):b=true/\p:=by
 cases b with
 | true=>exact ⟨rfl,h⟩
 | false=>exact h.elim
section
variable {E:Env} {YY:YE E}
def vd (inl:Inl E) (an:Ann) (TL:Tell E YY):Code->Slots E.N->Items E.N->E.St->Ks E->Prop
 | .seq a b,fx,lkd,st,K=>bif rng a || rng b then vd inl an TL a fx lkd st ⟨fun st=>vd inl an TL b fx lkd st K,K.r,K.e⟩ else vc inl an (.seq a b) fx lkd st K
 | .block i c,fx,lkd,st,K=>vd inl an TL c fx lkd st ⟨K.n,K.r,(i,K.n)::K.e⟩
 | .loop c,fx,lkd,st,K=>bif rng c then (match (first c).bind an.loop with
  | none=>False
  | some a=>∃ (I:Cur E.N Prop a.vars) (m:Cur E.N Nat a.vars),
    rbP E fx st (keepS fx st a.keep++fx) (inn st (idsOf E fx st a.vars)) a.vars (zipC a.vars I m) (fun im=>im.1) /\
    allC E fx st a.vars (zipC a.vars I m) ⟨[],[],[],st.nx⟩ (fun im new=>im.1 ->
     vd inl an TL c (keepS fx st a.keep++fx) (without st.items (idsOf E fx st a.vars)++lkd) new
      (backK (keepS fx st a.keep) (without st.items (idsOf E fx st a.vars)) K (fun st'=>rbP E fx st (keepS fx st a.keep++fx) st' a.vars (zipC a.vars I m) (fun im'=>im'.1/\im'.2<im.2))))) else vc inl an (.loop c) fx lkd st K
 | .rangeFunc g ps asg body,fx,lkd,st,K=>(match evS fx lkd st [] g with
  | .clo gf cs=>(match ps.toList,(first body).bind an.loop,refIds cs with
   | [p],some a,some iti=>(match canI st.items 1 iti with
    | some itc=>bif Nat.blt p an.n && distinct iti && distinct (st.items.map (·.1)) && noSl a.vars && okSh a.vars && iti.all (fun i=>!(idsOf E fx st a.vars).elem i) && (keepS fx st a.keep++fx).all (fun q=>!Nat.beq q.1 p) then
      ∃ (I:List Int->Cur E.N Prop a.vars) (pre:List Int->Int->Prop) (res:List Int->Int->Bool),
       rbP E fx st (keepS fx st a.keep++fx) (inn st (idsOf E fx st a.vars)) a.vars (I []) id /\
       (∀ xs t,pre xs t->stopB res xs=false) /\
       (∀ xs t,in64 t->pre xs t->allC E fx st a.vars (I xs) ⟨[],[],[],st.nx⟩ (fun x new=>x->vc inl an asg (keepS fx st a.keep++fx) (without (without st.items (idsOf E fx st a.vars)) iti++lkd) ⟨(p,.int .i64 t)::new.slots,[],new.items,new.nx⟩
        ⟨fun st1=>vc inl an body (keepS fx st a.keep++fx) (without (without st.items (idsOf E fx st a.vars)) iti++lkd) st1 ⟨fun st'=>res xs t=true/\rbP E fx st (keepS fx st a.keep++fx) st' a.vars (I (xs++[t])) id,fun st'=>res xs t=false/\rbP E fx st (keepS fx st a.keep++fx) st' a.vars (I (xs++[t])) id,[]⟩,fun _=>False,[]⟩)) /\
       (match TL.f gf (refsC 1 iti.length) itc pre res with
       | some (ob,xs)=>ob/\allC E fx st a.vars (I xs) ⟨[],[],[],st.nx⟩ (fun x new=>x->(stopB res xs=true->K.r ⟨new.slots++keepS fx st a.keep,[],new.items++without st.items (idsOf E fx st a.vars),new.nx⟩)/\(stopB res xs=false->K.n ⟨new.slots++keepS fx st a.keep,[],new.items++without st.items (idsOf E fx st a.vars),new.nx⟩))
       | none=>False) else False
    | none=>False)
   | _,_,_=>False)
  | _=>False)
 | c,fx,lkd,st,K=>vc inl an c fx lkd st K
variable {C:Ctx} {ρ ρb:Env1} {Z Zb:Nat->Prop} {w wb:World} {lkd:Items E.N} {fx:Slots E.N} {st st':E.St} {f fb:Fr} {inl:Inl E} {an:Ann} {ds:List Nat}
theorem rbP_mk {keep:List Nat} {vs:List LV} {lkd':Items E.N} {α:Type} {g:Cur E.N α vs} {Kα:α->Prop} {K:α->E.St->Prop} (h:Rel E C fx lkd st ρb Zb fb wb) (hl:∀ p∈lkd',p∈st.items++lkd)
  (h':Rel E (C.at ρb Zb wb) (keepS fx st keep++fx) lkd' st' ρ Z f w) (hk:Mk E C ρ Z w (st'.items++lkd') ds) (hv:rbP E fx st (keepS fx st keep++fx) st' vs g Kα) (hK:allC E fx st vs g ⟨[],[],[],st.nx⟩ K) :
  ∃ new ρ2 a,Kα a/\K a new/\Rel E (C.at ρb Zb wb) (keepS fx st keep++fx) lkd' new ρ2 Z f w/\Mk E C ρ2 Z w (new.items++lkd') ds:=by
 have hg:=rel_go h' (Ext.refl [] w) (fun _ h=>by cases h)
 obtain ⟨new,ρ2,a,h1,h2,h3,h4⟩:=rbP_ok2 h hl hg h'.mem.ge (fun _ _ h=>h) hv hK
 refine ⟨new,ρ2,a,h1,h2,⟨h3.sl,h3.fx,h3.gs,?_,⟨h4,h'.tn.z,h'.tn.ext⟩,h'.g⟩,hk.go h3.mem⟩
 have hB:∀ x∈foots E ρ (st'.items++lkd'),x∈C.B0 ∨ C.w0.heap.size<=x:=fun x hx=>by
  obtain ⟨p,hp,h⟩:=mem_foots.1 hx
  exact (h'.mem.okp hp).org x h
 have hsz:=h'.mem.sep.ext.size
 refine ⟨⟨h'.mem.sep.ext,h'.mem.sep.zlt,fun k t hk=>?_,fun j k s t hj hk hne=>?_⟩,h3.mem.fr,h4,h'.mem.zge,h'.mem.zle⟩
 . obtain ⟨p,hp,rfl⟩:=toIts_get hk
   have ok:=h3.mem.sep.ok k _ (toIts_at hp)
   refine ⟨ok.holds,toIt_stab,ok.lt,ok.notZ,fun b hb'=>?_,fun b hb=>hb⟩
   rcases ok.org b hb' with h | h
   . exact hB b h
   . exact absurd (ok.lt b hb') (Nat.not_lt.2 h)
 . obtain ⟨p,hp,rfl⟩:=toIts_get hj
   obtain ⟨q,hq,rfl⟩:=toIts_get hk
   exact fun b hb1 hb2=>h3.mem.sep.apart j k (toIt E.N E.T ρ2 _ p.1 p.2) (toIt E.N E.T ρ2 _ q.1 q.2) (toIts_at hp) (toIts_at hq) hne b hb1 hb2
theorem leaveD {keep ids:List Nat} {K:Ks E} {n:E.St->Prop} {e:Exit} (h0:Rel E C fx lkd st ρb Zb fb wb) (hn:e≠.normal)
  (h:QKD E (C.at ρb Zb wb) (keepS fx st keep++fx) (without st.items ids++lkd) (backK (keepS fx st keep) (without st.items ids) K n) e f w ds):QKD E C fx lkd K e f w ds:=by
 obtain ⟨st',ρ',Z',hr,hk,he⟩:=h
 have hl:=Rel.leave h0 hr
 have hk':Mk E C ρ' Z' w ((st'.items++without st.items ids)++lkd) ds:=by rw [List.append_assoc]; exact ⟨hk.nd,hk.is,hk.new,hk.ap⟩
 cases e with
 | normal=>exact absurd rfl hn
 | ret=>exact ⟨_,_,_,hl,hk',he⟩
 | exit i =>
  simp only [endK,backK] at he
  rw [lk_map] at he
  cases hk2:lk K.e i with
  | none=>rw [hk2] at he; exact he.elim
  | some k=>rw [hk2] at he; exact ⟨_,_,_,hl,hk',by simp only [endK,hk2]; exact he⟩
 | _=>exact he.elim
theorem vd_ok (hE:EnvOK E) (hI:InlOK E inl) (TL:Tell E YY):∀ (c:Code) (C:Ctx) (fx:Slots E.N) (lkd:Items E.N) (st:E.St) (K:Ks E) (ρ:Env1) (Z:Nat->Prop) (f:Fr) (w:World) (ds:List Nat),Rel E C fx lkd st ρ Z f w->Mk E C ρ Z w (st.items++lkd) ds->vd inl an TL c fx lkd st K->WD E.P an.n c (QKD E C fx lkd K) f w ds:=by
 intro c
 induction c with
 | seq a b iha ihb =>
  intro C fx lkd st K ρ Z f w ds h hk hv
  simp only [vd] at hv
  cases hb:(rng a || rng b) with
  | false=>rw [hb,cond_false] at hv; exact piece_ok hE hI h hk hv
  | true =>
   rw [hb,cond_true] at hv
   refine WD_seq (WD_mono (iha C fx lkd st _ ρ Z f w ds h hk hv) fun e f' w' ds' q=>?_)
   obtain ⟨st',ρ',Z',hr,hm,he⟩:=q
   cases e with
   | normal=>exact ihb C fx lkd st' K ρ' Z' f' w' ds' hr hm he
   | ret=>exact ⟨st',ρ',Z',hr,hm,he⟩
   | exit i=>exact ⟨st',ρ',Z',hr,hm,he⟩
   | _=>exact he.elim
 | block i c ih =>
  intro C fx lkd st K ρ Z f w ds h hk hv
  refine WD_block (WD_mono (ih C fx lkd st _ ρ Z f w ds h hk hv) fun e f' w' ds' q=>?_)
  obtain ⟨st',ρ',Z',hr,hm,he⟩:=q
  cases e with
  | normal=>exact ⟨st',ρ',Z',hr,hm,he⟩
  | ret=>exact ⟨st',ρ',Z',hr,hm,he⟩
  | exit j =>
   have he:(match (bif Nat.beq i j then some K.n else lk K.e j) with | some k=>k st' | none=>False):=he
   show (bif Nat.beq j i then QKD E C fx lkd K .normal f' w' ds' else QKD E C fx lkd K (.exit j) f' w' ds')
   have hc:Nat.beq i j=Nat.beq j i:=by
    by_cases e:i=j
    . rw [e]
    . rw [beq_ne e,beq_ne (Ne.symm e)]
   rw [hc] at he
   cases hb:Nat.beq j i with
   | true=>rw [hb] at he; exact ⟨st',ρ',Z',hr,hm,he⟩
   | false=>rw [hb] at he; exact ⟨st',ρ',Z',hr,hm,he⟩
  | _=>exact he.elim
 | loop c ih =>
  intro C fx lkd st K ρ Z f w ds h hk hv
  simp only [vd] at hv
  cases hb:rng c with
  | false=>rw [hb,cond_false] at hv; exact piece_ok hE hI h hk hv
  | true =>
   rw [hb,cond_true] at hv
   split at hv
   . exact hv.elim
   . rename_i a ha
     obtain ⟨I,m,h0,hb⟩:=hv
     have hl:∀ p∈without st.items (idsOf E fx st a.vars)++lkd,p∈st.items++lkd:=fun p hp=>by
      rcases List.mem_append.1 hp with hp | hp
      . exact List.mem_append_left _ (List.mem_filter.1 hp).1
      . exact List.mem_append_right _ hp
     have hk0:Mk E C ρ Z w ((inn st (idsOf E fx st a.vars)).items++(without st.items (idsOf E fx st a.vars)++lkd)) ds:=hk.sub fun p hp=>by
      rcases List.mem_append.1 hp with hp | hp
      . exact List.mem_append_left _ (List.mem_filter.1 hp).1
      . exact hl p hp
     obtain ⟨new,ρ2,im,h1,h2,h3,h4⟩:=rbP_mk h hl (h.enter a.keep (idsOf E fx st a.vars)) hk0 h0 hb
     refine WD_loop (fun k f' w' ds' => ∃ (new : E.St) (ρ2 : Env1) (Z2 : Nat -> Prop) (im : Prop × Nat), (im.1 -> vd inl an TL c (keepS fx st a.keep ++ fx) (without st.items (idsOf E fx st a.vars) ++ lkd) new
           (backK (keepS fx st a.keep) (without st.items (idsOf E fx st a.vars)) K (fun st'=>rbP E fx st (keepS fx st a.keep++fx) st' a.vars (zipC a.vars I m) (fun im'=>im'.1/\im'.2<im.2))))/\im.1/\im.2=k/\Rel E (C.at ρ Z w) (keepS fx st a.keep++fx) (without st.items (idsOf E fx st a.vars)++lkd) new ρ2 Z2 f' w'/\Mk E C ρ2 Z2 w' (new.items++(without st.items (idsOf E fx st a.vars)++lkd)) ds') im.2 ⟨new,ρ2,Z,im,h2,h1,rfl,h3,h4⟩ ?_
     rintro k f' w' ds' ⟨new,ρ2,Z2,im,hbody,hi,rfl,hr,hm⟩
     refine WD_mono (ih _ _ _ _ _ ρ2 Z2 f' w' ds' hr ⟨hm.nd,hm.is,hm.new,hm.ap⟩ (hbody hi)) fun e f2 w2 ds2 q=>?_
     cases e with
     | normal =>
      obtain ⟨st',ρ',Z',hr',hm',he⟩:=q
      obtain ⟨new2,ρ3,im2,g1,g2,g3,g4⟩:=rbP_mk (ds:=ds2) h hl hr' ⟨hm'.nd,hm'.is,hm'.new,hm'.ap⟩ he hb
      exact ⟨im2.2,g1.2,new2,ρ3,Z',im2,g2,g1.1,rfl,g3,g4⟩
     | ret=>exact leaveD h (by intro e; cases e) q
     | exit i=>exact leaveD h (by intro e; cases e) q
     | _=>obtain ⟨_,_,_,_,_,he⟩:=q; exact he.elim
 | rangeFunc g ps asg body _ _ =>
  intro C fx lkd st K ρ Z f w ds h hk hv
  simp only [vd] at hv
  split at hv
  . rename_i gf cs hg
    split at hv
    . rename_i p a iti hps ha hcs
      split at hv
      . rename_i itc hci
        have ⟨hc,hv⟩:=bif_true hv
        simp only [Bool.and_eq_true] at hc
        obtain ⟨I,pre,res,h0,hst,hbd,hv⟩:=hv
        split at hv
        . rename_i ob xs ht
          obtain ⟨hob,hK⟩:=hv
          have e:ps=#[p]:=by rw [<- Array.toArray_toList (xs:=ps),hps]
          subst e
          refine range_ok hE hI TL h hk hg hcs hci hc.1.1.1.1.1.1 hc.1.1.1.1.1.2 hc.1.1.1.1.2 hc.1.1.1.2 hc.1.1.2 hc.1.2 hc.2 rfl h0 hst hbd ht hob ?_
          refine allC_of (d:=False) _ _ _ hc.1.1.2 fun Y=>?_
          have hY:=allC_to (d:=False) _ _ _ hc.1.1.2 hK Y
          intro hx
          cases hb:stopB res xs with
          | true=>exact (hY hx).1 hb
          | false=>exact (hY hx).2 hb
        . exact hv.elim
      . exact hv.elim
    . exact hv.elim
  . exact hv.elim
 | _=>intro C fx lkd st K ρ Z f w ds h hk hv; exact piece_ok hE hI h hk hv
def resD (st:E.St) (r:ResultVar):Option E.SV:=match r with
 | .tmp t=>resS st (.tmp t)
 | .cell a T=>(match lk st.slots a with
  | some (.ref id off)=>(match lk st.items id with
   | some (.own _ [v])=>(match E.aggOf T with
    | some b=>bif !b && Nat.beq off 0 then some v else none
    | none=>none)
   | _=>none)
  | _=>none)
theorem resD_ok {n:Nat} {r:ResultVar} {s:E.SV} (h:Rel E C fx lkd st ρ Z f w) (e:resD st r=some s):∃ v,Rep E.N E.T ρ Z w v s/\∀ a w1,Is a f n->Sim w w1->(getR a.tmps r).run E.P w1=.ok v w1:=by
 cases r with
 | tmp t=>exact resS_ok h e
 | cell a0 T =>
  simp only [resD] at e
  split at e
  . rename_i id off hl
    split at e
    . rename_i Ty v hi
      split at e
      . rename_i b hA
        have ⟨h1,h2⟩:=bif_some e
        simp only [Option.some.injEq] at h2; subst h2
        simp only [Bool.and_eq_true,Bool.not_eq_true'] at h1
        have e0:=Nat.eq_of_beq_eq_true h1.2
        subst e0
        rw [h1.1] at hA
        have hr:=h.sl a0 _ hl
        obtain ⟨j,hj,_⟩:=lk_mem hi
        obtain ⟨L,cs,hL,hbs,ho,hrep⟩:=h.mem.holds (its_get (l2:=lkd) hj)
        have hL:ρ id=some L:=hL
        have hp:f a0=.pointer (some ⟨L.b,0,none⟩):=by
         generalize f a0=u at hr
         cases hr with | ref hL'=>rw [hL] at hL'; cases hL'; rfl
        obtain ⟨v1,rfl,hv,_⟩:=hrep.one_inv
        refine ⟨v1,hv,fun a w1 hi' hs=>?_⟩
        have hc:Cells w1 L.b 0 [v1]:=Cells.sim ho.all hs
        have h0:=hc.cell (j:=0) (v:=v1) rfl
        simp only [Nat.add_zero] at h0
        have this:(loadVar T ⟨L.b,0,none⟩).run E.P w1=.ok v1 w1:=by simp [loadVar,agg_run hA,go_sem,load,Sem.run,h0]
        simp only [getR]
        rw [hi'.get,hp]
        rw [Sem.run_bind]
        simp only [asAddr,Sem.run_pure,Result.andThen_ok]
        exact this
      . cases e
    . cases e
  . cases e
def vdFun (inl:Inl E) (an:Ann) (TL:Tell E YY) (fn:Func) (args:List E.SV) (its lkd:Items E.N) (nx:Nat) (k:E.SV->Items E.N->Nat->Prop):Prop:=match fn.body,fn.results.toList with
 | some c,[r]=>bif Nat.ble args.length fn.ntmps then vd inl ⟨fn.ntmps,an.loop,an.join⟩ TL c [] lkd ⟨number 0 args,[],its,nx⟩ ⟨fun st=>(match resD st r with | some v=>k v st.items st.nx | none=>False),fun st=>(match resD st r with | some v=>k v st.items st.nx | none=>False),[]⟩ else False
 | _,_=>False
theorem vdFun_ok {fn:Func} {K:Nat} {args:List E.SV} {its:Items E.N} {nx:Nat} {vs:List Value} (hE:EnvOK E) (hI:InlOK E inl) (TL:Tell E YY) (hf:E.P.funcs[K]?=some fn) {k:E.SV->Items E.N->Nat->Prop} (hv:vdFun inl an TL fn args its lkd nx k) (hm:Mem E C ρ Z w (its++lkd) nx) (hg:E.G.is Z w) (ha:Rep E.N E.T ρ Z w (.tuple vs.toArray) (.tup args)):CallR E.P K vs w (Done E C ρ Z w lkd k):=by
 unfold vdFun at hv
 split at hv
 . rename_i c r hc hrr
   have ⟨hb,hv⟩:=bif_true hv
   have hle:Nat.ble vs.length fn.ntmps=true:=by rw [args_len ha]; exact hb
   have h0:Rel E (C.at ρ Z w) [] lkd ⟨number 0 args,[],its,nx⟩ ρ Z (nth vs) w:=⟨fun k s e=>args_sl (n:=0) ha k s (by simpa using e),fun p hp=>(by cases hp),fun k j b s e=>(by cases e),hm.down,Tn.refl _ _ _,hg⟩
   have hw:=vd_ok (an:=⟨fn.ntmps,an.loop,an.join⟩) hE hI TL c _ _ _ _ _ ρ Z (nth vs) w [] h0 ⟨List.nodup_nil,fun _ h=>(by cases h),fun _ h=>(by cases h),fun _ h=>(by cases h)⟩ hv
   refine Call_D hf hc rfl hle (WD_mono hw fun e f' w' ds q=>?_)
   obtain ⟨st,ρ',Z',hr,hk,he⟩:=q
   have hs:=hr.shutM hk
   have fin:(match resD st r with | some v=>k v st.items st.nx | none=>False)->∃ v,RunR E.P fn fn.ntmps f' (shutM w' ds) v/\Done E C ρ Z w lkd k v (shutM w' ds):=fun hk=>by
    split at hk
    . rename_i s hss
      obtain ⟨v,h1,h2⟩:=resD_ok (n:=fn.ntmps) hs hss
      exact ⟨v,fun a w1 hi hs=>results_1 (by apply Array.ext'; simpa using hrr) (h2 a w1 hi hs),ρ',Z',s,st.items,st.nx,Mem.upC hm hs.mem,hs.tn,h1,hk⟩
    . exact hk.elim
   cases e with
   | normal=>exact ⟨.inr rfl,hk.nd,hk.is,fin he⟩
   | ret=>exact ⟨.inl rfl,hk.nd,hk.is,fin he⟩
   | exit i=>exact he.elim
   | _=>exact he.elim
 . exact hv.elim
theorem lend1D {fn:Func} {K:Nat} {args:List E.SV} (hE:EnvOK E) (hI:InlOK E inl) (TL:Tell E YY) (hf:E.P.funcs[K]?=some fn) {k:VK} {x:k.den E.N} {ob:List Prop} (hb:bare E k x) (hv:vdFun inl an TL fn args [] [] 0 (resP E [k] (fun y=>y=x))) (n:Nat):LendOK E K args ⟨ob,[],rvOf E n k x,[]⟩:=fun D w vs hD hg ha =>
 (vdFun_ok (C:=ctx0 (fun _=>none) D w) hE hI TL hf hv (mem0 (nx:=0) (fun _ _=>rfl) hD) hg ha).mono fun v w' h=>by
  obtain ⟨ρ',Z',s,its',nx',hx,hm,ht,hr,hk⟩:=h.pure
  obtain ⟨ρ3,os',_,_,_,hr3,_⟩:=rb1_ok (lkd:=[]) (n2:=n) (ρ2:=fun _=>none) (os:=[]) (new:=[]) (by simpa using hm) hr (resP1 hk) (fun _ _=>rfl) .nil
  exact ⟨hx,bare_rep hb hr3,trivial⟩
theorem con1D {fn:Func} {K nx:Nat} {args:List E.SV} (hE:EnvOK E) (hI:InlOK E inl) (TL:Tell E YY) (hf:E.P.funcs[K]?=some fn) {k:VK} {x:k.den E.N} {ob:List Prop} (hp:args.all pureS=true) (hv:vdFun inl an TL fn args [] [] 0 (resP E [k] (fun y=>y=x))):ConOK E.P E.N E.T E.G K args nx ⟨ob,[],rvOf E nx k x,itsOf E k x⟩ :=
 ⟨fun ρ Z w vs hfr hz hg ha=>(vdFun_ok (C:=ctx0 (fun _=>none) Z w) hE hI TL hf hv (mem0 (fun _ _=>rfl) hz) hg (pureT_rep hp ha _)).mono fun v w' h=>by
  obtain ⟨ρ',Z',s,its',nx',hx,hm,ht,hr,hk⟩:=h.pure
  obtain ⟨ρ3,os,t1,f1,s1,r1,o1⟩:=rb1_ok (lkd:=[]) (n2:=nx) (ρ2:=ρ) (os:=[]) (new:=[]) (by simpa using hm) hr (resP1 hk) hfr .nil
  rw [(fl1_its k x).1,List.append_nil] at t1
  rw [(fl1_its k x).2] at f1
  refine ⟨ρ3,Z',s1,f1,hm.zge,fun b hb=>?_,r1,con_end hm t1 (acc_nd o1) f1,trivial⟩
  rcases hm.zle b hb with h | h | h
  . exact .inl h
  . cases h
  . exact .inr h⟩
def obQ (E:Env) (Q:E.N.O 0->Prop) (its:Items E.N):Prop:=match lk its 0 with
 | some (.ob k _ x)=>if h:k=0 then Q (h ▸ x) else False
 | _=>False
theorem gen_ob {fn:Func} {K nx:Nat} {args:List E.SV} {itc:Items E.N} {fd:Nat} {x y:E.N.O 0} (hE:EnvOK E) (hI:InlOK E inl) (hf:E.P.funcs[K]?=some fn) (hv:vcFun inl an fn args [(0,.ob 0 fd x)] itc nx (fun _ its _=>obQ E (fun z=>z=y) its)) :
  GenOK E.P E.N E.T E.G K args ((0,.ob 0 fd x)::itc) nx (fun k=>∀ fid n v,k v ((0,.ob 0 fid y)::itc) n):=fun k hk ρ Z w vs B hfr hs hg ha =>
 (vcFun_ok (C:=Ctx.gr ρ Z w B) hE hI hf hv ⟨hs,hfr,fun _ _ h=>h,fun _ h=>h,fun _ h=>.inl h⟩ hg ha).mono fun v w' ⟨ρ',Z',s,its',nx',hm,ht,hr,hq⟩=>by
  have hq:obQ E (fun z=>z=y) its':=hq
  unfold obQ at hq
  split at hq
  . rename_i k0 f' x' hl
    split at hq
    . rename_i h0
      subst h0
      have hq:x'=y:=hq
      subst hq
      have hix:=ixOf_get hl
      have hlt:=lt_get hix
      have hm2:Mem E (Ctx.gr ρ Z w B) ρ' Z' w' ((0,.ob 0 f' x')::itc) nx':=hm.sel (fun _ _ h=>h) hm.fr (fun i=>if i=0 then ixOf its' 0 else its'.length+(i-1)) (fun i j _ _ e=>by
       by_cases hi:i=0
       . by_cases hj:j=0
         . omega
         . rw [if_pos hi,if_neg hj] at e; omega
       . by_cases hj:j=0
         . rw [if_neg hi,if_pos hj] at e; omega
         . rw [if_neg hi,if_neg hj] at e; omega) fun i p hp=>by
       cases i with
       | zero=>rw [if_pos rfl]; cases hp; exact its_get hix
       | succ i=>rw [if_neg (by omega),List.getElem?_append_right (by omega),show its'.length+(i+1-1)-its'.length=i by omega]; simpa using hp
      exact ⟨ρ',Z',s,_,nx',hm2.sep,hm2.fr,hm2.ge,hm2.zge,hm2.zle,hr,hk f' nx' s⟩
    . exact hq.elim
  . exact hq.elim
end
end Go.Rx
end
section
namespace Go.Rx
open Go Go.Wk Go.Wl
section
variable {E:Env} {t:Nat} {inl:Inl E} {an:Ann}
def felQ (E:Env) {t:Nat} (y:TyI E.N E.T t) (Q:E.N.U t->Prop):E.SV->Items E.N->Nat->Prop:=fun v its _=>match v with
 | .ref id off=>bif Nat.beq off 0 then (match lk its id with
  | some (.own T cells)=>bif Nat.beq T t then (match y.bk (.agg cells) with | some x=>Q x | none=>False) else False
  | _=>False) else False
 | _=>False
theorem con_fel {fn:Func} {K nx:Nat} {args:List E.SV} {x:E.N.U t} {ob:List Prop} (hE:EnvOK E) (hI:InlOK E inl) (hf:E.P.funcs[K]?=some fn) (y:TyI E.N E.T t) (hp:args.all pureS=true) (hv:vcFun inl an fn args [] [] 0 (felQ E y (fun z=>z=x))):ConOK E.P E.N E.T E.G K args nx ⟨ob,[],.fel t [x] 0 0,[]⟩ :=
 ⟨fun ρ Z w vs hfr hz hg ha=>(vcFun_ok (C:=ctx0 (fun _=>none) Z w) hE hI hf hv (mem0 (fun _ _=>rfl) hz) hg (pureT_rep hp ha _)).mono fun v w' h=>by
  obtain ⟨ρ',Z',s,its',nx',hx,hm,ht,hr,hk⟩:=h.pure
  unfold felQ at hk
  split at hk
  . rename_i id off
    have h1:=(bif_true hk).1
    replace hk:=(bif_true hk).2
    have h1:=Nat.eq_of_beq_eq_true h1
    subst h1
    split at hk
    . rename_i T cells hl
      have h2:=(bif_true hk).1
      replace hk:=(bif_true hk).2
      have h2:=Nat.eq_of_beq_eq_true h2
      subst h2
      split at hk
      . rename_i x' hbk
        subst hk
        obtain ⟨j,hj,_⟩:=lk_mem hl
        obtain ⟨L,cs,hL,hbs,ho,hrep⟩:=hm.holds hj
        have hL:ρ' id=some L:=hL
        have hb:L.b∈foot E.N ρ' id (.own T cells):=by rw [foot_own hL,hbs]; exact List.mem_singleton.2 rfl
        have ok:=hm.okp (List.mem_of_getElem? hj)
        have hrd:=y.bk_ok (s:=.agg cells) hrep hbk
        have hv:v=.pointer (some ⟨L.b,0,none⟩):=by
         cases hr with | ref hL'=>rw [hL] at hL'; cases hL'; rfl
        have hZ:∀ b,Z' b->b<w'.heap.size->(fun k=>Z' k ∨ k=L.b) b:=fun b h _=>.inl h
        have hrow:=own_row (D:=fun k=>Z' k ∨ k=L.b) ho (.inr rfl) (Rd.weak _ hrd hZ)
        refine ⟨ρ,fun k=>Z' k ∨ k=L.b,fun _ _ h=>h,hfr,fun b hb=>.inl (hm.zge b hb),fun b hb=>?_,?_,⟨hx,fun b hb=>?_,fun k t h=>by simp [toIts,number] at h,fun j k s t h=>by simp [toIts,number] at h⟩,trivial⟩
        . rcases hb with hb | rfl
          . rcases hm.zle b hb with h | h | h
            . exact .inl h
            . cases h
            . exact .inr h
          . rcases ok.org _ hb with h | h
            . cases h
            . exact .inr h
        . have:=Rep.fel (N:=E.N) (T:=E.T) (ρ:=ρ) (t:=T) (off:=0) hrow (i:=0) (by omega) (by show (0:Int)<1; omega)
          have e:eA (some ⟨L.b,0,none⟩) (Int.toNat 0 * (E.N.tb T).r.sz+0)=⟨L.b,0,none⟩:=by simp [eA,Addr.add]
          rw [e] at this
          rw [hv]; exact this
        . rcases hb with hb | rfl
          . exact hm.sep.zlt b hb
          . exact ok.lt _ hb
      . exact hk.elim
    . exact hk.elim
  . exact hk.elim⟩
end
end Go.Rx
end
section
namespace Go.Proofs.YtdjfeninmbpflaaGreat
open Go Go.Wk Go.Wl Go.Rx Go.Re 
theorem e5:True:=trivial
end Go.Proofs.YtdjfeninmbpflaaGreat
end
section
namespace Go.Proofs.YtdjfeninmbpflaaGreat
open Go Go.Wk Go.Wl Go.Rx Go.Re Go.Re
attribute [local irreducible] vcFun
def anlo:Nat->Ann:=fun | 30=>⟨12,fun _=>none,fun _=>none⟩ | _=>⟨0,fun _=>none,fun _=>none⟩
def Vlo (s:Tm) (r:Rl) (Q:Lk->Prop):Prop :=
Q (Lk.mk (Rl.mk r.Freq r.Interval r.Count r.Until r.Month r.WeekNo r.YearDay r.MonthDay r.Days r.Hour r.Minute r.Second r.SetPos r.Wkst) (Tm.mk (Dy.mk s.Day.Year s.Day.Month s.Day.Date) s.Hour s.Min s.Sec (decide (s.Bare=true)) (decide (s.UTC=true))) (numS (Dy.mk s.Day.Year s.Day.Month s.Day.Date)))
theorem Vlo_eq {s:Tm} {r:Rl} {Q:Lk->Prop}:@Eq Prop (Vlo s r Q) (vcFun (E:=Nc2) (inlHN Nc2 H0 anlo 2) (anlo 30) Tryz.f30 [.agg [.int .i64 s.Day.Year,.int .i64 s.Day.Month,.int .i64 s.Day.Date,.int .i64 s.Hour,.int .i64 s.Min,.int .i64 s.Sec,blB s.Bare,blB s.UTC],.agg [.int .i64 r.Freq,.int .i64 r.Interval,.int .i64 r.Count,.sl (N:=U) 25 r.Until,.sl (N:=U) 3 r.Month,.sl (N:=U) 3 r.WeekNo,.sl (N:=U) 3 r.YearDay,.sl (N:=U) 3 r.MonthDay,.sl (N:=U) 60 r.Days,.sl (N:=U) 3 r.Hour,.sl (N:=U) 3 r.Minute,.sl (N:=U) 3 r.Second,.sl (N:=U) 3 r.SetPos,.int .i64 r.Wkst]] [] [] 0 (felQ Nc2 y85 Q)):=by kernel_rfl
theorem Vlo_ok {s:Tm} {r:Rl} {Q:Lk->Prop} (h:Vlo s r Q):vcFun (E:=Nc2) (inlHN Nc2 H0 anlo 2) (anlo 30) Tryz.f30 [.agg [.int .i64 s.Day.Year,.int .i64 s.Day.Month,.int .i64 s.Day.Date,.int .i64 s.Hour,.int .i64 s.Min,.int .i64 s.Sec,blB s.Bare,blB s.UTC],.agg [.int .i64 r.Freq,.int .i64 r.Interval,.int .i64 r.Count,.sl (N:=U) 25 r.Until,.sl (N:=U) 3 r.Month,.sl (N:=U) 3 r.WeekNo,.sl (N:=U) 3 r.YearDay,.sl (N:=U) 3 r.MonthDay,.sl (N:=U) 60 r.Days,.sl (N:=U) 3 r.Hour,.sl (N:=U) 3 r.Minute,.sl (N:=U) 3 r.Second,.sl (N:=U) 3 r.SetPos,.int .i64 r.Wkst]] [] [] 0 (felQ Nc2 y85 Q):=by rw [<- Vlo_eq]; exact h
theorem plo (s:Tm) (r:Rl):Vlo s r (fun z=>z=⟨r,s,numS s.Day⟩):=by
 unfold Vlo
 simp only [Bool.decide_eq_true]
def clo (a:List (SV U)) (nx:Nat):Option (CR U):=match a with | [.agg l_s,.agg l_r]=>(y25.bk (.agg l_s)).bind fun s=>(y30.bk (.agg l_r)).bind fun r=>some ⟨[],[],.fel 85 [⟨r,s,numS s.Day⟩] 0 0,[]⟩ | _=>none
theorem clo_ok (args:List (SV U)) (nx:Nat) (c:CR U) (h:clo args nx=some c) (hp:args.all pureS=true) (ho:allP c.ob):ConOK Nc2.P Nc2.N Nc2.T Nc2.G 30 args nx c:=by
 unfold clo at h
 split at h
 . rename_i l_s l_r
   obtain ⟨s,hb_s,h⟩:=Option.bind_eq_some_iff.1 h
   obtain ⟨r,hb_r,h⟩:=Option.bind_eq_some_iff.1 h
   cases h
   exact ConOK.weak (b:=[.agg [.int .i64 s.Day.Year,.int .i64 s.Day.Month,.int .i64 s.Day.Date,.int .i64 s.Hour,.int .i64 s.Min,.int .i64 s.Sec,blB s.Bare,blB s.UTC],.agg [.int .i64 r.Freq,.int .i64 r.Interval,.int .i64 r.Count,.sl (N:=U) 25 r.Until,.sl (N:=U) 3 r.Month,.sl (N:=U) 3 r.WeekNo,.sl (N:=U) 3 r.YearDay,.sl (N:=U) 3 r.MonthDay,.sl (N:=U) 60 r.Days,.sl (N:=U) 3 r.Hour,.sl (N:=U) 3 r.Minute,.sl (N:=U) 3 r.Second,.sl (N:=U) 3 r.SetPos,.int .i64 r.Wkst]]) (con_fel Nc2_ok ((inlHN_ok Nc2_ok H0_ok anlo 2)) Tryz.func30 y85 rfl (Vlo_ok (plo s r))) fun ρ Z w v hr=>tup_conv [.agg l_s,.agg l_r] [.agg [.int .i64 s.Day.Year,.int .i64 s.Day.Month,.int .i64 s.Day.Date,.int .i64 s.Hour,.int .i64 s.Min,.int .i64 s.Sec,blB s.Bare,blB s.UTC],.agg [.int .i64 r.Freq,.int .i64 r.Interval,.int .i64 r.Count,.sl 25 r.Until,.sl 3 r.Month,.sl 3 r.WeekNo,.sl 3 r.YearDay,.sl 3 r.MonthDay,.sl 60 r.Days,.sl 3 r.Hour,.sl 3 r.Minute,.sl 3 r.Second,.sl 3 r.SetPos,.int .i64 r.Wkst]] _ ⟨fun _ h=>agg_conv25 hb_s h,fun _ h=>agg_conv30 hb_r h,trivial⟩ hr
 . cases h
noncomputable def Nlo:Env:=Nc2.addC 30 clo
theorem Nlo_ok:EnvOK Nlo:=Nc2_ok.addC Tryz.call30 clo_ok
end Go.Proofs.YtdjfeninmbpflaaGreat
end
section
namespace Go.Proofs.YtdjfeninmbpflaaGreat
open Go Go.Wk Go.Wl Go.Rx Go.Re 
noncomputable def NI47:Env:=Nlo.addI 47 Tryz.f47
theorem NI47_ok:EnvOK NI47:=Nlo_ok.addI Tryz.call47 Tryz.func47
end Go.Proofs.YtdjfeninmbpflaaGreat
end
section
namespace Go.Re
open Go Go.Wk Go.Wl Go.Rx
def matK (s:Tm) (r:Rl) (x:Int):Bool:=(decide (0<=idxR r x-idxR r (secsT s)/\(idxR r x-idxR r (secsT s)) % r.Interval=0) && dayS s r (numS s.Day) (x / 86400+1)) && hasN (clkS s r) (x % 86400)
def MatN (s:Tm) (r:Rl) (t:Tm):Prop:=((¬ fitsS s r=true ∨ ¬ rightT t=true) ∨ ¬ (t.Bare=true↔s.Bare=true)) ∨ ¬ (t.UTC=true↔s.UTC=true)
open Classical in
noncomputable def matR (s:Tm) (r:Rl) (t:Tm):Bool:=if MatN s r t then false else matK s r (secsT t)
end Go.Re
end
section
namespace Go.Re
open Go Go.Wk Go.Wl Go.Rx
structure Ws where
 T:List Int
 C:List Int
 run:List Int
 now:Int
def flW (r:Rl) (w:Ws):Ws:=⟨w.T++pickS r w.run,w.C++List.replicate (pickS r w.run).length (w.now.tdiv r.Interval),[],w.now⟩
def perW (s:Tm) (r:Rl) (t:Int):Int:=idxR r t-idxR r (secsT s)
def outW (s:Tm) (r:Rl) (t:Int):Prop:=perW s r t<0 ∨ (perW s r t).tmod r.Interval≠0
instance (s:Tm) (r:Rl) (t:Int):Decidable (outW s r t):=inferInstanceAs (Decidable (_ ∨ _))
def stW (s:Tm) (r:Rl) (w:Ws) (t:Int):Ws :=
 if outW s r t then w else if perW s r t≠w.now then ⟨(flW r w).T,(flW r w).C,[t],perW s r t⟩ else ⟨w.T,w.C,w.run++[t],w.now⟩
def dyW (s:Tm) (r:Rl) (n:Int):List Int:=if dayS s r (numS s.Day) n=true then (clkS s r).map fun c=>86400 * (n-1)+c else []
def spW (s:Tm) (r:Rl) (a:Int):Nat->List Int
 | 0=>[]
 | k+1=>spW s r a k++dyW s r (a+k)
def wsW (s:Tm) (r:Rl) (l:List Int):Ws:=l.foldl (stW s r) ⟨[],[],[],-1⟩
section
variable {s:Tm} {r:Rl}
theorem st_out {w:Ws} {t:Int} (h:outW s r t):stW s r w t=w:=by unfold stW; rw [if_pos h]
theorem st_new {w:Ws} {t:Int} (h:¬ outW s r t) (h1:perW s r t≠w.now):stW s r w t=⟨(flW r w).T,(flW r w).C,[t],perW s r t⟩:=by
 unfold stW; rw [if_neg h,if_pos h1]
theorem st_on {w:Ws} {t:Int} (h:¬ outW s r t) (h1:¬ perW s r t≠w.now):stW s r w t=⟨w.T,w.C,w.run++[t],w.now⟩:=by
 unfold stW; rw [if_neg h,if_neg h1]
theorem ws_snoc {l:List Int} {t:Int}:wsW s r (l++[t])=stW s r (wsW s r l) t:=by unfold wsW; rw [List.foldl_append]; rfl
theorem pickG_len {sp:List Int} {n:Int}:∀ (l:List Int) (i:Int),(pickG sp n i l).length<=l.length
 | [],_=>Nat.le_refl 0
 | t::l,i=>by
  have:=pickG_len (sp:=sp) (n:=n) l (i+1)
  rw [pickG_cons]
  split
  . simpa using this
  . exact Nat.le_succ_of_le this
theorem sec_rgU {h m:Int} (h0:0<=h) (h1:h<24) (m0:0<=m) (m1:m<60):∀ (k:Nat),k<=60->∀ c∈secU s r h m k,0<=c/\c<86400
 | 0,_,c,hc=>by cases hc
 | k+1,hk,c,hc=>by
  unfold secU at hc
  rcases List.mem_append.1 hc with hc | hc
  . exact sec_rgU h0 h1 m0 m1 k (by omega) c hc
  . split at hc
    . cases List.mem_singleton.1 hc; omega
    . cases hc
theorem min_rgU {h:Int} (h0:0<=h) (h1:h<24):∀ (k:Nat),k<=60->∀ c∈minU s r h k,0<=c/\c<86400
 | 0,_,c,hc=>by cases hc
 | k+1,hk,c,hc=>by
  unfold minU at hc
  rcases List.mem_append.1 hc with hc | hc
  . exact min_rgU h0 h1 k (by omega) c hc
  . split at hc
    . exact sec_rgU h0 h1 (by omega) (by omega) 60 (by omega) c hc
    . cases hc
theorem hou_rgU:∀ (k:Nat),k<=24->∀ c∈houU s r k,0<=c/\c<86400
 | 0,_,c,hc=>by cases hc
 | k+1,hk,c,hc=>by
  unfold houU at hc
  rcases List.mem_append.1 hc with hc | hc
  . exact hou_rgU k (by omega) c hc
  . split at hc
    . exact min_rgU (by omega) (by omega) 60 (by omega) c hc
    . cases hc
def dnW (s:Tm) (r:Rl) (n i:Int):List Int:=((clkS s r).take i.toNat).map fun c=>86400 * (n-1)+c
theorem dn_0 {n:Int}:dnW s r n 0=[]:=by unfold dnW; rfl
theorem dn_step {n i:Int} (h0:0<=i) (h1:i<(clkS s r).length):dnW s r n (i+1)=dnW s r n i++[86400 * (n-1)+ix (clkS s r) i]:=by
 have h:i.toNat<(clkS s r).length:=by omega
 unfold dnW
 rw [show (i+1).toNat=i.toNat+1 by omega,List.take_succ_eq_append_getElem h,List.map_append,ix_get h]
 rfl
structure WhI (s:Tm) (r:Rl) (to A D:Int) (w:Ws) (n:Int):Prop where
 a:A<=n
 a1:1<=A
 b:n<=3652060
 c:n=A ∨ 86400 * (n-2)<to+86400 * D
 w0:-1<=w.now
 w1:w.now<=400000000000
 e:w=wsW s r (spW s r A (n-A).toNat)
structure WdI (s:Tm) (r:Rl) (A n:Int) (w:Ws) (i:Int):Prop where
 i0:0<=i
 i1:i<=(clkS s r).length
 a:A<=n
 w0:-1<=w.now
 w1:w.now<=400000000000
 e:w=wsW s r (spW s r A (n-A).toNat++dnW s r n i)
structure FlI (r:Rl) (T C run:List Int) (now:Int) (X Y:List Int) (j:Int):Prop where
 j0:0<=j
 j1:j<=(pickS r run).length
 x:X=T++(pickS r run).take j.toNat
 y:Y=C++List.replicate j.toNat (now.tdiv r.Interval)
 lx:(X.length:Int)=T.length+j
 ly:(Y.length:Int)=C.length+j
theorem WhI.day {to A D n:Int} {w:Ws} (h:WhI s r to A D w n):WdI s r A n w 0 :=
 ⟨Int.le_refl 0,by omega,h.a,h.w0,h.w1,by rw [dn_0,List.append_nil]; exact h.e⟩
theorem WdI.step {A n i:Int} {w w2:Ws} (h:WdI s r A n w i) (hi:i<(clkS s r).length) (he:stW s r w (86400 * (n-1)+ix (clkS s r) i)=w2) (h0:-1<=w2.now) (h1:w2.now<=400000000000):WdI s r A n w2 (i+1) :=
 ⟨by have:=h.i0; omega,by omega,h.a,h0,h1,by rw [dn_step h.i0 hi,<- List.append_assoc,ws_snoc,<- h.e,he]⟩
theorem WdI.out {A n i:Int} {w:Ws} (h:WdI s r A n w i) (hi:i<(clkS s r).length) (ho:outW s r (86400 * (n-1)+ix (clkS s r) i)):WdI s r A n w (i+1) :=
 h.step hi (st_out ho) h.w0 h.w1
theorem WdI.on {A n i now:Int} {T C run:List Int} (h:WdI s r A n ⟨T,C,run,now⟩ i) (hi:i<(clkS s r).length) (ho:¬ outW s r (86400 * (n-1)+ix (clkS s r) i)) (hk:¬ perW s r (86400 * (n-1)+ix (clkS s r) i)≠now) :
  WdI s r A n ⟨T,C,run++[86400 * (n-1)+ix (clkS s r) i],now⟩ (i+1) :=
 h.step hi (st_on ho hk) h.w0 h.w1
theorem WdI.new {A n i now:Int} {T C run X Y:List Int} (h:WdI s r A n ⟨T,C,run,now⟩ i) (hi:i<(clkS s r).length) (ho:¬ outW s r (86400 * (n-1)+ix (clkS s r) i)) (hk:perW s r (86400 * (n-1)+ix (clkS s r) i)≠now)
  (hp:-1<=perW s r (86400 * (n-1)+ix (clkS s r) i)/\perW s r (86400 * (n-1)+ix (clkS s r) i)<=400000000000)
  (hf:X=T++pickS r run/\Y=C++List.replicate (pickS r run).length (now.tdiv r.Interval)) :
  WdI s r A n ⟨X,Y,[86400 * (n-1)+ix (clkS s r) i],perW s r (86400 * (n-1)+ix (clkS s r) i)⟩ (i+1):=by
 obtain ⟨rfl,rfl⟩:=hf
 exact h.step hi (st_new ho hk) hp.1 hp.2
theorem FlI.step {T C run X Y:List Int} {now j:Int} (h:FlI r T C run now X Y j) (hj:j<(pickS r run).length):FlI r T C run now (X++[ix (pickS r run) j]) (Y++[now.tdiv r.Interval]) (j+1):=by
 have h0:=h.j0
 have hl:j.toNat<(pickS r run).length:=by omega
 have lx:=h.lx
 have ly:=h.ly
 refine ⟨by omega,by omega,?_,?_,by simp only [List.length_append,List.length_cons,List.length_nil]; omega,by simp only [List.length_append,List.length_cons,List.length_nil]; omega⟩
 . rw [show (j+1).toNat=j.toNat+1 by omega,List.take_succ_eq_append_getElem hl,<- List.append_assoc,<- h.x,ix_get hl]
 . rw [show (j+1).toNat=j.toNat+1 by omega,List.replicate_succ',<- List.append_assoc,<- h.y]
end
end Go.Re
end
section
namespace Go.Re
open Go Go.Wk Go.Wl Go.Rx
structure Al where
 n:Int
 k:Int
 out:List Int
def offA (s:Tm) (r:Rl) (n t:Int):Prop:=(t<=secsT s ∨ 0<(r.Until.length:Int)/\secsT (ix r.Until 0)<t) ∨ 0<r.Count/\r.Count<=n
instance (s:Tm) (r:Rl) (n t:Int):Decidable (offA s r n t):=inferInstanceAs (Decidable (_ ∨ _))
def stA (s:Tm) (r:Rl) (to:Int) (w:Al) (t c:Int):Al :=
 if offA s r w.n t then w else ⟨w.n+1,if c<40000 then w.k+1 else w.k,if t<to then w.out++[t] else w.out⟩
def alA (s:Tm) (r:Rl) (to:Int) (T C:List Int):Nat->Al
 | 0=>⟨1,1,if secsT s<to then [secsT s] else []⟩
 | i+1=>stA s r to (alA s r to T C i) (ix T i) (ix C i)
section
variable {s:Tm} {r:Rl}
structure AlI (s:Tm) (r:Rl) (to:Int) (T C:List Int) (n k:Int) (out:List Int) (i:Int):Prop where
 i0:0<=i
 i1:i<=T.length
 n0:1<=n/\n<=i+1
 k0:1<=k/\k<=i+1
 o:(out.length:Int)<=i+1
 e:(⟨n,k,out⟩:Al)=alA s r to T C i.toNat
theorem al_step {to:Int} {T C:List Int} {i:Int} (h:0<=i):alA s r to T C (i+1).toNat=stA s r to (alA s r to T C i.toNat) (ix T i) (ix C i):=by
 rw [show (i+1).toNat=i.toNat+1 by omega]
 show stA s r to _ (ix T (i.toNat:Int)) (ix C (i.toNat:Int))=_
 rw [show ((i.toNat:Nat):Int)=i by omega]
theorem AlI.off {to n k i:Int} {T C out:List Int} (h:AlI s r to T C n k out i) (hi:i<T.length) (ho:offA s r n (ix T i)):AlI s r to T C n k out (i+1):=by
 have a:=h.i0
 have b:=h.n0
 have c:=h.k0
 have d:=h.o
 refine ⟨by omega,by omega,by omega,by omega,by omega,?_⟩
 rw [al_step a,<- h.e]
 unfold stA
 dsimp only
 rw [if_pos ho]
theorem AlI.on {to n k k2 i:Int} {T C out o2:List Int} (h:AlI s r to T C n k out i) (hi:i<T.length) (ho:¬ offA s r n (ix T i)) (hk:k2=if ix C i<40000 then k+1 else k) (h2:o2=if ix T i<to then out++[ix T i] else out):AlI s r to T C (n+1) k2 o2 (i+1):=by
 have a:=h.i0
 have b:=h.n0
 have c:=h.k0
 have d:=h.o
 refine ⟨by omega,by omega,by omega,by rw [hk]; split <;> omega,?_,?_⟩
 . rw [h2]
   split
   . simp only [List.length_append,List.length_cons,List.length_nil]; omega
   . omega
 rw [al_step a,<- h.e]
 unfold stA
 dsimp only
 rw [if_neg ho,hk,h2]
end
end Go.Re
end
section
namespace Go.Re
open Go Go.Wk Go.Wl Go.Rx
def frA (s a:Tm):List Int->List Tm
 | []=>[]
 | t::l=>if secsT a<=t then atS t s::frA s a l else frA s a l
theorem frA_app {s a:Tm}:∀ (l m:List Int),frA s a (l++m)=frA s a l++frA s a m
 | [],_=>rfl
 | t::l,m=>by
  show (if secsT a<=t then atS t s::frA s a (l++m) else frA s a (l++m))=(if secsT a<=t then atS t s::frA s a l else frA s a l)++_
  rw [frA_app l m]
  split <;> rfl
def BadX (s:Tm) (r:Rl) (a b:Tm):Prop:=(¬ fitsS s r=true ∨ ¬ rightT a=true) ∨ ¬ rightT b=true
def tm00:Tm:=⟨⟨0,0,0⟩,0,0,0,false,false⟩
theorem tm_eq {a t:Tm}:((a.Day.Year=t.Day.Year/\a.Day.Month=t.Day.Month/\a.Day.Date=t.Day.Date/\True)/\a.Hour=t.Hour/\a.Min=t.Min/\a.Sec=t.Sec/\(a.Bare=true↔t.Bare=true)/\(a.UTC=true↔t.UTC=true)/\True)↔a=t:=by
 obtain ⟨⟨y,m,d⟩,h,i,s,b,u⟩:=a
 obtain ⟨⟨y',m',d'⟩,h',i',s',b',u'⟩:=t
 constructor
 . rintro ⟨⟨h1,h2,h3,_⟩,h4,h5,h6,h7,h8,_⟩
   dsimp only at h1 h2 h3 h4 h5 h6 h7 h8
   rw [h1,h2,h3,h4,h5,h6,Bool.eq_iff_iff.2 h7,Bool.eq_iff_iff.2 h8]
 . intro h
   rw [h]
   exact ⟨⟨rfl,rfl,rfl,trivial⟩,rfl,rfl,rfl,Iff.rfl,Iff.rfl,trivial⟩
end Go.Re
end
section
namespace Go.Re
open Go Go.Wk Go.Wl Go.Rx
def goY (res:List Int->Int->Bool):List Int->List Int->List Int
 | y,[]=>y
 | y,t::r=>bif res y t then goY res (y++[t]) r else y++[t]
def okY (pre:List Int->Int->Prop) (res:List Int->Int->Bool):List Int->List Int->Prop
 | _,[]=>True
 | y,t::r=>pre y t/\(res y t=true->okY pre res (y++[t]) r)
structure GoI (pre:List Int->Int->Prop) (res:List Int->Int->Bool) (g y T:List Int):Prop where
 a:goY res y T=g
 b:okY pre res y T
section
variable {pre:List Int->Int->Prop} {res:List Int->Int->Bool} {g y T:List Int} {t:Int}
theorem GoI.fin (h:GoI pre res g y []):y=g:=h.a
theorem GoI.may (h:GoI pre res g y (t::T)):pre y t:=h.b.1
theorem GoI.stop (h:GoI pre res g y (t::T)) (hr:¬ res y t=true):y++[t]=g:=by
 have a:=h.a
 unfold goY at a
 rw [Bool.not_eq_true] at hr
 rw [hr] at a; exact a
theorem GoI.go (h:GoI pre res g y (t::T)) (hr:res y t=true):GoI pre res g (y++[t]) T:=by
 have a:=h.a
 unfold goY at a
 rw [hr] at a; exact ⟨a,h.b.2 hr⟩
end
def secP (fr to b:Int):List Int->List Int
 | []=>[]
 | s::r=>if fr<=b+s/\b+s<to then (b+s)::secP fr to b r else secP fr to b r
def minP (fr to b:Int) (ss:List Int):List Int->List Int
 | []=>[]
 | m::r=>if b+m * 60+59<fr ∨ to<=b+m * 60 then minP fr to b ss r else secP fr to (b+m * 60) ss++minP fr to b ss r
def houP (fr to:Int) (ms ss:List Int):List Int->List Int
 | []=>[]
 | h::r=>if h * 3600+3599<fr ∨ to<=h * 3600 then houP fr to ms ss r else minP fr to (h * 3600) ss ms++houP fr to ms ss r
def hoL (s:Tm) (r:Rl):List Int:=partsS r.Hour (decide (3<r.Freq)) s.Hour 24
def miL (s:Tm) (r:Rl):List Int:=partsS r.Minute (decide (4<r.Freq)) s.Min 60
def seL (s:Tm) (r:Rl):List Int:=partsS r.Second (decide (5<r.Freq)) s.Sec 60
def clkP (s:Tm) (r:Rl) (fr to:Int):List Int:=houP fr to (miL s r) (seL s r) (hoL s r)
section
variable {fr to b s m h:Int} {r ms ss:List Int}
theorem secP_nil:secP fr to b []=[]:=rfl
theorem secP_yes (hc:fr<=b+s/\b+s<to):secP fr to b (s::r)=(b+s)::secP fr to b r:=if_pos hc
theorem secP_no (hc:¬ (fr<=b+s/\b+s<to)):secP fr to b (s::r)=secP fr to b r:=if_neg hc
theorem minP_nil:minP fr to b ss []=[]:=rfl
theorem minP_yes (hc:b+m * 60+59<fr ∨ to<=b+m * 60):minP fr to b ss (m::r)=minP fr to b ss r:=if_pos hc
theorem minP_no (hc:¬ (b+m * 60+59<fr ∨ to<=b+m * 60)):minP fr to b ss (m::r)=secP fr to (b+m * 60) ss++minP fr to b ss r:=if_neg hc
theorem houP_nil:houP fr to ms ss []=[]:=rfl
theorem houP_yes (hc:h * 3600+3599<fr ∨ to<=h * 3600):houP fr to ms ss (h::r)=houP fr to ms ss r:=if_pos hc
theorem houP_no (hc:¬ (h * 3600+3599<fr ∨ to<=h * 3600)):houP fr to ms ss (h::r)=minP fr to (h * 3600) ss ms++houP fr to ms ss r:=if_neg hc
end
def inB (n:Int) (l:List Int):Prop:=∀ i:Int,0<=i->i<l.length->0<=ix l i/\ix l i<=n
theorem parts_inB {l:List Int} {f:Bool} {own all n:Int} (hl:∀ i:Int,0<=i->i<l.length->OkN 0 n false (ix l i)) (h0:0<=own) (h1:own<=n) (ha:0<=all) (hn:all<=n+1):inB n (partsS l f own all):=by
 intro i i0 i1
 unfold partsS at i1 ⊢
 by_cases hc:0<(l.length:Int)
 . rw [if_pos hc] at i1 ⊢
   have:=hl i i0 i1
   unfold OkN at this
   simp only [Bool.false_eq_true,false_and,if_false] at this
   exact this
 . rw [if_neg hc] at i1 ⊢
   cases f with
   | true =>
    rw [if_pos rfl] at i1 ⊢
    rw [rng_len] at i1
    rw [ix_get (by rw [rng_len]; omega)]
    unfold rngI
    simp only [List.getElem_map,List.getElem_range]
    show 0<=((i.toNat:Nat):Int)/\((i.toNat:Nat):Int)<=n
    omega
   | false =>
    rw [if_neg (by decide)] at i1 ⊢
    have:i=0:=by simp at i1; omega
    subst this
    exact ⟨h0,h1⟩
theorem hoL_in {s:Tm} {r:Rl} (h:FitsP s r):inB 23 (hoL s r):=by
 obtain ⟨_,⟨a,b⟩,_⟩:=rightT_iff.1 h.rt
 exact parts_inB (rightR_iff.1 h.rr).lists.ho.ok a b (by decide) (by decide)
theorem miL_in {s:Tm} {r:Rl} (h:FitsP s r):inB 59 (miL s r):=by
 obtain ⟨_,_,⟨a,b⟩,_⟩:=rightT_iff.1 h.rt
 exact parts_inB (rightR_iff.1 h.rr).lists.mi.ok a b (by decide) (by decide)
theorem seL_in {s:Tm} {r:Rl} (h:FitsP s r):inB 59 (seL s r):=by
 obtain ⟨_,_,_,⟨a,b⟩,_⟩:=rightT_iff.1 h.rt
 exact parts_inB (rightR_iff.1 h.rr).lists.se.ok a b (by decide) (by decide)
theorem partsS_len {l:List Int} {f:Bool} {own all:Int} (hl:(l.length:Int)<=24) (ha:all<=60):((partsS l f own all).length:Int)<=60:=by
 unfold partsS
 split
 . omega
 . split
   . rw [rng_len]; omega
   . simp
end Go.Re
end
section
namespace Go.Proofs.YtdjfeninmbpflaaGreat
open Go Go.Wk Go.Wl Go.Rx Go.Re Go.Re
attribute [local irreducible] vcFun
def anck:Nat->Ann:=fun | 86=>⟨128,fun | 1=>some ⟨[0,1,2,3,29,30],[.slot 31 (.int .i64),.ob 0 0]⟩ | 5=>some ⟨[0,1,2,3,6,29,30,31,62,63],[.slot 64 (.int .i64),.ob 0 0]⟩ | 10=>some ⟨[0,1,2,3,6,8,29,30,31,62,63,64,98,99],[.slot 100 (.int .i64),.ob 0 0]⟩ | _=>none,fun _=>none⟩ | _=>⟨0,fun _=>none,fun _=>none⟩
def Vck (x:ClX Tryz.prog) (l:Lk) (fr to:Int) (Q:ClX Tryz.prog->Prop):Prop :=
((0:Int)<=24/\(24:Int)<=100)/\∃ (I:Int->Cl Proofs.Tryz.prog×List Int->Prop),∃ (m:Int->Cl Proofs.Tryz.prog×List Int->Nat),I (0:Int) x/\∀ (x:Int) (x_1:Cl Proofs.Tryz.prog×List Int),I x x_1->(x<(↑(partsS (ix [l] (0:Int)).Rule.Hour (decide ((3:Int)<(ix [l] (0:Int)).Rule.Freq)) (ix [l] (0:Int)).start.Hour (24:Int)).length:Int)->(0:Int)<=x/\x<(↑(partsS (ix [l] (0:Int)).Rule.Hour (decide ((3:Int)<(ix [l] (0:Int)).Rule.Freq)) (ix [l] (0:Int)).start.Hour (24:Int)).length:Int)/\(in64 (ix (partsS (ix [l] (0:Int)).Rule.Hour (decide ((3:Int)<(ix [l] (0:Int)).Rule.Freq)) (ix [l] (0:Int)).start.Hour (24:Int)) x)->in64 (ix (partsS (ix [l] (0:Int)).Rule.Hour (decide ((3:Int)<(ix [l] (0:Int)).Rule.Freq)) (ix [l] (0:Int)).start.Hour (24:Int)) x * 3600)/\in64 (ix (partsS (ix [l] (0:Int)).Rule.Hour (decide ((3:Int)<(ix [l] (0:Int)).Rule.Freq)) (ix [l] (0:Int)).start.Hour (24:Int)) x * 3600+3599)/\(¬ix (partsS (ix [l] (0:Int)).Rule.Hour (decide ((3:Int)<(ix [l] (0:Int)).Rule.Freq)) (ix [l] (0:Int)).start.Hour (24:Int)) x * 3600+3599<fr->in64 (ix (partsS (ix [l] (0:Int)).Rule.Hour (decide ((3:Int)<(ix [l] (0:Int)).Rule.Freq)) (ix [l] (0:Int)).start.Hour (24:Int)) x * 3600))/\(ix (partsS (ix [l] (0:Int)).Rule.Hour (decide ((3:Int)<(ix [l] (0:Int)).Rule.Freq)) (ix [l] (0:Int)).start.Hour (24:Int)) x * 3600+3599<fr ∨ to<=ix (partsS (ix [l] (0:Int)).Rule.Hour (decide ((3:Int)<(ix [l] (0:Int)).Rule.Freq)) (ix [l] (0:Int)).start.Hour (24:Int)) x * 3600->in64 (x+1)/\I (x+1) x_1/\m (x+1) x_1<m x x_1)/\(¬(ix (partsS (ix [l] (0:Int)).Rule.Hour (decide ((3:Int)<(ix [l] (0:Int)).Rule.Freq)) (ix [l] (0:Int)).start.Hour (24:Int)) x * 3600+3599<fr ∨ to<=ix (partsS (ix [l] (0:Int)).Rule.Hour (decide ((3:Int)<(ix [l] (0:Int)).Rule.Freq)) (ix [l] (0:Int)).start.Hour (24:Int)) x * 3600)->((0:Int)<=60/\(60:Int)<=100)/\∃ (I_1:Int->Cl Proofs.Tryz.prog×List Int->Prop),∃ (m_1:Int->Cl Proofs.Tryz.prog×List Int->Nat),I_1 (0:Int) x_1/\∀ (x_2:Int) (x_3:Cl Proofs.Tryz.prog×List Int),I_1 x_2 x_3->(x_2<(↑(partsS (ix [l] (0:Int)).Rule.Minute (decide ((4:Int)<(ix [l] (0:Int)).Rule.Freq)) (ix [l] (0:Int)).start.Min (60:Int)).length:Int)->(0:Int)<=x_2/\x_2<(↑(partsS (ix [l] (0:Int)).Rule.Minute (decide ((4:Int)<(ix [l] (0:Int)).Rule.Freq)) (ix [l] (0:Int)).start.Min (60:Int)).length:Int)/\(in64 (ix (partsS (ix [l] (0:Int)).Rule.Minute (decide ((4:Int)<(ix [l] (0:Int)).Rule.Freq)) (ix [l] (0:Int)).start.Min (60:Int)) x_2)->in64 (ix (partsS (ix [l] (0:Int)).Rule.Hour (decide ((3:Int)<(ix [l] (0:Int)).Rule.Freq)) (ix [l] (0:Int)).start.Hour (24:Int)) x * 3600)/\in64 (ix (partsS (ix [l] (0:Int)).Rule.Minute (decide ((4:Int)<(ix [l] (0:Int)).Rule.Freq)) (ix [l] (0:Int)).start.Min (60:Int)) x_2 * 60)/\in64 (ix (partsS (ix [l] (0:Int)).Rule.Hour (decide ((3:Int)<(ix [l] (0:Int)).Rule.Freq)) (ix [l] (0:Int)).start.Hour (24:Int)) x * 3600+ix (partsS (ix [l] (0:Int)).Rule.Minute (decide ((4:Int)<(ix [l] (0:Int)).Rule.Freq)) (ix [l] (0:Int)).start.Min (60:Int)) x_2 * 60)/\in64 (ix (partsS (ix [l] (0:Int)).Rule.Hour (decide ((3:Int)<(ix [l] (0:Int)).Rule.Freq)) (ix [l] (0:Int)).start.Hour (24:Int)) x * 3600+ix (partsS (ix [l] (0:Int)).Rule.Minute (decide ((4:Int)<(ix [l] (0:Int)).Rule.Freq)) (ix [l] (0:Int)).start.Min (60:Int)) x_2 * 60+59)/\(ix (partsS (ix [l] (0:Int)).Rule.Hour (decide ((3:Int)<(ix [l] (0:Int)).Rule.Freq)) (ix [l] (0:Int)).start.Hour (24:Int)) x * 3600+ix (partsS (ix [l] (0:Int)).Rule.Minute (decide ((4:Int)<(ix [l] (0:Int)).Rule.Freq)) (ix [l] (0:Int)).start.Min (60:Int)) x_2 * 60+59<fr ∨ to<=ix (partsS (ix [l] (0:Int)).Rule.Hour (decide ((3:Int)<(ix [l] (0:Int)).Rule.Freq)) (ix [l] (0:Int)).start.Hour (24:Int)) x * 3600+ix (partsS (ix [l] (0:Int)).Rule.Minute (decide ((4:Int)<(ix [l] (0:Int)).Rule.Freq)) (ix [l] (0:Int)).start.Min (60:Int)) x_2 * 60->in64 (x_2+1)/\I_1 (x_2+1) x_3/\m_1 (x_2+1) x_3<m_1 x_2 x_3)/\(¬(ix (partsS (ix [l] (0:Int)).Rule.Hour (decide ((3:Int)<(ix [l] (0:Int)).Rule.Freq)) (ix [l] (0:Int)).start.Hour (24:Int)) x * 3600+ix (partsS (ix [l] (0:Int)).Rule.Minute (decide ((4:Int)<(ix [l] (0:Int)).Rule.Freq)) (ix [l] (0:Int)).start.Min (60:Int)) x_2 * 60+59<fr ∨ to<=ix (partsS (ix [l] (0:Int)).Rule.Hour (decide ((3:Int)<(ix [l] (0:Int)).Rule.Freq)) (ix [l] (0:Int)).start.Hour (24:Int)) x * 3600+ix (partsS (ix [l] (0:Int)).Rule.Minute (decide ((4:Int)<(ix [l] (0:Int)).Rule.Freq)) (ix [l] (0:Int)).start.Min (60:Int)) x_2 * 60)->((0:Int)<=60/\(60:Int)<=100)/\∃ (I:Int->Cl Proofs.Tryz.prog×List Int->Prop),∃ (m:Int->Cl Proofs.Tryz.prog×List Int->Nat),I (0:Int) x_3/\∀ (x_4:Int) (x_5:Cl Proofs.Tryz.prog×List Int),I x_4 x_5->(x_4<(↑(partsS (ix [l] (0:Int)).Rule.Second (decide ((5:Int)<(ix [l] (0:Int)).Rule.Freq)) (ix [l] (0:Int)).start.Sec (60:Int)).length:Int)->(0:Int)<=x_4/\x_4<(↑(partsS (ix [l] (0:Int)).Rule.Second (decide ((5:Int)<(ix [l] (0:Int)).Rule.Freq)) (ix [l] (0:Int)).start.Sec (60:Int)).length:Int)/\(in64 (ix (partsS (ix [l] (0:Int)).Rule.Second (decide ((5:Int)<(ix [l] (0:Int)).Rule.Freq)) (ix [l] (0:Int)).start.Sec (60:Int)) x_4)->in64 (ix (partsS (ix [l] (0:Int)).Rule.Hour (decide ((3:Int)<(ix [l] (0:Int)).Rule.Freq)) (ix [l] (0:Int)).start.Hour (24:Int)) x * 3600)/\in64 (ix (partsS (ix [l] (0:Int)).Rule.Minute (decide ((4:Int)<(ix [l] (0:Int)).Rule.Freq)) (ix [l] (0:Int)).start.Min (60:Int)) x_2 * 60)/\in64 (ix (partsS (ix [l] (0:Int)).Rule.Hour (decide ((3:Int)<(ix [l] (0:Int)).Rule.Freq)) (ix [l] (0:Int)).start.Hour (24:Int)) x * 3600+ix (partsS (ix [l] (0:Int)).Rule.Minute (decide ((4:Int)<(ix [l] (0:Int)).Rule.Freq)) (ix [l] (0:Int)).start.Min (60:Int)) x_2 * 60)/\in64 (ix (partsS (ix [l] (0:Int)).Rule.Hour (decide ((3:Int)<(ix [l] (0:Int)).Rule.Freq)) (ix [l] (0:Int)).start.Hour (24:Int)) x * 3600+ix (partsS (ix [l] (0:Int)).Rule.Minute (decide ((4:Int)<(ix [l] (0:Int)).Rule.Freq)) (ix [l] (0:Int)).start.Min (60:Int)) x_2 * 60+ix (partsS (ix [l] (0:Int)).Rule.Second (decide ((5:Int)<(ix [l] (0:Int)).Rule.Freq)) (ix [l] (0:Int)).start.Sec (60:Int)) x_4)/\(fr<=ix (partsS (ix [l] (0:Int)).Rule.Hour (decide ((3:Int)<(ix [l] (0:Int)).Rule.Freq)) (ix [l] (0:Int)).start.Hour (24:Int)) x * 3600+ix (partsS (ix [l] (0:Int)).Rule.Minute (decide ((4:Int)<(ix [l] (0:Int)).Rule.Freq)) (ix [l] (0:Int)).start.Min (60:Int)) x_2 * 60+ix (partsS (ix [l] (0:Int)).Rule.Second (decide ((5:Int)<(ix [l] (0:Int)).Rule.Freq)) (ix [l] (0:Int)).start.Sec (60:Int)) x_4/\ix (partsS (ix [l] (0:Int)).Rule.Hour (decide ((3:Int)<(ix [l] (0:Int)).Rule.Freq)) (ix [l] (0:Int)).start.Hour (24:Int)) x * 3600+ix (partsS (ix [l] (0:Int)).Rule.Minute (decide ((4:Int)<(ix [l] (0:Int)).Rule.Freq)) (ix [l] (0:Int)).start.Min (60:Int)) x_2 * 60+ix (partsS (ix [l] (0:Int)).Rule.Second (decide ((5:Int)<(ix [l] (0:Int)).Rule.Freq)) (ix [l] (0:Int)).start.Sec (60:Int)) x_4<to->ClX.pre x_5 (ix (partsS (ix [l] (0:Int)).Rule.Hour (decide ((3:Int)<(ix [l] (0:Int)).Rule.Freq)) (ix [l] (0:Int)).start.Hour (24:Int)) x * 3600+ix (partsS (ix [l] (0:Int)).Rule.Minute (decide ((4:Int)<(ix [l] (0:Int)).Rule.Freq)) (ix [l] (0:Int)).start.Min (60:Int)) x_2 * 60+ix (partsS (ix [l] (0:Int)).Rule.Second (decide ((5:Int)<(ix [l] (0:Int)).Rule.Freq)) (ix [l] (0:Int)).start.Sec (60:Int)) x_4)/\(¬ClX.res x_5 (ix (partsS (ix [l] (0:Int)).Rule.Hour (decide ((3:Int)<(ix [l] (0:Int)).Rule.Freq)) (ix [l] (0:Int)).start.Hour (24:Int)) x * 3600+ix (partsS (ix [l] (0:Int)).Rule.Minute (decide ((4:Int)<(ix [l] (0:Int)).Rule.Freq)) (ix [l] (0:Int)).start.Min (60:Int)) x_2 * 60+ix (partsS (ix [l] (0:Int)).Rule.Second (decide ((5:Int)<(ix [l] (0:Int)).Rule.Freq)) (ix [l] (0:Int)).start.Sec (60:Int)) x_4)=true->Q (ClX.put x_5 (ix (partsS (ix [l] (0:Int)).Rule.Hour (decide ((3:Int)<(ix [l] (0:Int)).Rule.Freq)) (ix [l] (0:Int)).start.Hour (24:Int)) x * 3600+ix (partsS (ix [l] (0:Int)).Rule.Minute (decide ((4:Int)<(ix [l] (0:Int)).Rule.Freq)) (ix [l] (0:Int)).start.Min (60:Int)) x_2 * 60+ix (partsS (ix [l] (0:Int)).Rule.Second (decide ((5:Int)<(ix [l] (0:Int)).Rule.Freq)) (ix [l] (0:Int)).start.Sec (60:Int)) x_4)))/\(¬¬ClX.res x_5 (ix (partsS (ix [l] (0:Int)).Rule.Hour (decide ((3:Int)<(ix [l] (0:Int)).Rule.Freq)) (ix [l] (0:Int)).start.Hour (24:Int)) x * 3600+ix (partsS (ix [l] (0:Int)).Rule.Minute (decide ((4:Int)<(ix [l] (0:Int)).Rule.Freq)) (ix [l] (0:Int)).start.Min (60:Int)) x_2 * 60+ix (partsS (ix [l] (0:Int)).Rule.Second (decide ((5:Int)<(ix [l] (0:Int)).Rule.Freq)) (ix [l] (0:Int)).start.Sec (60:Int)) x_4)=true->in64 (x_4+1)/\I (x_4+1) (ClX.put x_5 (ix (partsS (ix [l] (0:Int)).Rule.Hour (decide ((3:Int)<(ix [l] (0:Int)).Rule.Freq)) (ix [l] (0:Int)).start.Hour (24:Int)) x * 3600+ix (partsS (ix [l] (0:Int)).Rule.Minute (decide ((4:Int)<(ix [l] (0:Int)).Rule.Freq)) (ix [l] (0:Int)).start.Min (60:Int)) x_2 * 60+ix (partsS (ix [l] (0:Int)).Rule.Second (decide ((5:Int)<(ix [l] (0:Int)).Rule.Freq)) (ix [l] (0:Int)).start.Sec (60:Int)) x_4))/\m (x_4+1) (ClX.put x_5 (ix (partsS (ix [l] (0:Int)).Rule.Hour (decide ((3:Int)<(ix [l] (0:Int)).Rule.Freq)) (ix [l] (0:Int)).start.Hour (24:Int)) x * 3600+ix (partsS (ix [l] (0:Int)).Rule.Minute (decide ((4:Int)<(ix [l] (0:Int)).Rule.Freq)) (ix [l] (0:Int)).start.Min (60:Int)) x_2 * 60+ix (partsS (ix [l] (0:Int)).Rule.Second (decide ((5:Int)<(ix [l] (0:Int)).Rule.Freq)) (ix [l] (0:Int)).start.Sec (60:Int)) x_4))<m x_4 x_5))/\(¬(fr<=ix (partsS (ix [l] (0:Int)).Rule.Hour (decide ((3:Int)<(ix [l] (0:Int)).Rule.Freq)) (ix [l] (0:Int)).start.Hour (24:Int)) x * 3600+ix (partsS (ix [l] (0:Int)).Rule.Minute (decide ((4:Int)<(ix [l] (0:Int)).Rule.Freq)) (ix [l] (0:Int)).start.Min (60:Int)) x_2 * 60+ix (partsS (ix [l] (0:Int)).Rule.Second (decide ((5:Int)<(ix [l] (0:Int)).Rule.Freq)) (ix [l] (0:Int)).start.Sec (60:Int)) x_4/\ix (partsS (ix [l] (0:Int)).Rule.Hour (decide ((3:Int)<(ix [l] (0:Int)).Rule.Freq)) (ix [l] (0:Int)).start.Hour (24:Int)) x * 3600+ix (partsS (ix [l] (0:Int)).Rule.Minute (decide ((4:Int)<(ix [l] (0:Int)).Rule.Freq)) (ix [l] (0:Int)).start.Min (60:Int)) x_2 * 60+ix (partsS (ix [l] (0:Int)).Rule.Second (decide ((5:Int)<(ix [l] (0:Int)).Rule.Freq)) (ix [l] (0:Int)).start.Sec (60:Int)) x_4<to)->in64 (x_4+1)/\I (x_4+1) x_5/\m (x_4+1) x_5<m x_4 x_5)))/\(¬x_4<(↑(partsS (ix [l] (0:Int)).Rule.Second (decide ((5:Int)<(ix [l] (0:Int)).Rule.Freq)) (ix [l] (0:Int)).start.Sec (60:Int)).length:Int)->in64 (x_2+1)/\I_1 (x_2+1) x_5/\m_1 (x_2+1) x_5<m_1 x_2 x_3))))/\(¬x_2<(↑(partsS (ix [l] (0:Int)).Rule.Minute (decide ((4:Int)<(ix [l] (0:Int)).Rule.Freq)) (ix [l] (0:Int)).start.Min (60:Int)).length:Int)->in64 (x+1)/\I (x+1) x_3/\m (x+1) x_3<m x x_1))))/\(¬x<(↑(partsS (ix [l] (0:Int)).Rule.Hour (decide ((3:Int)<(ix [l] (0:Int)).Rule.Freq)) (ix [l] (0:Int)).start.Hour (24:Int)).length:Int)->Q x_1)
theorem Vck_eq {x:ClX Tryz.prog} {l:Lk} {fr to:Int} {Q:ClX Tryz.prog->Prop}:@Eq Prop (Vck x l fr to Q) (vcFun (E:=NI47) (inlHN NI47 H0 anck 3) (anck 86) Tryz.f86 [.yld 0,.ref 1 0,.ref 2 0,.ref 3 0] [(0,.ob 0 4 x)] [(1,.own 62 [.fel (N:=U) 85 [l] 0 0]),(2,.own 3 [.int .i64 fr]),(3,.own 3 [.int .i64 to])] 8 (fun _ its _=>obQ NI47 Q its)):=by kernel_rfl
theorem Vck_ok {x:ClX Tryz.prog} {l:Lk} {fr to:Int} {Q:ClX Tryz.prog->Prop} (h:Vck x l fr to Q):vcFun (E:=NI47) (inlHN NI47 H0 anck 3) (anck 86) Tryz.f86 [.yld 0,.ref 1 0,.ref 2 0,.ref 3 0] [(0,.ob 0 4 x)] [(1,.own 62 [.fel (N:=U) 85 [l] 0 0]),(2,.own 3 [.int .i64 fr]),(3,.own 3 [.int .i64 to])] 8 (fun _ its _=>obQ NI47 Q its):=by rw [<- Vck_eq]; exact h
set_option maxHeartbeats 2000000 in
theorem pck (x:ClX Tryz.prog) (l:Lk) (fr to:Int) (hf:fitsS l.start l.Rule=true) (ho:okY x.1.pre x.1.res x.2 (clkP l.start l.Rule fr to)):Vck x l fr to (fun z=>z=(x.1,goY x.1.res x.2 (clkP l.start l.Rule fr to))):=by
 unfold Vck
 have el:ix [l] 0=l:=rfl
 rw [el]
 have hF:=fits_iff.1 hf
 have bh:=hoL_in hF
 have bm:=miL_in hF
 have bs:=seL_in hF
 have lh:((hoL l.start l.Rule).length:Int)<=60:=partsS_len (rightR_iff.1 hF.rr).lists.ho.few (by decide)
 have lm:((miL l.start l.Rule).length:Int)<=60:=partsS_len (rightR_iff.1 hF.rr).lists.mi.few (by decide)
 have ls:((seL l.start l.Rule).length:Int)<=60:=partsS_len (rightR_iff.1 hF.rr).lists.se.few (by decide)
 have e1:partsS l.Rule.Hour (decide (3<l.Rule.Freq)) l.start.Hour 24=hoL l.start l.Rule:=rfl
 have e2:partsS l.Rule.Minute (decide (4<l.Rule.Freq)) l.start.Min 60=miL l.start l.Rule:=rfl
 have e3:partsS l.Rule.Second (decide (5<l.Rule.Freq)) l.start.Sec 60=seL l.start l.Rule:=rfl
 rw [e1,e2,e3]
 generalize hg:goY x.1.res x.2 (clkP l.start l.Rule fr to)=g at *
 have h0:GoI x.1.pre x.1.res g x.2 (clkP l.start l.Rule fr to):=⟨hg,ho⟩
 unfold clkP at h0
 generalize hoL l.start l.Rule=hs at *
 generalize miL l.start l.Rule=ms at *
 generalize seL l.start l.Rule=ss at *
 have lt:∀ n i:Int,i<n->(n-(i+1)).toNat<(n-i).toNat:=fun n i h=>by omega
 refine ⟨⟨by decide,by decide⟩,fun i y=>0<=i/\i<=hs.length/\y.1=x.1/\GoI x.1.pre x.1.res g y.2 (houP fr to ms ss (hs.drop i.toNat)),fun i _=>((hs.length:Int)-i).toNat,⟨Int.le_refl 0,by omega,rfl,by simpa using h0⟩,?_⟩
 rintro i y ⟨i0,i1,ey,hy⟩
 refine ⟨fun hi=>⟨i0,hi,fun hh=>?_⟩,fun hi=>?_⟩
 . obtain ⟨h1,h2⟩:=bh i i0 hi
   rw [drop_step i0 hi] at hy
   generalize ix hs i=h at *
   refine ⟨⟨by omega,by omega⟩,⟨by omega,by omega⟩,fun _=>⟨by omega,by omega⟩,fun hc=>⟨⟨by omega,by omega⟩,⟨by omega,by omega,ey,?_⟩,lt _ _ hi⟩,fun hc=>⟨⟨by decide,by decide⟩,?_⟩⟩
   . rwa [houP_yes hc] at hy
   . rw [houP_no hc] at hy
     refine ⟨fun j z=>0<=j/\j<=ms.length/\z.1=x.1/\GoI x.1.pre x.1.res g z.2 (minP fr to (h * 3600) ss (ms.drop j.toNat)++houP fr to ms ss (hs.drop (i+1).toNat)),fun j _=>((ms.length:Int)-j).toNat,⟨Int.le_refl 0,by omega,ey,by simpa using hy⟩,?_⟩
     rintro j z ⟨j0,j1,ez,hz⟩
     refine ⟨fun hj=>⟨j0,hj,fun hm=>?_⟩,fun hj=>⟨⟨by omega,by omega⟩,⟨by omega,by omega,ez,?_⟩,lt _ _ hi⟩⟩
     . obtain ⟨m1,m2⟩:=bm j j0 hj
       rw [drop_step j0 hj] at hz
       generalize ix ms j=m at *
       refine ⟨⟨by omega,by omega⟩,⟨by omega,by omega⟩,⟨by omega,by omega⟩,⟨by omega,by omega⟩,fun hc=>⟨⟨by omega,by omega⟩,⟨by omega,by omega,ez,?_⟩,lt _ _ hj⟩,fun hc=>⟨⟨by decide,by decide⟩,?_⟩⟩
       . rwa [minP_yes hc] at hz
       . rw [minP_no hc] at hz
         refine ⟨fun k u=>0<=k/\k<=ss.length/\u.1=x.1/\GoI x.1.pre x.1.res g u.2 (secP fr to (h * 3600+m * 60) (ss.drop k.toNat)++(minP fr to (h * 3600) ss (ms.drop (j+1).toNat)++houP fr to ms ss (hs.drop (i+1).toNat))),fun k _=>((ss.length:Int)-k).toNat,⟨Int.le_refl 0,by omega,ez,by simpa using hz⟩,?_⟩
         rintro k u ⟨k0,k1,eu,hu⟩
         obtain ⟨uc,ul⟩:=u
         have eu:uc=x.1:=eu
         subst eu
         refine ⟨fun hk=>⟨k0,hk,fun hm=>?_⟩,fun hk=>⟨⟨by omega,by omega⟩,⟨by omega,by omega,rfl,?_⟩,lt _ _ hj⟩⟩
         . obtain ⟨s1,s2⟩:=bs k k0 hk
           rw [drop_step k0 hk] at hu
           generalize ix ss k=s at *
           refine ⟨⟨by omega,by omega⟩,⟨by omega,by omega⟩,⟨by omega,by omega⟩,⟨by omega,by omega⟩,fun hc=>?_,fun hc=>⟨⟨by omega,by omega⟩,⟨by omega,by omega,rfl,?_⟩,lt _ _ hk⟩⟩
           . rw [secP_yes hc,List.cons_append] at hu
             refine ⟨hu.may,fun hr=>?_,fun hr=>⟨⟨by omega,by omega⟩,⟨by omega,by omega,rfl,hu.go (Classical.not_not.1 hr)⟩,lt _ _ hk⟩⟩
             exact Prod.ext rfl (hu.stop hr)
           . rwa [secP_no hc] at hu
         . rw [List.drop_eq_nil_of_le (by omega),secP_nil,List.nil_append] at hu
           exact hu
     . rw [List.drop_eq_nil_of_le (by omega),minP_nil,List.nil_append] at hz
       exact hz
 . rw [List.drop_eq_nil_of_le (by omega),houP_nil] at hy
   exact Prod.ext ey hy.fin
def yeR:YE NI47:=⟨fun x=>x,fun _ _ _ _ _=>Iff.rfl⟩
def tellF (K:Nat) (cs:List (SV U)) (its:Items U) (pre:List Int->Int->Prop) (res:List Int->Int->Bool):Option (Prop×List Int):=bif Nat.beq K 86 then (match cs,its with
 | [.ref 1 0,.ref 2 0,.ref 3 0],[(1,.own 62 [.fel 85 [l] 0 0]),(2,.own 3 [.int .i64 fr]),(3,.own 3 [.int .i64 to])]=>some (fitsS l.start l.Rule=true/\okY pre res [] (clkP l.start l.Rule fr to),goY res [] (clkP l.start l.Rule fr to))
 | _,_=>none) else none
theorem tellF_ok (K:Nat) (cs:List (SV U)) (its:Items U) (pre:List Int->Int->Prop) (res:List Int->Int->Bool) (ob:Prop) (xs:List Int) (h:tellF K cs its pre res=some (ob,xs)) (ho:ob):(∀ args w,(callFunc K args).run NI47.P w=.ok (.enter K args) w)/\∀ c:Cl NI47.P,c.pre=pre->c.res=res ->
  GenOK NI47.P NI47.N NI47.T NI47.G K (.yld 0::cs) ((0,.ob 0 (its.length+1) (yeR.yo (c,[])))::its) (2 * (its.length+1)) (fun k=>∀ fid n v,k v ((0,.ob 0 fid (yeR.yo (c,xs)))::its) n):=by
 unfold tellF at h
 have ⟨hK,h⟩:=bif_some h
 have hK:=Nat.eq_of_beq_eq_true hK
 subst hK
 split at h
 . rename_i l fr to _
   cases h
   refine ⟨Tryz.call86,?_⟩
   rintro c rfl rfl
   exact gen_ob NI47_ok ((inlHN_ok NI47_ok H0_ok anck 3)) Tryz.func86 (Vck_ok (pck (c,[]) l fr to ho.1 ho.2))
 . cases h
def tellR:Tell NI47 yeR:=⟨tellF,tellF_ok⟩
end Go.Proofs.YtdjfeninmbpflaaGreat
end
section
namespace Go.Re
open Go Go.Wk Go.Wl Go.Rx
theorem goY_true:∀ (T y:List Int),goY (fun _ _=>true) y T=y++T
 | [],y=>by simp [goY]
 | t::r,y=>by unfold goY; rw [cond_true,goY_true r]; simp
theorem stopB_true {xs:List Int}:stopB (fun _ _=>true) xs=false:=by
 unfold stopB
 cases xs.getLast? <;> rfl
theorem okY_len {p:Int->Prop} {n:Nat} {res:List Int->Int->Bool}:∀ (T y:List Int),y.length+T.length<=n->(∀ t∈T,p t)->okY (fun y t=>p t/\y.length<=n) res y T
 | [],_,_,_=>trivial
 | t::r,y,hn,h=>⟨⟨h t (List.mem_cons_self ..),by rw [List.length_cons] at hn; omega⟩,fun _=>okY_len r _ (by rw [List.length_append,List.length_singleton]; rw [List.length_cons] at hn; omega) fun u hu=>h u (List.mem_cons_of_mem _ hu)⟩
theorem secP_mem {fr to b t:Int}:∀ {l:List Int},t∈secP fr to b l↔∃ s∈l,t=b+s/\fr<=t/\t<to
 | []=>by simp [secP]
 | s::r=>by
  by_cases hc:fr<=b+s/\b+s<to
  . rw [secP_yes hc,List.mem_cons,secP_mem]
    constructor
    . rintro (rfl | ⟨u,hu,h⟩)
      . exact ⟨s,List.mem_cons_self .., rfl,hc⟩
      . exact ⟨u,List.mem_cons_of_mem _ hu,h⟩
    . rintro ⟨u,hu,h⟩
      rcases List.mem_cons.1 hu with rfl | hu
      . exact .inl h.1
      . exact .inr ⟨u,hu,h⟩
  . rw [secP_no hc,secP_mem]
    constructor
    . rintro ⟨u,hu,h⟩; exact ⟨u,List.mem_cons_of_mem _ hu,h⟩
    . rintro ⟨u,hu,h⟩
      rcases List.mem_cons.1 hu with rfl | hu
      . exact absurd (h.1 ▸ h.2) hc
      . exact ⟨u,hu,h⟩
theorem minP_mem {fr to b t:Int} {ss:List Int} (hs:inB 59 ss):∀ {l:List Int},t∈minP fr to b ss l↔∃ m∈l,∃ s∈ss,t=b+m * 60+s/\fr<=t/\t<to
 | []=>by simp [minP]
 | m::r=>by
  have bd:∀ s∈ss,0<=s/\s<=59:=fun s h=>by
   obtain ⟨i,i0,i1,rfl⟩:=ix_of_mem h
   exact hs i i0 i1
  have key:t∈minP fr to b ss (m::r)↔(∃ s∈ss,t=b+m * 60+s/\fr<=t/\t<to) ∨ t∈minP fr to b ss r:=by
   by_cases hc:b+m * 60+59<fr ∨ to<=b+m * 60
   . rw [minP_yes hc]
     refine ⟨.inr,fun h=>h.resolve_left ?_⟩
     rintro ⟨s,hs,h1,h2,h3⟩
     have:=bd s hs
     omega
   . rw [minP_no hc,List.mem_append,secP_mem]
  rw [key,minP_mem hs]
  constructor
  . rintro (h | ⟨u,hu,h⟩)
    . exact ⟨m,List.mem_cons_self .., h⟩
    . exact ⟨u,List.mem_cons_of_mem _ hu,h⟩
  . rintro ⟨u,hu,h⟩
    rcases List.mem_cons.1 hu with rfl | hu
    . exact .inl h
    . exact .inr ⟨u,hu,h⟩
theorem houP_mem {fr to t:Int} {ms ss:List Int} (hm:inB 59 ms) (hs:inB 59 ss):∀ {l:List Int},t∈houP fr to ms ss l↔∃ h∈l,∃ m∈ms,∃ s∈ss,t=h * 3600+m * 60+s/\fr<=t/\t<to
 | []=>by simp [houP]
 | h::r=>by
  have bd:∀ s∈ss,0<=s/\s<=59:=fun s h=>by
   obtain ⟨i,i0,i1,rfl⟩:=ix_of_mem h
   exact hs i i0 i1
  have bm:∀ s∈ms,0<=s/\s<=59:=fun s h=>by
   obtain ⟨i,i0,i1,rfl⟩:=ix_of_mem h
   exact hm i i0 i1
  have key:t∈houP fr to ms ss (h::r)↔(∃ m∈ms,∃ s∈ss,t=h * 3600+m * 60+s/\fr<=t/\t<to) ∨ t∈houP fr to ms ss r:=by
   by_cases hc:h * 3600+3599<fr ∨ to<=h * 3600
   . rw [houP_yes hc]
     refine ⟨.inr,fun h=>h.resolve_left ?_⟩
     rintro ⟨m,hm,s,hs,h1,h2,h3⟩
     have:=bd s hs
     have:=bm m hm
     omega
   . rw [houP_no hc,List.mem_append,minP_mem hs]
  rw [key,houP_mem hm hs]
  constructor
  . rintro (hh | ⟨u,hu,hh⟩)
    . exact ⟨h,List.mem_cons_self .., hh⟩
    . exact ⟨u,List.mem_cons_of_mem _ hu,hh⟩
  . rintro ⟨u,hu,hh⟩
    rcases List.mem_cons.1 hu with rfl | hu
    . exact .inl hh
    . exact .inr ⟨u,hu,hh⟩
theorem clkP_mem {s:Tm} {r:Rl} {fr to t:Int} (hF:FitsP s r):t∈clkP s r fr to↔(∃ h∈hoL s r,∃ m∈miL s r,∃ x∈seL s r,t=h * 3600+m * 60+x)/\fr<=t/\t<to:=by
 unfold clkP
 rw [houP_mem (miL_in hF) (seL_in hF)]
 constructor
 . rintro ⟨h,hh,m,hm,x,hx,e,b⟩; exact ⟨⟨h,hh,m,hm,x,hx,e⟩,b⟩
 . rintro ⟨⟨h,hh,m,hm,x,hx,e⟩,b⟩; exact ⟨h,hh,m,hm,x,hx,e,b⟩
theorem secP_len {fr to b:Int}:∀ l:List Int,(secP fr to b l).length<=l.length
 | []=>Nat.le_refl 0
 | s::r=>by
  have:=secP_len (fr:=fr) (to:=to) (b:=b) r
  unfold secP
  split <;> simp only [List.length_cons] <;> omega
theorem minP_len {fr to b:Int} {ss:List Int} (h:ss.length<=60):∀ l:List Int,(minP fr to b ss l).length<=l.length * 60
 | []=>by rw [minP_nil]; exact Nat.zero_le _
 | m::r=>by
  have:=minP_len (fr:=fr) (to:=to) (b:=b) h r
  have:=secP_len (fr:=fr) (to:=to) (b:=b+m * 60) ss
  unfold minP
  split <;> simp only [List.length_cons,List.length_append] <;> omega
theorem houP_len {fr to:Int} {ms ss:List Int} (h:ss.length<=60) (hm:ms.length<=60):∀ l:List Int,(houP fr to ms ss l).length<=l.length * 3600
 | []=>by rw [houP_nil]; exact Nat.zero_le _
 | x::r=>by
  have:=houP_len (fr:=fr) (to:=to) h hm r
  have h2:=minP_len (fr:=fr) (to:=to) (b:=x * 3600) h ms
  have e:(x::r).length * 3600=r.length * 3600+3600:=by rw [List.length_cons,Nat.add_mul,Nat.one_mul]
  rw [e]
  by_cases hc:x * 3600+3599<fr ∨ to<=x * 3600
  . rw [houP_yes hc]; exact Nat.le_trans this (Nat.le_add_right _ _)
  . rw [houP_no hc,List.length_append]
    have key:∀ A B M X:Nat,A<=X->B<=M * 60->M<=60->B+A<=X+3600:=fun A B M X h1 h2 h3=>by omega
    exact key _ _ _ _ this h2 hm
theorem clkP_len {s:Tm} {r:Rl} {fr to:Int} (hF:FitsP s r):(clkP s r fr to).length<=216000:=by
 have a:((hoL s r).length:Int)<=60:=partsS_len (rightR_iff.1 hF.rr).lists.ho.few (by decide)
 have b:((miL s r).length:Int)<=60:=partsS_len (rightR_iff.1 hF.rr).lists.mi.few (by decide)
 have c:((seL s r).length:Int)<=60:=partsS_len (rightR_iff.1 hF.rr).lists.se.few (by decide)
 have:=houP_len (fr:=fr) (to:=to) (ms:=miL s r) (ss:=seL s r) (by omega) (by omega) (hoL s r)
 unfold clkP
 omega
def dayC (s:Tm) (r:Rl) (day fr to n:Int):List Int:=if dayS s r day n=true then (clkP s r (fr-(n-1) * 86400) (to-(n-1) * 86400)).map (fun t=>(n-1) * 86400+t) else []
def dayU (s:Tm) (r:Rl) (day fr to:Int):Nat->Int->List Int
 | 0,_=>[]
 | k+1,n=>dayC s r day fr to n++dayU s r day fr to k (n+1)
theorem dayC_len {s:Tm} {r:Rl} {day fr to n:Int} (hF:FitsP s r):(dayC s r day fr to n).length<=216000:=by
 unfold dayC
 split
 . rw [List.length_map]; exact clkP_len hF
 . exact Nat.zero_le _
def winO (s:Tm) (r:Rl) (day fr to:Int):List Int:=dayU s r day fr to ((to+86399) / 86400-fr / 86400).toNat (fr / 86400+1)
def candP (s:Tm) (r:Rl) (day i:Int):List Int:=pickS r (winO s r day (begP r i) (begP r (i+1)))
theorem nbP_rg {n:Int} (h:0<=n):0<=nbP n/\nbP n<=315537897600:=by
 unfold nbP
 split <;> omega
theorem begP_rg {r:Rl} {i:Int} (h0:0<=i):0<=begP r i/\begP r i<=315537897600:=by
 have n1:=(num_rg0 ⟨i,1,1⟩).1
 have n2:=(num_rg0 ⟨i / 12,i % 12+1,1⟩).1
 unfold begP
 split
 . exact nbP_rg n1
 split
 . exact nbP_rg n2
 split
 . exact nbP_rg (by omega)
 split
 . exact nbP_rg h0
 split
 . omega
 split <;> omega
structure DayI (s:Tm) (r:Rl) (day fr to n:Int) (acc:List Int):Prop where
 a:fr / 86400+1<=n
 b:n<=(to+86399) / 86400+1 ∨ n=fr / 86400+1
 c:(acc.length:Int)<=(n-fr / 86400-1) * 216000
 d:acc++dayU s r day fr to ((to+86399) / 86400+1-n).toNat n=winO s r day fr to
section
variable {s:Tm} {r:Rl} {day fr to n:Int} {acc:List Int}
theorem DayI.init:DayI s r day fr to (fr / 86400+1) []:=⟨Int.le_refl _,.inr rfl,by simp; omega,by
 unfold winO
 rw [List.nil_append,show (to+86399) / 86400+1-(fr / 86400+1)=(to+86399) / 86400-fr / 86400 by omega]⟩
theorem DayI.step (h:DayI s r day fr to n acc) (hF:FitsP s r) (hn:(n-1) * 86400<to):DayI s r day fr to (n+1) (acc++dayC s r day fr to n):=by
 have hb:n<=(to+86399) / 86400:=by omega
 have a:=h.a
 have c:=h.c
 have d:=h.d
 have l:=dayC_len (day:=day) (fr:=fr) (to:=to) (n:=n) hF
 refine ⟨by omega,.inl (by omega),?_,?_⟩
 . rw [List.length_append]
   have:(n+1-fr / 86400-1) * 216000=(n-fr / 86400-1) * 216000+216000:=by omega
   omega
 . rw [show ((to+86399) / 86400+1-n).toNat=((to+86399) / 86400+1-(n+1)).toNat+1 by omega] at d
   unfold dayU at d
   rw [List.append_assoc]; exact d
theorem DayI.fin (h:DayI s r day fr to n acc) (hn:¬ (n-1) * 86400<to):acc=winO s r day fr to:=by
 have d:=h.d
 rw [show ((to+86399) / 86400+1-n).toNat=0 by omega] at d
 unfold dayU at d
 rw [List.append_nil] at d; exact d
theorem DayI.len (h:DayI s r day fr to n acc) (f0:0<=fr) (f1:fr<=315537897600) (t1:to<=315537897600):(acc.length:Int)<=1000000000000:=by
 have c:=h.c
 have a:=h.a
 rcases h.b with b | b
 . have:n-fr / 86400-1<=3652060:=by omega
   omega
 . have:n-fr / 86400-1=0:=by omega
   rw [this] at c
   omega
end
end Go.Re
end
section
namespace Go.Proofs.YtdjfeninmbpflaaGreat
open Go Go.Wk Go.Wl Go.Rx Go.Re Go.Re
attribute [local irreducible] vcFun vdFun
def ancc:Nat->Ann:=fun | 53=>⟨84,fun | 4=>some ⟨[0,5,6,7],[.slot 8 (.int .i64),.tree [] [.own (some 7) 27 [.v (.acc 3)]]]⟩ | 10=>some ⟨[7,8,9],[.tree [] [.own (some 7) 27 [.v (.acc 3)]]]⟩ | 15=>some ⟨[0,7,61,62],[.slot 63 (.int .i64),.slot 11 (.acc 3)]⟩ | _=>none,fun _=>none⟩ | 47=>⟨8,fun _=>none,fun _=>none⟩ | _=>⟨0,fun _=>none,fun _=>none⟩
def Vcc (l:Lk) (i:Int) (Q:List Int->Prop):Prop :=
(0:Int)<=i/\i<=1000000000000/\(0:Int)<=l.Rule.Wkst/\l.Rule.Wkst<=6/\in64 (i+1)/\(0:Int)<=i+1/\i+1<=1000000000000/\(0:Int)<=l.Rule.Wkst/\l.Rule.Wkst<=6/\(86400:Int)≠0/\in64 ((begP l.Rule i).tdiv (86400:Int))/\in64 ((begP l.Rule i).tdiv (86400:Int)+1)/\∃ (I:Int->List Int->Prop),∃ (m:Int->List Int->Nat),I ((begP l.Rule i).tdiv (86400:Int)+1) []/\∀ (x:Int) (x_1:List Int),I x x_1->in64 (x-1)/\in64 ((x-1) * 86400)/\((x-1) * 86400<begP l.Rule (i+1)->fewR l.Rule=true/\(1:Int)<=x/\x<=3652059/\rightR l.Rule=true/\(¬dayS l.start l.Rule l.day x=true->in64 (x+1)/\I (x+1) x_1/\m (x+1) x_1<m x x_1)/\(¬¬dayS l.start l.Rule l.day x=true->in64 (x-1)/\in64 ((x-1) * 86400)/\in64 (begP l.Rule i-(x-1) * 86400)/\in64 (begP l.Rule (i+1)-(x-1) * 86400)/\∃ (I_1:List Int->List Int->Prop),∃ (pre:List Int->Int->Prop),∃ (res:List Int->Int->Bool),I_1 [] x_1/\(∀ (xs:List Int) (t:Int),pre xs t->stopB res xs=false)/\(∀ (xs:List Int) (t:Int),in64 t->pre xs t->∀ (x_2:List Int),I_1 xs x_2->in64 ((x-1) * 86400+t)/\(x_2.length+[(x-1) * 86400+t].length) * (some (8:Nat)).getD (0:Nat)<=140737488355328/\res xs t=true/\I_1 (xs++[t]) (x_2++[(x-1) * 86400+t]))/\(fitsS l.start l.Rule=true/\okY pre res [] (clkP l.start l.Rule (begP l.Rule i-(x-1) * 86400) (begP l.Rule (i+1)-(x-1) * 86400)))/\∀ (x_2:List Int),I_1 (goY res [] (clkP l.start l.Rule (begP l.Rule i-(x-1) * 86400) (begP l.Rule (i+1)-(x-1) * 86400))) x_2->(stopB res (goY res [] (clkP l.start l.Rule (begP l.Rule i-(x-1) * 86400) (begP l.Rule (i+1)-(x-1) * 86400)))=true->False)/\(stopB res (goY res [] (clkP l.start l.Rule (begP l.Rule i-(x-1) * 86400) (begP l.Rule (i+1)-(x-1) * 86400)))=false->in64 (x+1)/\I (x+1) x_2/\m (x+1) x_2<m x x_1)))/\(¬(x-1) * 86400<begP l.Rule (i+1)->((↑(ix [l] (0:Int)).Rule.SetPos.length:Int)=0->Q x_1)/\(¬(↑(ix [l] (0:Int)).Rule.SetPos.length:Int)=0->∃ (I:Int->List Int->Prop),∃ (m:Int->List Int->Nat),I (0:Int) []/\∀ (x:Int) (x_2:List Int),I x x_2->(x<(↑x_1.length:Int)->(0:Int)<=x/\x<(↑x_1.length:Int)/\(in64 (ix x_1 x)->in64 (x+1)/\((ix [l] (0:Int)).Rule.SetPos.length<=1000000/\(-1000000000000000:Int)<=x+1/\x+1<=1000000000000000/\(-1000000000000000:Int)<=(↑x_1.length:Int)/\(↑x_1.length:Int)<=1000000000000000)/\(Re.hasE (ix [l] (0:Int)).Rule.SetPos (x+1) (↑x_1.length:Int)=true->(x_2.length+[ix x_1 x].length) * (some (8:Nat)).getD (0:Nat)<=140737488355328/\in64 (x+1)/\I (x+1) (x_2++[ix x_1 x])/\m (x+1) (x_2++[ix x_1 x])<m x x_2)/\(¬Re.hasE (ix [l] (0:Int)).Rule.SetPos (x+1) (↑x_1.length:Int)=true->in64 (x+1)/\I (x+1) x_2/\m (x+1) x_2<m x x_2)))/\(¬x<(↑x_1.length:Int)->Q x_2)))
theorem Vcc_eq {l:Lk} {i:Int} {Q:List Int->Prop}:@Eq Prop (Vcc l i Q) (vdFun (E:=NI47) (inlHN NI47 H0 ancc 3) (ancc 53) tellR Tryz.f53 [.fel (N:=U) 85 [l] 0 0,.int .i64 i] [] [] 0 (resP NI47 [.acc 3] Q)):=by kernel_rfl
theorem Vcc_ok {l:Lk} {i:Int} {Q:List Int->Prop} (h:Vcc l i Q):vdFun (E:=NI47) (inlHN NI47 H0 ancc 3) (ancc 53) tellR Tryz.f53 [.fel (N:=U) 85 [l] 0 0,.int .i64 i] [] [] 0 (resP NI47 [.acc 3] Q):=by rw [<- Vcc_eq]; exact h
set_option maxHeartbeats 2000000 in
theorem pcc (l:Lk) (i:Int) (hfw:fewR l.Rule=true) (hf:fitsS l.start l.Rule=true) (i0:0<=i) (i1:i<=999999999999):Vcc l i (fun y=>y=candP l.start l.Rule l.day i):=by
 unfold Vcc candP
 have el:ix [l] 0=l:=rfl
 rw [el]
 have hF:=fits_iff.1 hf
 have hd8:=(rightR_iff.1 hF.rr).head
 obtain ⟨_,_,_,_,_,_,w0,w1⟩:=hd8
 obtain ⟨f0,f1⟩:=begP_rg (r:=l.Rule) i0
 obtain ⟨t0,t1⟩:=begP_rg (r:=l.Rule) (i:=i+1) (by omega)
 generalize begP l.Rule i=fr at *
 generalize begP l.Rule (i+1)=to at *
 have ed:fr.tdiv 86400=fr / 86400:=Int.tdiv_eq_ediv_of_nonneg f0
 rw [ed]
 refine ⟨i0,by omega,w0,w1,⟨by omega,by omega⟩,by omega,by omega,w0,w1,by decide,⟨by omega,by omega⟩,⟨by omega,by omega⟩,DayI l.start l.Rule l.day fr to,fun n _=>((to+86399) / 86400+1-n).toNat,DayI.init,?_⟩
 intro n acc hI
 have hl:=hI.len f0 f1 t1
 have ha:=hI.a
 have hb:=hI.b
 have hms:(n-1) * 86400<to->((to+86399) / 86400+1-(n+1)).toNat<((to+86399) / 86400+1-n).toNat:=fun h=>by omega
 refine ⟨⟨by omega,by omega⟩,⟨by omega,by omega⟩,fun hn=>?_,fun hn=>?_⟩
 . have n1:1<=n:=by omega
   have n2:n<=3652059:=by omega
   refine ⟨hfw,n1,n2,hF.rr,fun hd=>⟨⟨by omega,by omega⟩,?_,hms hn⟩,fun hd=>⟨⟨by omega,by omega⟩,⟨by omega,by omega⟩,⟨by omega,by omega⟩,⟨by omega,by omega⟩,fun xs a=>a=acc++xs.map (fun t=>(n-1) * 86400+t),fun ys t=>(fr-(n-1) * 86400<=t/\t<to-(n-1) * 86400)/\ys.length<=216000,fun _ _=>true,by simp,fun xs t _=>?_,fun xs t h64 hp a ha2=>⟨⟨by omega,by omega⟩,?_,rfl,?_⟩,⟨hf,okY_len _ [] ?_ fun t ht=>?_⟩,fun a ha2=>⟨fun h=>?_,fun _=>⟨⟨by omega,by omega⟩,?_,hms hn⟩⟩⟩⟩
   . have:=hI.step hF hn
     unfold dayC at this
     rw [if_neg hd,List.append_nil] at this
     exact this
   . exact stopB_true
   . show (a.length+1) * 8<=140737488355328
     have:a.length=acc.length+xs.length:=by rw [ha2,List.length_append,List.length_map]
     omega
   . rw [ha2]; simp
   . have:=clkP_len (fr:=fr-(n-1) * 86400) (to:=to-(n-1) * 86400) hF
     rw [List.length_nil,Nat.zero_add]; exact this
   . exact ((clkP_mem hF).1 ht).2
   . rw [stopB_true] at h; cases h
   . have:=hI.step hF hn
     unfold dayC at this
     rw [if_pos (Classical.not_not.1 hd)] at this
     rw [goY_true,List.nil_append] at ha2
     rw [ha2]; exact this
 . have e:=hI.fin hn
   refine ⟨fun h=>?_,fun h=>⟨fun k p=>PickI l.Rule.SetPos acc p k,fun k _=>((acc.length:Int)-k).toNat,PickI.init,fun k p hk=>?_⟩⟩
   . unfold pickS
     rw [if_pos h]; exact e
   . have sp:=(rightR_iff.1 hF.rr).lists.sp.few
     have ka:=hk.a
     have kc:=hk.c
     refine ⟨fun hlt=>⟨ka,hlt,fun _=>⟨⟨by omega,by omega⟩,⟨by omega,by omega,by omega,by omega,by omega⟩,fun hh=>⟨?_,⟨by omega,by omega⟩,hk.yes hlt ?_,by show (_:Int).toNat<(_:Int).toNat; omega⟩,fun hh=>⟨⟨by omega,by omega⟩,hk.no hlt ?_,by show (_:Int).toNat<(_:Int).toNat; omega⟩⟩⟩,fun hge=>?_⟩
     . show (p.length+1) * 8<=140737488355328
       omega
     . unfold Re.hasE at hh
       rw [Bool.or_eq_true,show k+1-(acc.length:Int)-1=k-acc.length by omega] at hh
       exact hh
     . unfold Re.hasE at hh
       rw [Bool.or_eq_true,show k+1-(acc.length:Int)-1=k-acc.length by omega] at hh
       exact hh
     . have:=hk.fin hge
       unfold pickS
       rw [if_neg h,<- e]; exact this
noncomputable def ccc (a:List (SV U)) (nx:Nat):Option (CR U):=match a with | [.fel 85 [l] 0 0,.int .i64 i]=>some ⟨[fewR l.Rule=true,fitsS l.start l.Rule=true,0<=i,i<=999999999999],[],.acc nx,[.ac 3 (candP l.start l.Rule l.day i)]⟩ | _=>none
theorem ccc_ok (args:List (SV U)) (nx:Nat) (c:CR U) (h:ccc args nx=some c) (hp:args.all pureS=true) (ho:allP c.ob):ConOK NI47.P NI47.N NI47.T NI47.G 53 args nx c:=by
 unfold ccc at h
 split at h
 . rename_i l i
   cases h
   exact con1D NI47_ok ((inlHN_ok NI47_ok H0_ok ancc 3)) tellR Tryz.func53 (k:=.acc 3) (x:=candP l.start l.Rule l.day i) hp (Vcc_ok (pcc l i ho.1 ho.2.1 ho.2.2.1 ho.2.2.2.1))
 . cases h
noncomputable def Ncc:Env:=NI47.addC 53 ccc
theorem Ncc_ok:EnvOK Ncc:=NI47_ok.addC Tryz.call53 ccc_ok
end Go.Proofs.YtdjfeninmbpflaaGreat
end
section
namespace Go.Re
open Go Go.Wk Go.Wl Go.Rx
theorem secU_mem {s:Tm} {r:Rl} {h m t:Int}:∀ {k:Nat},t∈secU s r h m k↔∃ x:Nat,x<k/\sB s r x/\t=3600 * h+60 * m+x
 | 0=>by simp [secU]
 | k+1=>by
  unfold secU
  rw [List.mem_append,secU_mem]
  constructor
  . rintro (⟨x,h1,h2⟩ | h)
    . exact ⟨x,by omega,h2⟩
    . split at h
      . rename_i hc; exact ⟨k,by omega,hc,by simpa using h⟩
      . cases h
  . rintro ⟨x,h1,h2,h3⟩
    by_cases e:x=k
    . subst e; exact .inr (by rw [if_pos h2,h3]; exact List.mem_singleton.2 rfl)
    . exact .inl ⟨x,by omega,h2,h3⟩
theorem minU_mem {s:Tm} {r:Rl} {h t:Int}:∀ {k:Nat},t∈minU s r h k↔∃ m:Nat,m<k/\mB s r m/\t∈secU s r h m 60
 | 0=>by simp [minU]
 | k+1=>by
  unfold minU
  rw [List.mem_append,minU_mem]
  constructor
  . rintro (⟨x,h1,h2⟩ | h)
    . exact ⟨x,by omega,h2⟩
    . split at h
      . rename_i hc; exact ⟨k,by omega,hc,h⟩
      . cases h
  . rintro ⟨x,h1,h2,h3⟩
    by_cases e:x=k
    . subst e; exact .inr (by rw [if_pos h2]; exact h3)
    . exact .inl ⟨x,by omega,h2,h3⟩
theorem houU_mem {s:Tm} {r:Rl} {t:Int}:∀ {k:Nat},t∈houU s r k↔∃ h:Nat,h<k/\hB s r h/\t∈minU s r h 60
 | 0=>by simp [houU]
 | k+1=>by
  unfold houU
  rw [List.mem_append,houU_mem]
  constructor
  . rintro (⟨x,h1,h2⟩ | h)
    . exact ⟨x,by omega,h2⟩
    . split at h
      . rename_i hc; exact ⟨k,by omega,hc,h⟩
      . cases h
  . rintro ⟨x,h1,h2,h3⟩
    by_cases e:x=k
    . subst e; exact .inr (by rw [if_pos h2]; exact h3)
    . exact .inl ⟨x,by omega,h2,h3⟩
theorem clkS_mem {s:Tm} {r:Rl} {t:Int}:t∈clkS s r↔∃ h m x:Nat,(h<24/\hB s r h)/\(m<60/\mB s r m)/\(x<60/\sB s r x)/\t=3600 * (h:Int)+60 * m+x:=by
 unfold clkS
 rw [houU_mem]
 constructor
 . rintro ⟨h,h1,h2,h3⟩
   obtain ⟨m,m1,m2,m3⟩:=minU_mem.1 h3
   obtain ⟨x,x1,x2,x3⟩:=secU_mem.1 m3
   exact ⟨h,m,x,⟨h1,h2⟩,⟨m1,m2⟩,⟨x1,x2⟩,x3⟩
 . rintro ⟨h,m,x,⟨h1,h2⟩,⟨m1,m2⟩,⟨x1,x2⟩,x3⟩
   exact ⟨h,h1,h2,minU_mem.2 ⟨m,m1,m2,secU_mem.2 ⟨x,x1,x2,x3⟩⟩⟩
theorem rngI_mem {n:Nat} {x:Int}:x∈rngI n↔0<=x/\x<n:=by
 unfold rngI
 rw [List.mem_map]
 constructor
 . rintro ⟨k,hk,rfl⟩
   have:=List.mem_range.1 hk
   show 0<=((k:Nat):Int)/\((k:Nat):Int)<n
   omega
 . rintro ⟨h0,h1⟩
   exact ⟨x.toNat,List.mem_range.2 (by omega),by show ((x.toNat:Nat):Int)=x; omega⟩
theorem okN_mem {l:List Int} {n h:Int} (hl:RisL l 0 n false) (hh:h∈l):0<=h/\h<=n:=by
 obtain ⟨i,i0,i1,rfl⟩:=ix_of_mem hh
 have:=hl.ok i i0 i1
 unfold OkN at this
 simp only [Bool.false_eq_true,false_and,if_false] at this
 exact this
theorem hoL_mem {s:Tm} {r:Rl} {h:Int} (hF:FitsP s r):h∈hoL s r↔∃ k:Nat,(k<24/\hB s r k)/\h=k:=by
 obtain ⟨_,⟨a,b⟩,_⟩:=rightT_iff.1 hF.rt
 have ho:=(rightR_iff.1 hF.rr).lists.ho
 unfold hoL partsS hB
 by_cases hc:0<(r.Hour.length:Int)
 . rw [if_pos hc]
   have h0:¬ (r.Hour.length:Int)=0:=by omega
   constructor
   . intro hh
     have:=okN_mem ho hh
     exact ⟨h.toNat,⟨by omega,fun e=>e.elim (fun e=>e.2 (by rw [hasN_iff]; rw [show ((h.toNat:Nat):Int)=h by omega]; exact hh)) fun e=>h0 e.1.1⟩,by omega⟩
   . rintro ⟨k,⟨_,h2⟩,rfl⟩
     exact hasN_iff.1 (Classical.not_not.1 fun hn=>h2 (.inl ⟨hc,hn⟩))
 . rw [if_neg hc]
   have h0:(r.Hour.length:Int)=0:=by omega
   by_cases hf:3<r.Freq
   . rw [if_pos (decide_eq_true hf),rngI_mem]
     constructor
     . rintro ⟨h1,h2⟩
       exact ⟨h.toNat,⟨by omega,fun e=>e.elim (fun e=>hc e.1) fun e=>absurd e.1.2 (by omega)⟩,by omega⟩
     . rintro ⟨k,⟨h1,_⟩,rfl⟩
       have:((Int.toNat 24:Nat):Int)=24:=rfl
       omega
   . rw [if_neg (by simpa using hf),List.mem_singleton]
     constructor
     . rintro rfl
       exact ⟨s.Hour.toNat,⟨by omega,fun e=>e.elim (fun e=>hc e.1) fun e=>e.2 (by omega)⟩,by omega⟩
     . rintro ⟨k,⟨_,h2⟩,rfl⟩
       exact Classical.not_not.1 fun hn=>h2 (.inr ⟨⟨h0,by omega⟩,hn⟩)
theorem miL_mem {s:Tm} {r:Rl} {h:Int} (hF:FitsP s r):h∈miL s r↔∃ k:Nat,(k<60/\mB s r k)/\h=k:=by
 obtain ⟨_,_,⟨a,b⟩,_⟩:=rightT_iff.1 hF.rt
 have ho:=(rightR_iff.1 hF.rr).lists.mi
 unfold miL partsS mB
 by_cases hc:0<(r.Minute.length:Int)
 . rw [if_pos hc]
   have h0:¬ (r.Minute.length:Int)=0:=by omega
   constructor
   . intro hh
     have:=okN_mem ho hh
     exact ⟨h.toNat,⟨by omega,fun e=>e.elim (fun e=>e.2 (by rw [hasN_iff]; rw [show ((h.toNat:Nat):Int)=h by omega]; exact hh)) fun e=>h0 e.1.1⟩,by omega⟩
   . rintro ⟨k,⟨_,h2⟩,rfl⟩
     exact hasN_iff.1 (Classical.not_not.1 fun hn=>h2 (.inl ⟨hc,hn⟩))
 . rw [if_neg hc]
   have h0:(r.Minute.length:Int)=0:=by omega
   by_cases hf:4<r.Freq
   . rw [if_pos (decide_eq_true hf),rngI_mem]
     constructor
     . rintro ⟨h1,h2⟩
       have:((Int.toNat 60:Nat):Int)=60:=rfl
       exact ⟨h.toNat,⟨by omega,fun e=>e.elim (fun e=>hc e.1) fun e=>absurd e.1.2 (by omega)⟩,by omega⟩
     . rintro ⟨k,⟨h1,_⟩,rfl⟩
       have:((Int.toNat 60:Nat):Int)=60:=rfl
       omega
   . rw [if_neg (by simpa using hf),List.mem_singleton]
     constructor
     . rintro rfl
       exact ⟨s.Min.toNat,⟨by omega,fun e=>e.elim (fun e=>hc e.1) fun e=>e.2 (by omega)⟩,by omega⟩
     . rintro ⟨k,⟨_,h2⟩,rfl⟩
       exact Classical.not_not.1 fun hn=>h2 (.inr ⟨⟨h0,by omega⟩,hn⟩)
theorem seL_mem {s:Tm} {r:Rl} {h:Int} (hF:FitsP s r):h∈seL s r↔∃ k:Nat,(k<60/\sB s r k)/\h=k:=by
 obtain ⟨_,_,_,⟨a,b⟩,_⟩:=rightT_iff.1 hF.rt
 have ho:=(rightR_iff.1 hF.rr).lists.se
 unfold seL partsS sB
 by_cases hc:0<(r.Second.length:Int)
 . rw [if_pos hc]
   have h0:¬ (r.Second.length:Int)=0:=by omega
   constructor
   . intro hh
     have:=okN_mem ho hh
     exact ⟨h.toNat,⟨by omega,.inl ⟨hc,by rw [hasN_iff]; rw [show ((h.toNat:Nat):Int)=h by omega]; exact hh⟩⟩,by omega⟩
   . rintro ⟨k,⟨_,h2⟩,rfl⟩
     exact h2.elim (fun e=>hasN_iff.1 e.2) fun e=>absurd e.1 h0
 . rw [if_neg hc]
   have h0:(r.Second.length:Int)=0:=by omega
   by_cases hf:5<r.Freq
   . rw [if_pos (decide_eq_true hf),rngI_mem]
     constructor
     . rintro ⟨h1,h2⟩
       have:((Int.toNat 60:Nat):Int)=60:=rfl
       exact ⟨h.toNat,⟨by omega,.inr ⟨h0,.inl hf⟩⟩,by omega⟩
     . rintro ⟨k,⟨h1,_⟩,rfl⟩
       have:((Int.toNat 60:Nat):Int)=60:=rfl
       omega
   . rw [if_neg (by simpa using hf),List.mem_singleton]
     constructor
     . rintro rfl
       exact ⟨s.Sec.toNat,⟨by omega,.inr ⟨h0,.inr (by omega)⟩⟩,by omega⟩
     . rintro ⟨k,⟨_,h2⟩,rfl⟩
       exact h2.elim (fun e=>absurd e.1 hc) fun e=>e.2.elim (fun e=>absurd e hf) id
theorem clk_same {s:Tm} {r:Rl} {fr to t:Int} (hF:FitsP s r):t∈clkP s r fr to↔t∈clkS s r/\fr<=t/\t<to:=by
 rw [clkP_mem hF,clkS_mem]
 constructor
 . rintro ⟨⟨h,hh,m,hm,x,hx,e⟩,b⟩
   obtain ⟨k,hk,rfl⟩:=(hoL_mem hF).1 hh
   obtain ⟨j,hj,rfl⟩:=(miL_mem hF).1 hm
   obtain ⟨i,hi,rfl⟩:=(seL_mem hF).1 hx
   exact ⟨⟨k,j,i,hk,hj,hi,by omega⟩,b⟩
 . rintro ⟨⟨k,j,i,hk,hj,hi,e⟩,b⟩
   exact ⟨⟨k,(hoL_mem hF).2 ⟨k,hk,rfl⟩,j,(miL_mem hF).2 ⟨j,hj,rfl⟩,i,(seL_mem hF).2 ⟨i,hi,rfl⟩,by omega⟩,b⟩
theorem goY_false:∀ T:List Int,goY (fun _ _=>false) [] T=T.take 1
 | []=>rfl
 | t::r=>by unfold goY; simp
theorem clk_one {s:Tm} {r:Rl} {x:Int} (hF:FitsP s r):((clkP s r x (x+1)).take 1=[]↔hasN (clkS s r) x=false):=by
 rw [<- Bool.not_eq_true,hasN_iff]
 constructor
 . intro h hm
   have hm:=(clk_same (fr:=x) (to:=x+1) hF).2 ⟨hm,by omega,by omega⟩
   cases e:clkP s r x (x+1) with
   | nil=>rw [e] at hm; cases hm
   | cons a b=>rw [e] at h; cases h
 . intro h
   cases e:clkP s r x (x+1) with
   | nil=>rfl
   | cons a b =>
    exfalso
    have ha:a∈clkP s r x (x+1):=by rw [e]; exact List.mem_cons_self ..
    obtain ⟨h1,h2,h3⟩:=(clk_same hF).1 ha
    have:a=x:=by omega
    exact h (this ▸ h1)
end Go.Re
end
section
namespace Go.Re
open Go Go.Wk Go.Wl Go.Rx
def runE (res:List Int->Int->Bool):List Int->List Int->Bool->List Int×Bool
 | y,[],e=>(y,e)
 | y,t::T,e=>bif res y t then runE res (y++[t]) T e else (y++[t],false)
structure RunI (res:List Int->Int->Bool) (g:List Int×Bool) (y T:List Int) (e:Bool):Prop where
 a:runE res y T e=g
section
variable {res:List Int->Int->Bool} {g:List Int×Bool} {y T:List Int} {e:Bool} {t:Int}
theorem RunI.fin (h:RunI res g y [] e):g=(y,e):=h.a.symm
theorem RunI.go (h:RunI res g y (t::T) e) (hr:res y t=true):RunI res g (y++[t]) T e:=⟨by have a:=h.a; unfold runE at a; rw [hr] at a; exact a⟩
theorem RunI.stop (h:RunI res g y (t::T) e) (hr:¬ res y t=true):g=(y++[t],false):=by
 have a:=h.a
 unfold runE at a
 rw [Bool.not_eq_true] at hr
 rw [hr] at a; exact a.symm
end
def canT (r:Rl) (first to til:Int):Int->List Int->List Int×Int
 | c,[]=>([],c)
 | c,t::T=>if t<=first then canT r first to til c T else if (to<=t ∨ til<t) ∨ (0<r.Count/\r.Count<=c) then ([],c) else (t::(canT r first to til (c+1) T).1,(canT r first to til (c+1) T).2)
def EndK (r:Rl) (to til b c:Int):Prop:=((to<=b ∨ til<b) ∨ (0<r.Count/\r.Count<=c)) ∨ 315537897600<=b
instance (r:Rl) (to til b c:Int):Decidable (EndK r to til b c):=inferInstanceAs (Decidable (_ ∨ _))
def insK (s:Tm) (r:Rl) (day first to til i0:Int):Nat->Int->Int->List Int×Bool
 | 0,k,c=>if EndK r to til (begP r (i0+k * r.Interval)) c then ([],false) else ([],true)
 | n+1,k,c=>if EndK r to til (begP r (i0+k * r.Interval)) c then ([],false) else
  ((canT r first to til c (candP s r day (i0+k * r.Interval))).1++(insK s r day first to til i0 n (k+1) (canT r first to til c (candP s r day (i0+k * r.Interval))).2).1,
   (insK s r day first to til i0 n (k+1) (canT r first to til c (candP s r day (i0+k * r.Interval))).2).2)
def tilS (r:Rl):Int:=if 0<(r.Until.length:Int) then secsT (ix r.Until 0) else 315537897600
def k0S (s:Tm) (r:Rl) (fr:Int):Int:=if r.Count=0/\secsT s<fr then max 0 ((idxP r (min fr 315537897599)-idxP r (secsT s)).tdiv r.Interval-1) else 0
def insS (s:Tm) (r:Rl) (day fr to:Int):List Int×Bool :=
 ((if secsT s<to then [secsT s] else [])++(insK s r day (secsT s) to (tilS r) (idxP r (secsT s)) (40000-k0S s r fr).toNat (k0S s r fr) 1).1,
  (insK s r day (secsT s) to (tilS r) (idxP r (secsT s)) (40000-k0S s r fr).toNat (k0S s r fr) 1).2)
section
variable {res:List Int->Int->Bool} {g:List Int×Bool} {y L:List Int} {s:Tm} {r:Rl} {day first to til i0 k c t:Int}
structure OutI (res:List Int->Int->Bool) (g:List Int×Bool) (s:Tm) (r:Rl) (day first to til i0 k c:Int) (y:List Int):Prop where
 a:RunI res g y (insK s r day first to til i0 (40000-k).toNat k c).1 (insK s r day first to til i0 (40000-k).toNat k c).2
structure InI' (res:List Int->Int->Bool) (g:List Int×Bool) (s:Tm) (r:Rl) (day first to til i0 k c:Int) (L y:List Int):Prop where
 a:RunI res g y ((canT r first to til c L).1++(insK s r day first to til i0 (40000-(k+1)).toNat (k+1) (canT r first to til c L).2).1) (insK s r day first to til i0 (40000-(k+1)).toNat (k+1) (canT r first to til c L).2).2
theorem OutI.fin (h:OutI res g s r day first to til i0 k c y) (he:EndK r to til (begP r (i0+k * r.Interval)) c):g=(y,false):=by
 have a:=h.a
 generalize (40000-k).toNat=n at a
 cases n <;> (unfold insK at a; rw [if_pos he] at a; exact a.fin)
theorem OutI.many (h:OutI res g s r day first to til i0 k c y) (he:¬ EndK r to til (begP r (i0+k * r.Interval)) c) (hk:40000<=k):g=(y,true):=by
 have a:=h.a
 rw [show (40000-k).toNat=0 by omega] at a
 unfold insK at a
 rw [if_neg he] at a
 exact a.fin
theorem OutI.enter (h:OutI res g s r day first to til i0 k c y) (he:¬ EndK r to til (begP r (i0+k * r.Interval)) c) (hk:¬ 40000<=k):InI' res g s r day first to til i0 k c (candP s r day (i0+k * r.Interval)) y:=by
 have a:=h.a
 rw [show (40000-k).toNat=(40000-(k+1)).toNat+1 by omega] at a
 unfold insK at a
 rw [if_neg he] at a
 exact ⟨a⟩
theorem InI'.nil (h:InI' res g s r day first to til i0 k c [] y):OutI res g s r day first to til i0 (k+1) c y:=⟨h.a⟩
theorem InI'.skip (h:InI' res g s r day first to til i0 k c (t::L) y) (ht:t<=first):InI' res g s r day first to til i0 k c L y:=by
 have a:=h.a
 unfold canT at a
 rw [if_pos ht] at a
 exact ⟨a⟩
theorem InI'.leave (h:InI' res g s r day first to til i0 k c (t::L) y) (ht:¬ t<=first) (hb:(to<=t ∨ til<t) ∨ (0<r.Count/\r.Count<=c)):OutI res g s r day first to til i0 (k+1) c y:=by
 have a:=h.a
 unfold canT at a
 rw [if_neg ht,if_pos hb] at a
 exact ⟨a⟩
theorem InI'.one (h:InI' res g s r day first to til i0 k c (t::L) y) (ht:¬ t<=first) (hb:¬ ((to<=t ∨ til<t) ∨ (0<r.Count/\r.Count<=c))) :
  (res y t=true->InI' res g s r day first to til i0 k (c+1) L (y++[t]))/\(¬ res y t=true->g=(y++[t],false)):=by
 have a:=h.a
 unfold canT at a
 rw [if_neg ht,if_neg hb] at a
 exact ⟨fun hr=>⟨RunI.go a hr⟩,fun hr=>RunI.stop a hr⟩
end
theorem pickS_len {r:Rl} {l:List Int}:(pickS r l).length<=l.length:=by
 unfold pickS
 split
 . exact Nat.le_refl _
 . exact pickG_len l 0
theorem dayU_len {s:Tm} {r:Rl} {day fr to:Int} (hF:FitsP s r):∀ (k:Nat) (n:Int),(dayU s r day fr to k n).length<=k * 216000
 | 0,_=>Nat.zero_le _
 | k+1,n=>by
  have h1:=dayU_len (day:=day) (fr:=fr) (to:=to) hF k (n+1)
  have h2:=dayC_len (day:=day) (fr:=fr) (to:=to) (n:=n) hF
  unfold dayU
  rw [List.length_append,Nat.add_mul,Nat.one_mul]
  omega
theorem candP_len {s:Tm} {r:Rl} {day i:Int} (hF:FitsP s r) (h0:0<=i):((candP s r day i).length:Int)<=1000000000000:=by
 have h1:=pickS_len (r:=r) (l:=winO s r day (begP r i) (begP r (i+1)))
 have h2:=dayU_len (day:=day) (fr:=begP r i) (to:=begP r (i+1)) hF ((begP r (i+1)+86399) / 86400-begP r i / 86400).toNat (begP r i / 86400+1)
 obtain ⟨a0,a1⟩:=begP_rg (r:=r) h0
 obtain ⟨b0,b1⟩:=begP_rg (r:=r) (i:=i+1) (by omega)
 unfold candP
 unfold winO at h1 ⊢
 have h3:((begP r (i+1)+86399) / 86400-begP r i / 86400).toNat<=3652060:=by omega
 have h4:=Nat.mul_le_mul_right 216000 h3
 omega
def etD (d:Dy):Dy:=Dy.mk d.Year d.Month d.Date
def etT (s:Tm):Tm:=Tm.mk (Dy.mk s.Day.Year s.Day.Month s.Day.Date) s.Hour s.Min s.Sec (decide (s.Bare=true)) (decide (s.UTC=true))
def etR (r:Rl):Rl:=Rl.mk r.Freq r.Interval r.Count r.Until r.Month r.WeekNo r.YearDay r.MonthDay r.Days r.Hour r.Minute r.Second r.SetPos r.Wkst
theorem etD_eq (d:Dy):etD d=d:=rfl
theorem etT_eq (s:Tm):etT s=s:=by unfold etT; simp only [Bool.decide_eq_true]
theorem etR_eq (r:Rl):etR r=r:=rfl
theorem idxP_rg {r:Rl} {t:Int} (t0:0<=t) (t1:t<315537897600) (w0:0<=r.Wkst) (w1:r.Wkst<=6):0<=idxP r t/\idxP r t<=315537897600:=by
 obtain ⟨a,b,c⟩:=idxR_rg (r:=r) t0 t1 w0 w1
 unfold idxP
 split
 . rename_i h; have:=c h; omega
 . omega
def manyE:Err:=.w 87 [] (.no 5)
def errB (b:Bool):Err:=bif b then manyE else .nil
def farR (r:Rl):List Int->Int->Bool:=fun y _=>decide ((y.length:Int)+1<r.Count)
def farE (r:Rl) (g:List Int×Bool):Bool:=if r.Count<=(g.1.length:Int) ∨ g.2=true then g.2 else true
def farB (s:Tm) (r:Rl) (day to:Int):Bool :=
 if to<=begP r (idxP r (secsT s)+40000 * r.Interval) ∨ 315537897600<=begP r (idxP r (secsT s)+40000 * r.Interval) then false
 else if 0<(r.Until.length:Int)/\secsT (ix r.Until 0)<begP r (idxP r (secsT s)+40000 * r.Interval) then false
 else if 0<r.Count then farE r (runE (farR r) [] (insS s r day 0 (begP r (idxP r (secsT s)+40000 * r.Interval))).1 (insS s r day 0 (begP r (idxP r (secsT s)+40000 * r.Interval))).2)
 else true
theorem farE_of {r:Rl} {g:List Int×Bool} {fb e:Bool} {y:List Int} {n:Int} (h:farE r g=fb) (hg:g=(y,e)) (hn:(y.length:Int)=n):(r.Count<=n->fb=e)/\(e=true->fb=true)/\(¬ r.Count<=n->e=false->fb=true):=by
 subst hg
 unfold farE at h
 rw [hn] at h
 refine ⟨fun h1=>by rw [if_pos (.inl h1)] at h; exact h.symm,fun h1=>by rw [if_pos (.inr h1)] at h; exact h.symm.trans h1,fun h1 h2=>?_⟩
 rw [if_neg (fun hh=>hh.elim h1 fun hh=>by rw [h2] at hh; cases hh)] at h
 exact h.symm
end Go.Re
end
section
namespace Go.Proofs.YtdjfeninmbpflaaGreat
open Go Go.Wk Go.Wl Go.Rx Go.Re Go.Re
attribute [local irreducible] vcFun vdFun
def ancm:Nat->Ann:=fun | 22=>⟨71,fun | 9=>some ⟨[6],[.tree [] [.own (some 6) 4 [.v .bool]]]⟩ | _=>none,fun _=>none⟩ | 30=>⟨12,fun _=>none,fun _=>none⟩ | _=>⟨0,fun _=>none,fun _=>none⟩
def Vcm (s:Tm) (r:Rl) (t:Tm) (Q:Bool->Prop):Prop :=
fewR (etR r)=true/\(((¬fitsS (etT s) (etR r)=true ∨ ¬rightT (etT t)=true) ∨ ¬(t.Bare=true↔s.Bare=true)) ∨ ¬(t.UTC=true↔s.UTC=true)->Q false)/\(¬(((¬fitsS (etT s) (etR r)=true ∨ ¬rightT (etT t)=true) ∨ ¬(t.Bare=true↔s.Bare=true)) ∨ ¬(t.UTC=true↔s.UTC=true))->((0:Int)<=secsT (etT t)/\secsT (etT t)<=400000000000/\(0:Int)<=r.Wkst/\r.Wkst<=6)/\((0:Int)<=secsT (etT s)/\secsT (etT s)<=400000000000/\(0:Int)<=r.Wkst/\r.Wkst<=6)/\in64 (idxP (etR r) (secsT (etT t))-idxP (etR r) (secsT (etT s)))/\(¬idxP (etR r) (secsT (etT t))-idxP (etR r) (secsT (etT s))<0->r.Interval≠0)/\(¬(idxP (etR r) (secsT (etT t))-idxP (etR r) (secsT (etT s))<0 ∨ (idxP (etR r) (secsT (etT t))-idxP (etR r) (secsT (etT s))).tmod r.Interval≠0)->(86400:Int)≠0)/\(¬(idxP (etR r) (secsT (etT t))-idxP (etR r) (secsT (etT s))<0 ∨ (idxP (etR r) (secsT (etT t))-idxP (etR r) (secsT (etT s))).tmod r.Interval≠0)->in64 ((secsT (etT t)).tdiv (86400:Int)))/\(¬(idxP (etR r) (secsT (etT t))-idxP (etR r) (secsT (etT s))<0 ∨ (idxP (etR r) (secsT (etT t))-idxP (etR r) (secsT (etT s))).tmod r.Interval≠0)->in64 ((secsT (etT t)).tdiv (86400:Int)+1))/\(¬(idxP (etR r) (secsT (etT t))-idxP (etR r) (secsT (etT s))<0 ∨ (idxP (etR r) (secsT (etT t))-idxP (etR r) (secsT (etT s))).tmod r.Interval≠0)->fewR (etR r)=true)/\(¬(idxP (etR r) (secsT (etT t))-idxP (etR r) (secsT (etT s))<0 ∨ (idxP (etR r) (secsT (etT t))-idxP (etR r) (secsT (etT s))).tmod r.Interval≠0)->(1:Int)<=(secsT (etT t)).tdiv (86400:Int)+1)/\(¬(idxP (etR r) (secsT (etT t))-idxP (etR r) (secsT (etT s))<0 ∨ (idxP (etR r) (secsT (etT t))-idxP (etR r) (secsT (etT s))).tmod r.Interval≠0)->(secsT (etT t)).tdiv (86400:Int)+1<=3652059)/\(¬(idxP (etR r) (secsT (etT t))-idxP (etR r) (secsT (etT s))<0 ∨ (idxP (etR r) (secsT (etT t))-idxP (etR r) (secsT (etT s))).tmod r.Interval≠0)->rightR (etR r)=true)/\((idxP (etR r) (secsT (etT t))-idxP (etR r) (secsT (etT s))<0 ∨ (idxP (etR r) (secsT (etT t))-idxP (etR r) (secsT (etT s))).tmod r.Interval≠0) ∨ ¬dayS (etT s) (etR r) (numS (etD s.Day)) ((secsT (etT t)).tdiv (86400:Int)+1)=true->Q false)/\(¬((idxP (etR r) (secsT (etT t))-idxP (etR r) (secsT (etT s))<0 ∨ (idxP (etR r) (secsT (etT t))-idxP (etR r) (secsT (etT s))).tmod r.Interval≠0) ∨ ¬dayS (etT s) (etR r) (numS (etD s.Day)) ((secsT (etT t)).tdiv (86400:Int)+1)=true)->(86400:Int)≠0/\(86400:Int)≠0/\in64 ((secsT (etT t)).tmod (86400:Int)+1)/\∃ (I:List Int->Bool->Prop),∃ (pre:List Int->Int->Prop),∃ (res:List Int->Int->Bool),I [] false/\(∀ (xs:List Int) (t:Int),pre xs t->stopB res xs=false)/\(∀ (xs:List Int) (t:Int),in64 t->pre xs t->∀ (x:Bool),I xs x->res xs t=false/\I (xs++[t]) true)/\(fitsS (etT s) (etR r)=true/\okY pre res [] (clkP (etT s) (etR r) ((secsT (etT t)).tmod (86400:Int)) ((secsT (etT t)).tmod (86400:Int)+1)))/\∀ (x:Bool),I (goY res [] (clkP (etT s) (etR r) ((secsT (etT t)).tmod (86400:Int)) ((secsT (etT t)).tmod (86400:Int)+1))) x->(stopB res (goY res [] (clkP (etT s) (etR r) ((secsT (etT t)).tmod (86400:Int)) ((secsT (etT t)).tmod (86400:Int)+1)))=true->Q (decide (x=true)))/\(stopB res (goY res [] (clkP (etT s) (etR r) ((secsT (etT t)).tmod (86400:Int)) ((secsT (etT t)).tmod (86400:Int)+1)))=false->Q false)))
theorem Vcm_eq {s:Tm} {r:Rl} {t:Tm} {Q:Bool->Prop}:@Eq Prop (Vcm s r t Q) (vdFun (E:=NI47) (inlHN NI47 H0 ancm 3) (ancm 22) tellR Tryz.f22 [.agg [.int .i64 s.Day.Year,.int .i64 s.Day.Month,.int .i64 s.Day.Date,.int .i64 s.Hour,.int .i64 s.Min,.int .i64 s.Sec,blB s.Bare,blB s.UTC],.agg [.int .i64 r.Freq,.int .i64 r.Interval,.int .i64 r.Count,.sl (N:=U) 25 r.Until,.sl (N:=U) 3 r.Month,.sl (N:=U) 3 r.WeekNo,.sl (N:=U) 3 r.YearDay,.sl (N:=U) 3 r.MonthDay,.sl (N:=U) 60 r.Days,.sl (N:=U) 3 r.Hour,.sl (N:=U) 3 r.Minute,.sl (N:=U) 3 r.Second,.sl (N:=U) 3 r.SetPos,.int .i64 r.Wkst],.agg [.int .i64 t.Day.Year,.int .i64 t.Day.Month,.int .i64 t.Day.Date,.int .i64 t.Hour,.int .i64 t.Min,.int .i64 t.Sec,blB t.Bare,blB t.UTC]] [] [] 0 (resP NI47 [.bool] Q)):=by kernel_rfl
theorem Vcm_ok {s:Tm} {r:Rl} {t:Tm} {Q:Bool->Prop} (h:Vcm s r t Q):vdFun (E:=NI47) (inlHN NI47 H0 ancm 3) (ancm 22) tellR Tryz.f22 [.agg [.int .i64 s.Day.Year,.int .i64 s.Day.Month,.int .i64 s.Day.Date,.int .i64 s.Hour,.int .i64 s.Min,.int .i64 s.Sec,blB s.Bare,blB s.UTC],.agg [.int .i64 r.Freq,.int .i64 r.Interval,.int .i64 r.Count,.sl (N:=U) 25 r.Until,.sl (N:=U) 3 r.Month,.sl (N:=U) 3 r.WeekNo,.sl (N:=U) 3 r.YearDay,.sl (N:=U) 3 r.MonthDay,.sl (N:=U) 60 r.Days,.sl (N:=U) 3 r.Hour,.sl (N:=U) 3 r.Minute,.sl (N:=U) 3 r.Second,.sl (N:=U) 3 r.SetPos,.int .i64 r.Wkst],.agg [.int .i64 t.Day.Year,.int .i64 t.Day.Month,.int .i64 t.Day.Date,.int .i64 t.Hour,.int .i64 t.Min,.int .i64 t.Sec,blB t.Bare,blB t.UTC]] [] [] 0 (resP NI47 [.bool] Q):=by rw [<- Vcm_eq]; exact h
set_option maxHeartbeats 2000000 in
theorem pcm (s:Tm) (r:Rl) (t:Tm) (hfw:fewR r=true):Vcm s r t (fun y=>y=matR s r t):=by
 unfold Vcm matR
 simp only [etT_eq,etR_eq,etD_eq]
 refine ⟨hfw,fun h=>by rw [if_pos (show MatN s r t from h)],fun h=>?_⟩
 rw [if_neg (show ¬ MatN s r t from h)]
 have hf:fitsS s r=true:=Classical.not_not.1 fun e=>h (.inl (.inl (.inl e)))
 have ht:rightT t=true:=Classical.not_not.1 fun e=>h (.inl (.inl (.inr e)))
 have hF:=fits_iff.1 hf
 obtain ⟨s0,s1⟩:=secs_rg hF.rt
 obtain ⟨x0,x1⟩:=secs_rg ht
 obtain ⟨_,_,i0,i1,_,_,w0,w1⟩:=(rightR_iff.1 hF.rr).head
 obtain ⟨a0,a1,_⟩:=idxR_rg (r:=r) s0 s1 w0 w1
 obtain ⟨b0,b1,_⟩:=idxR_rg (r:=r) x0 x1 w0 w1
 have ek:idxP r (secsT t)-idxP r (secsT s)=idxR r (secsT t)-idxR r (secsT s):=by unfold idxP; omega
 rw [ek]
 unfold matK
 generalize secsT t=x at *
 have e1:x.tdiv 86400=x / 86400:=Int.tdiv_eq_ediv_of_nonneg x0
 have e2:x.tmod 86400=x % 86400:=Int.tmod_eq_emod_of_nonneg x0
 rw [e1,e2]
 have kr:-400000000000<=idxR r x-idxR r (secsT s)/\idxR r x-idxR r (secsT s)<=400000000000:=by omega
 generalize idxR r x-idxR r (secsT s)=k at *
 have hk:¬ (k<0 ∨ k.tmod r.Interval≠0)↔(0<=k/\k % r.Interval=0):=by
  by_cases k0:k<0
  . exact ⟨fun hh=>absurd (.inl k0) hh,fun hh=>absurd hh.1 (by omega)⟩
  . rw [Int.tmod_eq_emod_of_nonneg (by omega)]
    exact ⟨fun hh=>⟨by omega,Classical.not_not.1 fun e=>hh (.inr e)⟩,fun hh e=>e.elim (fun e=>k0 e) fun e=>e hh.2⟩
 refine ⟨⟨x0,by omega,w0,w1⟩,⟨s0,by omega,w0,w1⟩,⟨by omega,by omega⟩,fun _=>by omega,fun _=>by decide,fun _=>⟨by omega,by omega⟩,fun _=>⟨by omega,by omega⟩,fun _=>hfw,fun _=>by omega,fun _=>by omega,fun _=>hF.rr,fun hb=>?_,fun hg=>?_⟩
 . symm
   rcases hb with hb | hb
   . rw [decide_eq_false (fun e=>(hk.2 e) hb),Bool.false_and,Bool.false_and]
   . rw [Bool.not_eq_true] at hb
     rw [hb,Bool.and_false,Bool.false_and]
 . have g1:0<=k/\k % r.Interval=0:=hk.1 fun e=>hg (.inl e)
   have g2:dayS s r (numS s.Day) (x / 86400+1)=true:=Classical.not_not.1 fun e=>hg (.inr e)
   have eg:∀ z:Bool,(z=((decide (0<=k/\k % r.Interval=0) && dayS s r (numS s.Day) (x / 86400+1)) && hasN (clkS s r) (x % 86400)))=(z=hasN (clkS s r) (x % 86400)):=fun z=>by rw [decide_eq_true g1,g2,Bool.and_self,Bool.true_and]
   simp only [eg]
   clear eg
   generalize hT:clkP s r (x % 86400) (x % 86400+1)=T
   refine ⟨by decide,by decide,⟨by omega,by omega⟩,(fun xs b=>b=!xs.isEmpty),(fun xs _=>xs=[]),(fun _ _=>false),(show false=!true from Bool.not_true.symm),?_,?_,?_,fun b hb=>?_⟩
   rotate_left 2
   . refine And.intro hf ?_
     cases T with
     | nil=>trivial
     | cons a T=>exact ⟨rfl,fun e=>by cases e⟩
   . refine And.intro (fun h2=>?_) (fun h2=>?_)
     . rw [goY_false] at hb h2
       have hne:¬ T.take 1=[]:=fun e=>by rw [e] at h2; cases h2
       have h3:hasN (clkS s r) (x % 86400)=true:=by rw [<- Bool.not_eq_false]; exact fun e=>hne (by rw [<- hT]; exact (clk_one hF).2 e)
       rw [h3,hb]
       generalize T.take 1=q at hne
       cases q with
       | nil=>exact absurd rfl hne
       | cons=>rfl
     . rw [goY_false] at h2
       have he:T.take 1=[]:=by
        cases T with
        | nil=>rfl
        | cons a T=>simp [stopB] at h2
       rw [<- hT] at he
       exact ((clk_one hF).1 he).symm
   . rintro xs t rfl; rfl
   . rintro xs t _ _ b _; exact ⟨rfl,by simp⟩
noncomputable def ccms (s:Tm) (r:Rl) (t:Tm):Q1 U:=⟨[fewR r=true],[],blB (matR s r t)⟩
noncomputable def ccm (a:List (SV U)):Option (Q1 U):=match a with | [.agg l_s,.agg l_r,.agg l_t]=>(y25.bk (.agg l_s)).bind fun s=>(y30.bk (.agg l_r)).bind fun r=>(y25.bk (.agg l_t)).bind fun t=>some (ccms s r t) | _=>none
theorem ccm_ok (args:List (SV U)) (q:Q1 U) (h:ccm args=some q) (ho:allP q.ob):LendOK NI47 22 args ⟨q.ob,q.hy,q.v,[]⟩:=by
 unfold ccm at h
 split at h
 . rename_i l_s l_r l_t
   obtain ⟨s,hb_s,h⟩:=Option.bind_eq_some_iff.1 h
   obtain ⟨r,hb_r,h⟩:=Option.bind_eq_some_iff.1 h
   obtain ⟨t,hb_t,h⟩:=Option.bind_eq_some_iff.1 h
   cases h
   refine LendOK.conv (E:=NI47) (args':=[.agg [.int .i64 s.Day.Year,.int .i64 s.Day.Month,.int .i64 s.Day.Date,.int .i64 s.Hour,.int .i64 s.Min,.int .i64 s.Sec,blB s.Bare,blB s.UTC],.agg [.int .i64 r.Freq,.int .i64 r.Interval,.int .i64 r.Count,.sl 25 r.Until,.sl 3 r.Month,.sl 3 r.WeekNo,.sl 3 r.YearDay,.sl 3 r.MonthDay,.sl 60 r.Days,.sl 3 r.Hour,.sl 3 r.Minute,.sl 3 r.Second,.sl 3 r.SetPos,.int .i64 r.Wkst],.agg [.int .i64 t.Day.Year,.int .i64 t.Day.Month,.int .i64 t.Day.Date,.int .i64 t.Hour,.int .i64 t.Min,.int .i64 t.Sec,blB t.Bare,blB t.UTC]]) (lend1D NI47_ok ((inlHN_ok NI47_ok H0_ok ancm 3)) tellR Tryz.func22 (k:=.bool) trivial (Vcm_ok (pcm s r t ho.1)) 0) fun D w vs hr=>tup_conv [.agg l_s,.agg l_r,.agg l_t] [.agg [.int .i64 s.Day.Year,.int .i64 s.Day.Month,.int .i64 s.Day.Date,.int .i64 s.Hour,.int .i64 s.Min,.int .i64 s.Sec,blB s.Bare,blB s.UTC],.agg [.int .i64 r.Freq,.int .i64 r.Interval,.int .i64 r.Count,.sl 25 r.Until,.sl 3 r.Month,.sl 3 r.WeekNo,.sl 3 r.YearDay,.sl 3 r.MonthDay,.sl 60 r.Days,.sl 3 r.Hour,.sl 3 r.Minute,.sl 3 r.Second,.sl 3 r.SetPos,.int .i64 r.Wkst],.agg [.int .i64 t.Day.Year,.int .i64 t.Day.Month,.int .i64 t.Day.Date,.int .i64 t.Hour,.int .i64 t.Min,.int .i64 t.Sec,blB t.Bare,blB t.UTC]] _ ⟨fun _ h=>agg_conv25 hb_s h,fun _ h=>agg_conv30 hb_r h,fun _ h=>agg_conv25 hb_t h,trivial⟩ hr
 . cases h
theorem ccm_raw (args:List (SV U)) (q:Q1 U) (h:ccm args=some q) (ho:allP q.ob) (D:Nat->Prop) (w:World) (vs:List Value) (h1:∀ b,D b->b<w.heap.size) (h2:Gl.is D w) (h3:Rep U eT (fun _=>none) D w (.tuple vs.toArray) (.tup args)):CallR Tryz.prog 22 vs w (fun v w'=>Ext [] w w'/\Rep U eT (fun _=>none) (fun _=>False) w' v q.v/\allP q.hy):=ccm_ok args q h ho D w vs h1 h2 h3
noncomputable def Ncm:Env:=Ncc.addL 22 ccm
theorem Ncm_ok:EnvOK Ncm:=Ncc_ok.addL Tryz.call22 fun args q h ho D w vs h1 h2 h3=>ccm_raw args q h ho D w vs h1 h2 h3
end Go.Proofs.YtdjfeninmbpflaaGreat
end
section
namespace Go.Proofs.YtdjfeninmbpflaaGreat
open Go Go.Wk Go.Wl Go.Rx Go.Re 
noncomputable def NI34:Env:=Ncm.addI 34 Tryz.f34
theorem NI34_ok:EnvOK NI34:=Ncm_ok.addI Tryz.call34 Tryz.func34
end Go.Proofs.YtdjfeninmbpflaaGreat
end
