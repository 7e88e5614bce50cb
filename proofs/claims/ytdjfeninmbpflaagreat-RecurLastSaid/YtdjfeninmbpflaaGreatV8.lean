/- 26 texts, one behind the other. -/
import Derived.Test.YtdjfeninmbpflaaGreatV7
import Derived.Test.YtdjfeninmbpflaaGreatV4
import Derived.Test.YtdjfeninmbpflaaGreatRows
import Derived.Test.YtdjfeninmbpflaaGreatV1
import Derived.ChangeSame
import Derived.ChangeVars
import Derived.JoinedOf
import Derived.RowKit
import Derived.RowKit2
import Derived.Carry
import Derived.ProofKit
set_option linter.unusedVariables false
set_option linter.unusedSimpArgs false
set_option maxRecDepth 100000
section
namespace Go.Proofs.YtdjfeninmbpflaaGreat
open Go Go.Wk Go.Wl Go.Rx Go.Re 
attribute [local irreducible] m7
def d9k:Nat->Ann:=fun | 11=>⟨31,nn,nn⟩ | _=>⟨0,nn,nn⟩
def Vln (s:Tm) (r:Rl) (t:Tm) (Q:Bool->Prop):Prop :=
(¬n7 (Tm.mk (Dy.mk s.Day.Year s.Day.Month s.Day.Date) s.Hour s.Min s.Sec (decide (s.Bare=true)) (decide (s.UTC=true)))=true ∨ ¬n7 (Tm.mk (Dy.mk t.Day.Year t.Day.Month t.Day.Date) t.Hour t.Min t.Sec (decide (t.Bare=true)) (decide (t.UTC=true)))=true->Q true)/\(¬(¬n7 (Tm.mk (Dy.mk s.Day.Year s.Day.Month s.Day.Date) s.Hour s.Min s.Sec (decide (s.Bare=true)) (decide (s.UTC=true)))=true ∨ ¬n7 (Tm.mk (Dy.mk t.Day.Year t.Day.Month t.Day.Date) t.Hour t.Min t.Sec (decide (t.Bare=true)) (decide (t.UTC=true)))=true)->((0:Int)<=bif true then max (0:Int) (bif false then max r.Freq (6:Int) else min r.Freq (6:Int)) else min (0:Int) (bif false then max r.Freq (6:Int) else min r.Freq (6:Int)))/\(bif true then max (0:Int) (bif false then max r.Freq (6:Int) else min r.Freq (6:Int)) else min (0:Int) (bif false then max r.Freq (6:Int) else min r.Freq (6:Int)))<(↑[(3000:Int),(3000:Int),(1500:Int),(700:Int),(60:Int),(4:Int),(1:Int)].length:Int)/\(b9 (ix [(3000:Int),(3000:Int),(1500:Int),(700:Int),(60:Int),(4:Int),(1:Int)] (bif true then max (0:Int) (bif false then max r.Freq (6:Int) else min r.Freq (6:Int)) else min (0:Int) (bif false then max r.Freq (6:Int) else min r.Freq (6:Int))))->b9 (b8 (Tm.mk (Dy.mk t.Day.Year t.Day.Month t.Day.Date) t.Hour t.Min t.Sec (decide (t.Bare=true)) (decide (t.UTC=true)))-b8 (Tm.mk (Dy.mk s.Day.Year s.Day.Month s.Day.Date) s.Hour s.Min s.Sec (decide (s.Bare=true)) (decide (s.UTC=true))))/\b9 ((86400:Int) * ix [(3000:Int),(3000:Int),(1500:Int),(700:Int),(60:Int),(4:Int),(1:Int)] (bif true then max (0:Int) (bif false then max r.Freq (6:Int) else min r.Freq (6:Int)) else min (0:Int) (bif false then max r.Freq (6:Int) else min r.Freq (6:Int))))/\Q (decide (b8 (Tm.mk (Dy.mk t.Day.Year t.Day.Month t.Day.Date) t.Hour t.Min t.Sec (decide (t.Bare=true)) (decide (t.UTC=true)))-b8 (Tm.mk (Dy.mk s.Day.Year s.Day.Month s.Day.Date) s.Hour s.Min s.Sec (decide (s.Bare=true)) (decide (s.UTC=true)))<=(86400:Int) * ix [(3000:Int),(3000:Int),(1500:Int),(700:Int),(60:Int),(4:Int),(1:Int)] (bif true then max (0:Int) (bif false then max r.Freq (6:Int) else min r.Freq (6:Int)) else min (0:Int) (bif false then max r.Freq (6:Int) else min r.Freq (6:Int)))))))
theorem pln (s:Tm) (r:Rl) (t:Tm)  : Vln s r t (fun y0=>y0=b2l s r t):=by
 unfold Vln b2l
 simp only [Bool.decide_eq_true]
 rw [show (Tm.mk (Dy.mk s.Day.Year s.Day.Month s.Day.Date) s.Hour s.Min s.Sec s.Bare s.UTC)=s from rfl,show (Tm.mk (Dy.mk t.Day.Year t.Day.Month t.Day.Date) t.Hour t.Min t.Sec t.Bare t.UTC)=t from rfl]
 have b0:∀ a b:Int,(bif false then max a b else min a b)=min a b:=fun _ _=>rfl
 have b1:∀ a b:Int,(bif true then max a b else min a b)=max a b:=fun _ _=>rfl
 simp only [b0,b1]
 rw [show ([3000,3000,1500,700,60,4,1]:List Int)=c6h from rfl]
 refine ⟨fun h=>by rw [if_pos h],fun h=>?_⟩
 have hs:n7 s=true:=Classical.not_not.1 fun hn=>h (.inl hn)
 have ht:n7 t=true:=Classical.not_not.1 fun hn=>h (.inr hn)
 have a:=v6 hs
 have b:=v6 ht
 have c:=d3h (i:=max 0 (min r.Freq 6)) (by omega) (by omega)
 have el:(c6h.length:Int)=7:=rfl
 refine ⟨by omega,by rw [el]; omega,fun _=>⟨⟨by omega,by omega⟩,⟨by omega,by omega⟩,by rw [if_neg h]⟩⟩
noncomputable def e2r (s:Tm) (r:Rl) (t:Tm):Q1 U:=⟨[],[],blB (b2l s r t)⟩
noncomputable def cln (a:List (SV U)):Option (Q1 U):=match a with | [.agg l_s,.agg l_r,.agg l_t]=>(y25.bk (.agg l_s)).bind fun s=>(y30.bk (.agg l_r)).bind fun r=>(y25.bk (.agg l_t)).bind fun t=>some (e2r s r t) | _=>none
noncomputable def Nln:Env:=Nal.addL 11 cln
theorem b5r:j7 Nln:=b5d.addL Tryz.call11 fun (args:List (SV U)) (q:Q1 U) (h:cln args=some q) ho=>by
 unfold cln at h
 split at h
 . rename_i l_s l_r l_t
   obtain ⟨s,hb_s,h⟩:=Option.bind_eq_some_iff.1 h
   obtain ⟨r,hb_r,h⟩:=Option.bind_eq_some_iff.1 h
   obtain ⟨t,hb_t,h⟩:=Option.bind_eq_some_iff.1 h
   cases h
   refine A3.conv (E:=Nal) (args':=[.agg [.int .i64 s.Day.Year,.int .i64 s.Day.Month,.int .i64 s.Day.Date,.int .i64 s.Hour,.int .i64 s.Min,.int .i64 s.Sec,blB s.Bare,blB s.UTC],.agg [.int .i64 r.Freq,.int .i64 r.Interval,.int .i64 r.Count,.sl 25 r.Until,.sl 3 r.Month,.sl 3 r.WeekNo,.sl 3 r.YearDay,.sl 3 r.MonthDay,.sl 60 r.Days,.sl 3 r.Hour,.sl 3 r.Minute,.sl 3 r.Second,.sl 3 r.SetPos,.int .i64 r.Wkst],.agg [.int .i64 t.Day.Year,.int .i64 t.Day.Month,.int .i64 t.Day.Date,.int .i64 t.Hour,.int .i64 t.Min,.int .i64 t.Sec,blB t.Bare,blB t.UTC]]) (q8 (an:=d9k 11) b5d (j6 b5d o9 d9k 2) Tryz.func11 (k:=.bool) trivial (kc (pln s r t ) (by kernel_rfl)) 0) fun D w vs hr=>q9 [.agg l_s,.agg l_r,.agg l_t] [.agg [.int .i64 s.Day.Year,.int .i64 s.Day.Month,.int .i64 s.Day.Date,.int .i64 s.Hour,.int .i64 s.Min,.int .i64 s.Sec,blB s.Bare,blB s.UTC],.agg [.int .i64 r.Freq,.int .i64 r.Interval,.int .i64 r.Count,.sl (N:=U) 25 r.Until,.sl (N:=U) 3 r.Month,.sl (N:=U) 3 r.WeekNo,.sl (N:=U) 3 r.YearDay,.sl (N:=U) 3 r.MonthDay,.sl (N:=U) 60 r.Days,.sl (N:=U) 3 r.Hour,.sl (N:=U) 3 r.Minute,.sl (N:=U) 3 r.Second,.sl (N:=U) 3 r.SetPos,.int .i64 r.Wkst],.agg [.int .i64 t.Day.Year,.int .i64 t.Day.Month,.int .i64 t.Day.Date,.int .i64 t.Hour,.int .i64 t.Min,.int .i64 t.Sec,blB t.Bare,blB t.UTC]] _ ⟨fun _ h=>o7 hb_s h,fun _ h=>s9 hb_r h,fun _ h=>o7 hb_t h,trivial⟩ hr
 . cases h
def e09:Nat->Ann:=fun | 91=>⟨23,nn,nn⟩ | _=>⟨0,nn,nn⟩
def Vxp (l:List Int) (n:Int) (a:Int) (Q:Bool->Prop):Prop :=
(¬(↑l.length:Int)=0->l.length<=1000000)/\(¬((↑l.length:Int)=0 ∨ w7 l n=true)->b9 (n-a))/\(¬((↑l.length:Int)=0 ∨ w7 l n=true)->b9 (n-a-1))/\(¬((↑l.length:Int)=0 ∨ w7 l n=true)->l.length<=1000000)/\Q (decide (((↑l.length:Int)=0 ∨ w7 l n=true) ∨ w7 l (n-a-1)=true))
theorem pxp (l:List Int) (n:Int) (a:Int) (hl:l.length<=1000000) (n0:-10000000<=n) (n1:n<=10000000) (a0:-10000000<=a) (a1:a<=10000000):Vxp l n a (fun y0=>y0=C4 l n a):=by
 unfold Vxp C4 Re.hasE
 refine ⟨fun _=>hl,fun _=>⟨by omega,by omega⟩,fun _=>⟨by omega,by omega⟩,fun _=>hl,b6x ?_⟩
 rw [Bool.or_eq_true,Bool.or_eq_true,decide_eq_true_iff,or_assoc]
def cxp (a:List (SV U)):Option (Q1 U):=match a with | [.sl 3 l,.int .i64 n,.int .i64 a]=>some ⟨[List.length (α:=Int) l<=1000000,-10000000<=n,n<=10000000,-10000000<=a,a<=10000000],[],blB (C4 l n a)⟩ | _=>none
noncomputable def Nxp:Env:=Nln.addL 91 cxp
theorem b83:j7 Nxp:=b5r.addL Tryz.call91 fun (args:List (SV U)) (q:Q1 U) (h:cxp args=some q) ho=>by
 unfold cxp at h
 split at h
 . rename_i l n a
   cases h
   exact q8 (an:=e09 91) b5r (j6 b5r o9 e09 2) Tryz.func91 (k:=.bool) (x:=C4 l n a) trivial (kc (pxp l n a ho.1 ho.2.1 ho.2.2.1 ho.2.2.2.1 ho.2.2.2.2.1) (by kernel_rfl)) 0
 . cases h
def d8x:Nat->Ann:=fun | 95=>⟨6,nn,nn⟩ | _=>⟨0,nn,nn⟩
def Vxl (t:Int) (Q:Int->Prop):Prop :=
((315537897600:Int)<t->Q (315537897600:Int))/\(¬(315537897600:Int)<t->Q t)
theorem pxl (t:Int)  : Vxl t (fun y0=>y0=E5 t):=by
 unfold Vxl E5
 exact ⟨fun h=>by rw [if_pos h],fun h=>by rw [if_neg h]⟩
def cxl (a:List (SV U)):Option (Q1 U):=match a with | [.int .i64 t]=>some ⟨[],[],.int .i64 (E5 t)⟩ | _=>none
noncomputable def Nxl:Env:=Nxp.addL 95 cxl
theorem b7x:j7 Nxl:=b83.addL Tryz.call95 fun (args:List (SV U)) (q:Q1 U) (h:cxl args=some q) ho=>by
 unfold cxl at h
 split at h
 . rename_i t
   cases h
   exact q8 (an:=d8x 95) b83 (j6 b83 o9 d8x 2) Tryz.func95 (k:=.int .i64) (x:=E5 t) trivial (kc (pxl t ) (by kernel_rfl)) 0
 . cases h
def e0a:Nat->Ann:=fun | 48=>⟨46,nn,nn⟩ | _=>⟨0,nn,nn⟩
def VxI (r:Rl) (t:Int) (Q:Int->Prop):Prop :=
(86400:Int)≠0/\b9 (t.tdiv (86400:Int))/\b9 (t.tdiv (86400:Int)+1)/\(r.Freq=0->Q (ofS (t.tdiv (86400:Int)+1)).Year)/\(¬r.Freq=0->(r.Freq=1->b9 ((12:Int) * (ofS (t.tdiv (86400:Int)+1)).Year)/\b9 ((12:Int) * (ofS (t.tdiv (86400:Int)+1)).Year+(ofS (t.tdiv (86400:Int)+1)).Month)/\Q ((12:Int) * (ofS (t.tdiv (86400:Int)+1)).Year+(ofS (t.tdiv (86400:Int)+1)).Month))/\(¬r.Freq=1->(r.Freq=2->b9 (t.tdiv (86400:Int)+1+6)/\b9 (t.tdiv (86400:Int)+1+6-r.Wkst)/\(7:Int)≠0/\b9 ((t.tdiv (86400:Int)+1+6-r.Wkst).tdiv (7:Int))/\Q ((t.tdiv (86400:Int)+1+6-r.Wkst).tdiv (7:Int)))/\(¬r.Freq=2->(r.Freq=3->Q (t.tdiv (86400:Int)+1))/\(¬r.Freq=3->(r.Freq=4->(3600:Int)≠0/\b9 (t.tdiv (3600:Int))/\Q (t.tdiv (3600:Int)))/\(¬r.Freq=4->(r.Freq=5->(60:Int)≠0/\b9 (t.tdiv (60:Int))/\Q (t.tdiv (60:Int)))/\(¬r.Freq=5->Q t))))))
theorem pxI (r:Rl) (t:Int) (t0:0<=t) (t1:t<=400000000000) (w0:0<=r.Wkst) (w1:r.Wkst<=6):VxI r t (fun y0=>y0=s5 r t):=by
 unfold VxI s5
 have e0:t.tdiv 86400=t / 86400:=Int.tdiv_eq_ediv_of_nonneg t0
 have e1:t.tdiv 3600=t / 3600:=Int.tdiv_eq_ediv_of_nonneg t0
 have e2:t.tdiv 60=t / 60:=Int.tdiv_eq_ediv_of_nonneg t0
 have e3:(t / 86400+1+6-r.Wkst).tdiv 7=(t / 86400+1+6-r.Wkst) / 7:=Int.tdiv_eq_ediv_of_nonneg (by omega)
 rw [e0,e1,e2,e3]
 obtain ⟨y,m,_⟩:=a92 (t / 86400+1)
 refine ⟨by decide,⟨by omega,by omega⟩,⟨by omega,by omega⟩,fun h=>by rw [if_pos h],fun h0=>⟨fun h=>⟨⟨by omega,by omega⟩,⟨by omega,by omega⟩,by rw [if_neg h0,if_pos h]⟩,fun h1=>⟨fun h=>⟨⟨by omega,by omega⟩,⟨by omega,by omega⟩,by decide,⟨by omega,by omega⟩,by rw [if_neg h0,if_neg h1,if_pos h]⟩,fun h2=>⟨fun h=>by rw [if_neg h0,if_neg h1,if_neg h2,if_pos h],fun h3=>⟨fun h=>⟨by decide,⟨by omega,by omega⟩,by rw [if_neg h0,if_neg h1,if_neg h2,if_neg h3,if_pos h]⟩,fun h4=>⟨fun h=>⟨by decide,⟨by omega,by omega⟩,by rw [if_neg h0,if_neg h1,if_neg h2,if_neg h3,if_neg h4,if_pos h]⟩,fun h5=>by rw [if_neg h0,if_neg h1,if_neg h2,if_neg h3,if_neg h4,if_neg h5]⟩⟩⟩⟩⟩⟩
noncomputable def e2a (r:Rl) (t:Int):Q1 U:=⟨[0<=t,t<=400000000000,0<=r.Wkst,r.Wkst<=6],[],.int .i64 (s5 r t)⟩
noncomputable def cxI (a:List (SV U)):Option (Q1 U):=match a with | [.agg l_r,.int .i64 t]=>(y30.bk (.agg l_r)).bind fun r=>some (e2a r t) | _=>none
noncomputable def NxI:Env:=Nxl.addL 48 cxI
theorem b81:j7 NxI:=b7x.addL Tryz.call48 fun (args:List (SV U)) (q:Q1 U) (h:cxI args=some q) ho=>by
 unfold cxI at h
 split at h
 . rename_i l_r t
   obtain ⟨r,hb_r,h⟩:=Option.bind_eq_some_iff.1 h
   cases h
   refine A3.conv (E:=Nxl) (args':=[.agg [.int .i64 r.Freq,.int .i64 r.Interval,.int .i64 r.Count,.sl 25 r.Until,.sl 3 r.Month,.sl 3 r.WeekNo,.sl 3 r.YearDay,.sl 3 r.MonthDay,.sl 60 r.Days,.sl 3 r.Hour,.sl 3 r.Minute,.sl 3 r.Second,.sl 3 r.SetPos,.int .i64 r.Wkst],.int .i64 t]) (q8 (an:=e0a 48) b7x (j6 b7x o9 e0a 2) Tryz.func48 (k:=.int .i64) trivial (kc (pxI r t ho.1 ho.2.1 ho.2.2.1 ho.2.2.2.1) (by kernel_rfl)) 0) fun D w vs hr=>q9 [.agg l_r,.int .i64 t] [.agg [.int .i64 r.Freq,.int .i64 r.Interval,.int .i64 r.Count,.sl (N:=U) 25 r.Until,.sl (N:=U) 3 r.Month,.sl (N:=U) 3 r.WeekNo,.sl (N:=U) 3 r.YearDay,.sl (N:=U) 3 r.MonthDay,.sl (N:=U) 60 r.Days,.sl (N:=U) 3 r.Hour,.sl (N:=U) 3 r.Minute,.sl (N:=U) 3 r.Second,.sl (N:=U) 3 r.SetPos,.int .i64 r.Wkst],.int .i64 t] _ ⟨fun _ h=>s9 hb_r h,fun _ h=>h,trivial⟩ hr
 . cases h
def e08:Nat->Ann:=fun | 49=>⟨199,fun | 15=>some ⟨[2,4,13,14],[.slot 15 (.int .i64)]⟩ | _=>none,fun | 8=>some ⟨[2,3,4,7,8,9,11],[.slot 12 (.int .i64)]⟩ | 14=>some ⟨[2,4],[.slot 13 (.int .i64),.slot 14 (.int .i64)]⟩ | _=>none⟩ | _=>⟨0,nn,nn⟩
def a5c (n:Int):=Dy.mk (ofS n).Year (ofS n).Month (ofS n).Date
def VxD (s:Tm) (r:Rl) (n:Int) (Q:Bool->Prop):Prop :=
∃ (J:Int->Prop),((F3 (w8 n r.Wkst).fst r.Wkst=0->J (1:Int))/\(¬F3 (w8 n r.Wkst).fst r.Wkst=0->J (F3 (w8 n r.Wkst).fst r.Wkst)))/\∀ (x:Int),J x->(¬(↑r.Month.length:Int)=0->r.Month.length<=1000000)/\((¬¬((↑r.Month.length:Int)=0 ∨ w7 r.Month (ofS n).Month=true)->r.WeekNo.length<=1000000)/\(¬¬((↑r.Month.length:Int)=0 ∨ w7 r.Month (ofS n).Month=true)->(-10000000:Int)<=(w8 n r.Wkst).snd)/\(¬¬((↑r.Month.length:Int)=0 ∨ w7 r.Month (ofS n).Month=true)->(w8 n r.Wkst).snd<=10000000)/\(¬¬((↑r.Month.length:Int)=0 ∨ w7 r.Month (ofS n).Month=true)->(-10000000:Int)<=x)/\(¬¬((↑r.Month.length:Int)=0 ∨ w7 r.Month (ofS n).Month=true)->x<=10000000))/\((¬(¬((↑r.Month.length:Int)=0 ∨ w7 r.Month (ofS n).Month=true) ∨ ¬C4 r.WeekNo (w8 n r.Wkst).snd x=true)->r.YearDay.length<=1000000)/\(¬(¬((↑r.Month.length:Int)=0 ∨ w7 r.Month (ofS n).Month=true) ∨ ¬C4 r.WeekNo (w8 n r.Wkst).snd x=true)->(-10000000:Int)<=ydS (a5c n))/\(¬(¬((↑r.Month.length:Int)=0 ∨ w7 r.Month (ofS n).Month=true) ∨ ¬C4 r.WeekNo (w8 n r.Wkst).snd x=true)->ydS (a5c n)<=10000000)/\(¬(¬((↑r.Month.length:Int)=0 ∨ w7 r.Month (ofS n).Month=true) ∨ ¬C4 r.WeekNo (w8 n r.Wkst).snd x=true)->(-10000000:Int)<=ydS (Dy.mk (ofS n).Year (12:Int) (31:Int)))/\(¬(¬((↑r.Month.length:Int)=0 ∨ w7 r.Month (ofS n).Month=true) ∨ ¬C4 r.WeekNo (w8 n r.Wkst).snd x=true)->ydS (Dy.mk (ofS n).Year (12:Int) (31:Int))<=10000000))/\((¬((¬((↑r.Month.length:Int)=0 ∨ w7 r.Month (ofS n).Month=true) ∨ ¬C4 r.WeekNo (w8 n r.Wkst).snd x=true) ∨ ¬C4 r.YearDay (ydS (a5c n)) (ydS (Dy.mk (ofS n).Year (12:Int) (31:Int)))=true)->r.MonthDay.length<=1000000)/\(¬((¬((↑r.Month.length:Int)=0 ∨ w7 r.Month (ofS n).Month=true) ∨ ¬C4 r.WeekNo (w8 n r.Wkst).snd x=true) ∨ ¬C4 r.YearDay (ydS (a5c n)) (ydS (Dy.mk (ofS n).Year (12:Int) (31:Int)))=true)->(-10000000:Int)<=(ofS n).Date)/\(¬((¬((↑r.Month.length:Int)=0 ∨ w7 r.Month (ofS n).Month=true) ∨ ¬C4 r.WeekNo (w8 n r.Wkst).snd x=true) ∨ ¬C4 r.YearDay (ydS (a5c n)) (ydS (Dy.mk (ofS n).Year (12:Int) (31:Int)))=true)->(ofS n).Date<=10000000)/\(¬((¬((↑r.Month.length:Int)=0 ∨ w7 r.Month (ofS n).Month=true) ∨ ¬C4 r.WeekNo (w8 n r.Wkst).snd x=true) ∨ ¬C4 r.YearDay (ydS (a5c n)) (ydS (Dy.mk (ofS n).Year (12:Int) (31:Int)))=true)->(-10000000:Int)<=u9 (ofS n).Year (ofS n).Month)/\(¬((¬((↑r.Month.length:Int)=0 ∨ w7 r.Month (ofS n).Month=true) ∨ ¬C4 r.WeekNo (w8 n r.Wkst).snd x=true) ∨ ¬C4 r.YearDay (ydS (a5c n)) (ydS (Dy.mk (ofS n).Year (12:Int) (31:Int)))=true)->u9 (ofS n).Year (ofS n).Month<=10000000))/\(((¬((↑r.Month.length:Int)=0 ∨ w7 r.Month (ofS n).Month=true) ∨ ¬C4 r.WeekNo (w8 n r.Wkst).snd x=true) ∨ ¬C4 r.YearDay (ydS (a5c n)) (ydS (Dy.mk (ofS n).Year (12:Int) (31:Int)))=true) ∨ ¬C4 r.MonthDay (ofS n).Date (u9 (ofS n).Year (ofS n).Month)=true->Q false)/\(¬(((¬((↑r.Month.length:Int)=0 ∨ w7 r.Month (ofS n).Month=true) ∨ ¬C4 r.WeekNo (w8 n r.Wkst).snd x=true) ∨ ¬C4 r.YearDay (ydS (a5c n)) (ydS (Dy.mk (ofS n).Year (12:Int) (31:Int)))=true) ∨ ¬C4 r.MonthDay (ofS n).Date (u9 (ofS n).Year (ofS n).Month)=true)->((0:Int)<(↑r.Days.length:Int)->∃ (J:Int->Int->Prop),((r.Freq=1 ∨ (0:Int)<(↑r.Month.length:Int)->J (ofS n).Date (u9 (ofS n).Year (ofS n).Month))/\(¬(r.Freq=1 ∨ (0:Int)<(↑r.Month.length:Int))->J (ydS (a5c n)) (ydS (Dy.mk (ofS n).Year (12:Int) (31:Int)))))/\∀ (x x_1:Int),J x x_1->∃ (I:Int->Prop),∃ (m:Int->Nat),I (0:Int)/\∀ (x_2:Int),I x_2->(x_2<(↑r.Days.length:Int)->(0:Int)<=x_2/\x_2<(↑r.Days.length:Int)/\(b9 (ix r.Days x_2).N->b9 (ix r.Days x_2).Day->((ix r.Days x_2).Day=wdS n/\¬(ix r.Days x_2).N=0->b9 (x-1))/\(((ix r.Days x_2).Day=wdS n/\¬(ix r.Days x_2).N=0->(7:Int)≠0)/\((ix r.Days x_2).Day=wdS n/\¬(ix r.Days x_2).N=0->b9 ((x-1).tdiv (7:Int))))/\((ix r.Days x_2).Day=wdS n/\¬(ix r.Days x_2).N=0->b9 ((1:Int)+(x-1).tdiv (7:Int)))/\((ix r.Days x_2).Day=wdS n/\¬((ix r.Days x_2).N=0 ∨ (ix r.Days x_2).N=(1:Int)+(x-1).tdiv (7:Int))->b9 ((0:Int)-(ix r.Days x_2).N))/\((ix r.Days x_2).Day=wdS n/\¬((ix r.Days x_2).N=0 ∨ (ix r.Days x_2).N=(1:Int)+(x-1).tdiv (7:Int))->b9 (x_1-x))/\(((ix r.Days x_2).Day=wdS n/\¬((ix r.Days x_2).N=0 ∨ (ix r.Days x_2).N=(1:Int)+(x-1).tdiv (7:Int))->(7:Int)≠0)/\((ix r.Days x_2).Day=wdS n/\¬((ix r.Days x_2).N=0 ∨ (ix r.Days x_2).N=(1:Int)+(x-1).tdiv (7:Int))->b9 ((x_1-x).tdiv (7:Int))))/\((ix r.Days x_2).Day=wdS n/\¬((ix r.Days x_2).N=0 ∨ (ix r.Days x_2).N=(1:Int)+(x-1).tdiv (7:Int))->b9 ((1:Int)+(x_1-x).tdiv (7:Int)))/\((ix r.Days x_2).Day=wdS n/\(((ix r.Days x_2).N=0 ∨ (ix r.Days x_2).N=(1:Int)+(x-1).tdiv (7:Int)) ∨ (0:Int)-(ix r.Days x_2).N=(1:Int)+(x_1-x).tdiv (7:Int))->Q true)/\(¬((ix r.Days x_2).Day=wdS n/\(((ix r.Days x_2).N=0 ∨ (ix r.Days x_2).N=(1:Int)+(x-1).tdiv (7:Int)) ∨ (0:Int)-(ix r.Days x_2).N=(1:Int)+(x_1-x).tdiv (7:Int)))->b9 (x_2+1)/\I (x_2+1)/\m (x_2+1)<m x_2)))/\(¬x_2<(↑r.Days.length:Int)->Q false))/\(¬(0:Int)<(↑r.Days.length:Int)->((0:Int)<(↑r.YearDay.length:Int) ∨ (0:Int)<(↑r.MonthDay.length:Int)->Q true)/\(¬((0:Int)<(↑r.YearDay.length:Int) ∨ (0:Int)<(↑r.MonthDay.length:Int))->((0:Int)<(↑r.WeekNo.length:Int)->Q (decide (wdS n=wdS (j9 (Dy.mk s.Day.Year s.Day.Month s.Day.Date)))))/\(¬(0:Int)<(↑r.WeekNo.length:Int)->(r.Freq<=1/\(ofS n).Date≠s.Day.Date ∨ (r.Freq=0/\(↑r.Month.length:Int)=0)/\(ofS n).Month≠s.Day.Month->Q false)/\(¬(r.Freq<=1/\(ofS n).Date≠s.Day.Date ∨ (r.Freq=0/\(↑r.Month.length:Int)=0)/\(ofS n).Month≠s.Day.Month)->Q (decide (r.Freq≠2 ∨ wdS n=wdS (j9 (Dy.mk s.Day.Year s.Day.Month s.Day.Date)))))))))
set_option maxHeartbeats 2000000 in
theorem pxD (s:Tm) (r:Rl) (n:Int) (hfw:w4 r=true) (n0:1<=n) (n1:n<=3652059) (hR:A6 r=true):VxD s r n (fun y0=>y0=N7 s r (j9 s.Day) n):=by
 unfold VxD a5c
 rw [show Dy.mk (ofS n).Year (ofS n).Month (ofS n).Date=ofS n from rfl,show Dy.mk s.Day.Year s.Day.Month s.Day.Date=s.Day from rfl]
 obtain ⟨wmo,wwn,wyd,wmd,wdy,who,wmi,wse,wsp,wti⟩:=Q8 hfw
 refine ⟨fun x=>x=O3 (w8 n r.Wkst).1 r.Wkst,⟨fun h=>by unfold O3; rw [if_pos h],fun h=>by unfold O3; rw [if_neg h]⟩,?_⟩
 rintro _ rfl
 have k1:=d1y n r.Wkst
 have k2:=c59 (w8 n r.Wkst).1 r.Wkst
 have k3:=a8h (ofS n)
 have k4:=a8h ⟨(ofS n).Year,12,31⟩
 have k5:=b0v (ofS n).Year (ofS n).Month
 obtain ⟨_,_,k6⟩:=a92 n
 refine ⟨fun _=>by omega,⟨fun _=>by omega,fun _=>by omega,fun _=>by omega,fun _=>by omega,fun _=>by omega⟩,⟨fun _=>by omega,fun _=>by omega,fun _=>by omega,fun _=>by omega,fun _=>by omega⟩,⟨fun _=>by omega,fun _=>by omega,fun _=>by omega,fun _=>by omega,fun _=>by omega⟩,fun hn=>?_,fun hn=>?_⟩
 . refine Eq.symm (Bool.eq_false_iff.2 fun hb=>?_)
   unfold N7 at hb
   simp only [Bool.and_eq_true,Bool.or_eq_true,decide_eq_true_eq] at hb
   obtain ⟨⟨⟨a,b⟩,c,d⟩,_⟩:=hb
   rcases hn with ((hn | hn) | hn) | hn
   . exact hn a
   . exact hn b
   . exact hn c
   . exact hn d
 have hA:N7 s r (j9 s.Day) n=(if 0<(r.Days.length:Int) then wdB r n else if 0<(r.YearDay.length:Int) ∨ 0<(r.MonthDay.length:Int) then true else decide (O7 s r (j9 s.Day) n)):=by
  simp only [not_or,Classical.not_not] at hn
  obtain ⟨⟨⟨a,b⟩,c⟩,d⟩:=hn
  unfold N7
  rw [b,c,d,show (decide ((r.Month.length:Int)=0) || w7 r.Month (ofS n).Month)=true from by rw [Bool.or_eq_true,decide_eq_true_eq]; exact Classical.byContradiction fun hh=>a ⟨fun x=>hh (.inl x),fun x=>hh (.inr x)⟩]
  rfl
 rw [hA]
 clear hn hA
 refine ⟨fun h=>?_,fun h=>?_⟩
 . rw [if_pos h]
   refine ⟨fun x y=>x=atW r n/\y=a04 r n,⟨fun h=>by unfold atW a04; rw [if_pos h,if_pos h]; exact ⟨rfl,rfl⟩,fun h=>by unfold atW a04; rw [if_neg h,if_neg h]; exact ⟨rfl,rfl⟩⟩,?_⟩
   rintro _ _ ⟨rfl,rfl⟩
   obtain ⟨g1,g2,g3,g4⟩:=c7j r n
   obtain ⟨g5,g6⟩:=d0u (r:=r) n0 n1
   have e1:(atW r n-1).tdiv 7=(atW r n-1) / 7:=Int.tdiv_eq_ediv_of_nonneg (by omega)
   have e2:(a04 r n-atW r n).tdiv 7=(a04 r n-atW r n) / 7:=Int.tdiv_eq_ediv_of_nonneg (by omega)
   have z:∀ n:Int,0-n=-n:=fun n=>by omega
   simp only [e1,e2,z]
   refine ⟨fun i=>0<=i/\∀ j:Int,0<=j->j<i->¬ WdP r n (ix r.Days j),fun i=>((r.Days.length:Int)-i).toNat,⟨by omega,fun j a b=>absurd b (by omega)⟩,?_⟩
   rintro i ⟨i0,hi⟩
   refine ⟨fun h=>⟨i0,h,fun _ _=>?_⟩,fun h=>c6s fun j a b=>hi j a (by omega)⟩
   obtain ⟨d1,d2,d3,d4⟩:=(m8.1 hR).days.ok i i0 h
   have hm:0<=D3 r/\D3 r<=53:=by
    unfold D3
    split
    . omega
    . split <;> omega
   refine ⟨fun _=>⟨by omega,by omega⟩,⟨fun _=>by decide,fun _=>⟨by omega,by omega⟩⟩,fun _=>⟨by omega,by omega⟩,fun _=>⟨by omega,by omega⟩,fun _=>⟨by omega,by omega⟩,⟨fun _=>by decide,fun _=>⟨by omega,by omega⟩⟩,fun _=>⟨by omega,by omega⟩,fun hy=>b8g i0 h hy,fun hy=>⟨⟨by omega,by omega⟩,⟨by omega,fun j a b=>?_⟩,by dsimp only; omega⟩⟩
   by_cases e:j=i
   . subst e; exact hy
   . exact hi j a (by omega)
 . rw [if_neg h]
   refine ⟨fun h2=>by rw [if_pos h2],fun h2=>?_⟩
   rw [if_neg h2]
   unfold O7
   refine ⟨fun h3=>?_,fun h3=>⟨fun h4=>?_,fun h4=>?_⟩⟩
   . exact decide_eq_decide.2 (by rw [if_pos h3])
   . exact (decide_eq_false (by rw [if_neg h3]; exact fun hh=>hh.1 h4)).symm
   . exact decide_eq_decide.2 (by rw [if_neg h3]; exact ⟨fun hh=>⟨h4,hh⟩,fun hh=>hh.2⟩)
noncomputable def e2g (s:Tm) (r:Rl) (n:Int):Q1 U:=⟨[w4 r=true,1<=n,n<=3652059,A6 r=true],[],blB (N7 s r (j9 s.Day) n)⟩
noncomputable def cxD (a:List (SV U)):Option (Q1 U):=match a with | [.agg l_s,.agg l_r,.int .i64 n]=>(y25.bk (.agg l_s)).bind fun s=>(y30.bk (.agg l_r)).bind fun r=>some (e2g s r n) | _=>none
noncomputable def NxD:Env:=NxI.addL 49 cxD
theorem b6d:j7 NxD:=b81.addL Tryz.call49 fun (args:List (SV U)) (q:Q1 U) (h:cxD args=some q) ho=>by
 unfold cxD at h
 split at h
 . rename_i l_s l_r n
   obtain ⟨s,hb_s,h⟩:=Option.bind_eq_some_iff.1 h
   obtain ⟨r,hb_r,h⟩:=Option.bind_eq_some_iff.1 h
   cases h
   refine A3.conv (E:=NxI) (args':=[.agg [.int .i64 s.Day.Year,.int .i64 s.Day.Month,.int .i64 s.Day.Date,.int .i64 s.Hour,.int .i64 s.Min,.int .i64 s.Sec,blB s.Bare,blB s.UTC],.agg [.int .i64 r.Freq,.int .i64 r.Interval,.int .i64 r.Count,.sl 25 r.Until,.sl 3 r.Month,.sl 3 r.WeekNo,.sl 3 r.YearDay,.sl 3 r.MonthDay,.sl 60 r.Days,.sl 3 r.Hour,.sl 3 r.Minute,.sl 3 r.Second,.sl 3 r.SetPos,.int .i64 r.Wkst],.int .i64 n]) (q8 (an:=e08 49) b81 (j6 b81 o9 e08 2) Tryz.func49 (k:=.bool) trivial (kc (pxD s r n ho.1 ho.2.1 ho.2.2.1 ho.2.2.2.1) (by kernel_rfl)) 0) fun D w vs hr=>q9 [.agg l_s,.agg l_r,.int .i64 n] [.agg [.int .i64 s.Day.Year,.int .i64 s.Day.Month,.int .i64 s.Day.Date,.int .i64 s.Hour,.int .i64 s.Min,.int .i64 s.Sec,blB s.Bare,blB s.UTC],.agg [.int .i64 r.Freq,.int .i64 r.Interval,.int .i64 r.Count,.sl (N:=U) 25 r.Until,.sl (N:=U) 3 r.Month,.sl (N:=U) 3 r.WeekNo,.sl (N:=U) 3 r.YearDay,.sl (N:=U) 3 r.MonthDay,.sl (N:=U) 60 r.Days,.sl (N:=U) 3 r.Hour,.sl (N:=U) 3 r.Minute,.sl (N:=U) 3 r.Second,.sl (N:=U) 3 r.SetPos,.int .i64 r.Wkst],.int .i64 n] _ ⟨fun _ h=>o7 hb_s h,fun _ h=>s9 hb_r h,fun _ h=>h,trivial⟩ hr
 . cases h
end Go.Proofs.YtdjfeninmbpflaaGreat
end
section
namespace Go.Proofs.YtdjfeninmbpflaaGreat
open Go Go.Wk Go.Wl Go.Rx Go.Re 
attribute [local irreducible] m7
def b4k:Nat->Ann:=fun | 96=>⟨40,fun | 5=>some ⟨[1,2],[.slot 5 (.acc 3),.slot 6 (.int .i64)]⟩ | _=>none,nn⟩ | _=>⟨0,nn,nn⟩
def VxP (r:Rl) (l:List Int) (Q:List Int->Prop):Prop :=
((↑r.SetPos.length:Int)=0->Q l)/\(¬(↑r.SetPos.length:Int)=0->∃ (I:List Int->Int->Prop),∃ (m:List Int->Int->Nat),I [] (0:Int)/\∀ (x:List Int) (x_1:Int),I x x_1->(x_1<(↑l.length:Int)->b9 (x_1+1)/\r.SetPos.length<=1000000/\(¬w7 r.SetPos (x_1+1)=true->b9 (x_1-(↑l.length:Int)))/\(¬w7 r.SetPos (x_1+1)=true->r.SetPos.length<=1000000)/\(w7 r.SetPos (x_1+1)=true ∨ w7 r.SetPos (x_1-(↑l.length:Int))=true->(0:Int)<=x_1/\x_1<(↑l.length:Int)/\(b9 (ix l x_1)->(x.length+[ix l x_1].length) * (some (8:Nat)).getD (0:Nat)<=140737488355328/\b9 (x_1+1)/\I (x++[ix l x_1]) (x_1+1)/\m (x++[ix l x_1]) (x_1+1)<m x x_1))/\(¬(w7 r.SetPos (x_1+1)=true ∨ w7 r.SetPos (x_1-(↑l.length:Int))=true)->b9 (x_1+1)/\I x (x_1+1)/\m x (x_1+1)<m x x_1))/\(¬x_1<(↑l.length:Int)->Q x))
def WxP (r:Rl) (l:List Int) (Q:List Int->Prop):Prop:=m7 (E:=NxD) (P7 NxD H0 b4k 2) (b4k 96) Tryz.f96 [.agg [.int .i64 r.Freq,.int .i64 r.Interval,.int .i64 r.Count,.sl (N:=U) 25 r.Until,.sl (N:=U) 3 r.Month,.sl (N:=U) 3 r.WeekNo,.sl (N:=U) 3 r.YearDay,.sl (N:=U) 3 r.MonthDay,.sl (N:=U) 60 r.Days,.sl (N:=U) 3 r.Hour,.sl (N:=U) 3 r.Minute,.sl (N:=U) 3 r.Second,.sl (N:=U) 3 r.SetPos,.int .i64 r.Wkst],.sl (N:=U) 3 l] [] [] 0 (c7e NxD 1 [.sl 3] Q)
attribute [local irreducible] WxP HZ
theorem d3w {r:Rl} {l:List Int} {Q:List Int->Prop}:VxP r l Q=WxP r l Q:=by kernel_rfl
theorem d2s {r:Rl} {l:List Int} {Q:List Int->Prop} (h:VxP r l Q):WxP r l Q:=by rw [<- d3w]; exact h
theorem pxP (r:Rl) (l:List Int) (hfw:w4 r=true) (hl:l.length<=400000000000):VxP r l (fun y0=>y0=s7 r l):=by
 unfold VxP s7
 obtain ⟨wmo,wwn,wyd,wmd,wdy,who,wmi,wse,wsp,wti⟩:=Q8 hfw
 refine ⟨fun h=>by rw [if_pos h],fun h=>?_⟩
 rw [if_neg h]
 refine ⟨fun x i=>S0 r.SetPos l x i,fun _ i=>((l.length:Int)-i).toNat,S0.init,?_⟩
 rintro x i hI
 have a:=hI.a
 have c:=hI.c
 refine ⟨fun hi=>⟨⟨by omega,by omega⟩,by omega,fun _=>⟨by omega,by omega⟩,fun _=>by omega,fun hp=>⟨a,hi,fun _=>⟨?_,⟨by omega,by omega⟩,hI.yes hi hp,by dsimp only; omega⟩⟩,fun hp=>⟨⟨by omega,by omega⟩,hI.no hi hp,by dsimp only; omega⟩⟩,fun hi=>hI.fin hi⟩
 show (x.length+1) * 8<=140737488355328
 omega
theorem d5r {r:Rl} {l:List Int}:WxP r l (fun y0=>y0=s7 r l)=HZ NxD (P7 NxD H0 b4k 2) (b4k 96) Tryz.f96 [.agg [.int .i64 r.Freq,.int .i64 r.Interval,.int .i64 r.Count,.sl (N:=U) 25 r.Until,.sl (N:=U) 3 r.Month,.sl (N:=U) 3 r.WeekNo,.sl (N:=U) 3 r.YearDay,.sl (N:=U) 3 r.MonthDay,.sl (N:=U) 60 r.Days,.sl (N:=U) 3 r.Hour,.sl (N:=U) 3 r.Minute,.sl (N:=U) 3 r.Second,.sl (N:=U) 3 r.SetPos,.int .i64 r.Wkst],.sl (N:=U) 3 l] 1 [.sl 3] (s7 r l,()):=by kernel_rfl
theorem d4t (r:Rl) (l:List Int) (hfw:w4 r=true) (hl:l.length<=400000000000):HZ NxD (P7 NxD H0 b4k 2) (b4k 96) Tryz.f96 [.agg [.int .i64 r.Freq,.int .i64 r.Interval,.int .i64 r.Count,.sl (N:=U) 25 r.Until,.sl (N:=U) 3 r.Month,.sl (N:=U) 3 r.WeekNo,.sl (N:=U) 3 r.YearDay,.sl (N:=U) 3 r.MonthDay,.sl (N:=U) 60 r.Days,.sl (N:=U) 3 r.Hour,.sl (N:=U) 3 r.Minute,.sl (N:=U) 3 r.Second,.sl (N:=U) 3 r.SetPos,.int .i64 r.Wkst],.sl (N:=U) 3 l] 1 [.sl 3] (s7 r l,()):=by
 rw [<- d5r]
 exact d2s (pxP r l hfw hl)
def d3a (r:Rl) (l:List Int):CR U:=⟨[w4 r=true,List.length (α:=Int) l<=400000000000],[],.sl 3 (s7 r l),[]⟩
theorem d06 (r:Rl) (l:List Int):(⟨[w4 r=true,List.length (α:=Int) l<=400000000000],[],a6p 1 (b18 NxD [.sl 3] (s7 r l,())),[]⟩:CR NxD.N)=d3a r l:=by kernel_rfl
theorem c9l (r:Rl) (l:List Int) (hfw:w4 r=true) (hl:l.length<=400000000000) (nx:Nat) (hp:([.agg [.int .i64 r.Freq,.int .i64 r.Interval,.int .i64 r.Count,.sl (N:=U) 25 r.Until,.sl (N:=U) 3 r.Month,.sl (N:=U) 3 r.WeekNo,.sl (N:=U) 3 r.YearDay,.sl (N:=U) 3 r.MonthDay,.sl (N:=U) 60 r.Days,.sl (N:=U) 3 r.Hour,.sl (N:=U) 3 r.Minute,.sl (N:=U) 3 r.Second,.sl (N:=U) 3 r.SetPos,.int .i64 r.Wkst],.sl (N:=U) 3 l]:List (SV U)).all B3=true):E2 NxD.P NxD.N NxD.T NxD.G 96 [.agg [.int .i64 r.Freq,.int .i64 r.Interval,.int .i64 r.Count,.sl (N:=U) 25 r.Until,.sl (N:=U) 3 r.Month,.sl (N:=U) 3 r.WeekNo,.sl (N:=U) 3 r.YearDay,.sl (N:=U) 3 r.MonthDay,.sl (N:=U) 60 r.Days,.sl (N:=U) 3 r.Hour,.sl (N:=U) 3 r.Minute,.sl (N:=U) 3 r.Second,.sl (N:=U) 3 r.SetPos,.int .i64 r.Wkst],.sl (N:=U) 3 l] nx (d3a r l):=by
 rw [<- d06]
 exact e0m b6d (j6 b6d o9 b4k 2) Tryz.func96 rfl hp (d4t r l hfw hl)
def cxP (a:List (SV U)) (nx:Nat):Option (CR U):=match a with | [.agg l_r,.sl 3 l]=>(y30.bk (.agg l_r)).bind fun r=>some (d3a r l) | _=>none
noncomputable def NxP:Env:=NxD.addC 96 cxP
theorem b5k:j7 NxP:=b6d.addC Tryz.call96 fun (args:List (SV U)) nx (c:CR U) (h:cxP args nx=some c) hp ho=>by
 unfold cxP at h
 split at h
 . rename_i l_r l
   obtain ⟨r,hb_r,h⟩:=Option.bind_eq_some_iff.1 h
   cases h
   exact E2.weak (b:=[.agg [.int .i64 r.Freq,.int .i64 r.Interval,.int .i64 r.Count,.sl (N:=U) 25 r.Until,.sl (N:=U) 3 r.Month,.sl (N:=U) 3 r.WeekNo,.sl (N:=U) 3 r.YearDay,.sl (N:=U) 3 r.MonthDay,.sl (N:=U) 60 r.Days,.sl (N:=U) 3 r.Hour,.sl (N:=U) 3 r.Minute,.sl (N:=U) 3 r.Second,.sl (N:=U) 3 r.SetPos,.int .i64 r.Wkst],.sl (N:=U) 3 l]) (c9l r l ho.1 ho.2.1 nx rfl) fun ρ Z w v hr=>q9 [.agg l_r,.sl 3 l] [.agg [.int .i64 r.Freq,.int .i64 r.Interval,.int .i64 r.Count,.sl (N:=U) 25 r.Until,.sl (N:=U) 3 r.Month,.sl (N:=U) 3 r.WeekNo,.sl (N:=U) 3 r.YearDay,.sl (N:=U) 3 r.MonthDay,.sl (N:=U) 60 r.Days,.sl (N:=U) 3 r.Hour,.sl (N:=U) 3 r.Minute,.sl (N:=U) 3 r.Second,.sl (N:=U) 3 r.SetPos,.int .i64 r.Wkst],.sl (N:=U) 3 l] _ ⟨fun _ h=>s9 hb_r h,fun _ h=>h,trivial⟩ hr
 . cases h
end Go.Proofs.YtdjfeninmbpflaaGreat
end
section
namespace Go.Proofs.YtdjfeninmbpflaaGreat
open Go Go.Wk Go.Wl Go.Rx Go.Re 
attribute [local irreducible] m7
def e01:Nat->Ann:=fun | 51=>⟨115,fun | 3=>some ⟨[2,3],[.slot 5 (.acc 3),.slot 6 (.int .i64)]⟩ | 7=>some ⟨[2,3,6],[.slot 5 (.acc 3),.slot 7 (.int .i64)]⟩ | 11=>some ⟨[2,3,6,7],[.slot 5 (.acc 3),.slot 8 (.int .i64)]⟩ | _=>none,nn⟩ | _=>⟨0,nn,nn⟩
def VxC (s:Tm) (r:Rl) (Q:List Int->Prop):Prop :=
∃ (I:List Int->Int->Prop),∃ (m:List Int->Int->Nat),I [] (0:Int)/\∀ (x:List Int) (x_1:Int),I x x_1->(x_1<24->((0:Int)<(↑r.Hour.length:Int)->r.Hour.length<=1000000)/\((0:Int)<(↑r.Hour.length:Int)/\¬w7 r.Hour x_1=true ∨ ((↑r.Hour.length:Int)=0/\r.Freq<=3)/\x_1≠s.Hour->b9 (x_1+1)/\I x (x_1+1)/\m x (x_1+1)<m x x_1)/\(¬((0:Int)<(↑r.Hour.length:Int)/\¬w7 r.Hour x_1=true ∨ ((↑r.Hour.length:Int)=0/\r.Freq<=3)/\x_1≠s.Hour)->∃ (I_1:List Int->Int->Prop),∃ (m_1:List Int->Int->Nat),I_1 x (0:Int)/\∀ (x_2:List Int) (x_3:Int),I_1 x_2 x_3->(x_3<60->((0:Int)<(↑r.Minute.length:Int)->r.Minute.length<=1000000)/\((0:Int)<(↑r.Minute.length:Int)/\¬w7 r.Minute x_3=true ∨ ((↑r.Minute.length:Int)=0/\r.Freq<=4)/\x_3≠s.Min->b9 (x_3+1)/\I_1 x_2 (x_3+1)/\m_1 x_2 (x_3+1)<m_1 x_2 x_3)/\(¬((0:Int)<(↑r.Minute.length:Int)/\¬w7 r.Minute x_3=true ∨ ((↑r.Minute.length:Int)=0/\r.Freq<=4)/\x_3≠s.Min)->∃ (I:List Int->Int->Prop),∃ (m:List Int->Int->Nat),I x_2 (0:Int)/\∀ (x:List Int) (x_4:Int),I x x_4->(x_4<60->((0:Int)<(↑r.Second.length:Int)->r.Second.length<=1000000)/\((0:Int)<(↑r.Second.length:Int)/\w7 r.Second x_4=true ∨ (↑r.Second.length:Int)=0/\((5:Int)<r.Freq ∨ x_4=s.Sec)->b9 ((3600:Int) * x_1)/\b9 ((60:Int) * x_3)/\b9 ((3600:Int) * x_1+60 * x_3)/\b9 ((3600:Int) * x_1+60 * x_3+x_4)/\(x.length+[(3600:Int) * x_1+60 * x_3+x_4].length) * (some (8:Nat)).getD (0:Nat)<=140737488355328/\b9 (x_4+1)/\I (x++[(3600:Int) * x_1+60 * x_3+x_4]) (x_4+1)/\m (x++[(3600:Int) * x_1+60 * x_3+x_4]) (x_4+1)<m x x_4)/\(¬((0:Int)<(↑r.Second.length:Int)/\w7 r.Second x_4=true ∨ (↑r.Second.length:Int)=0/\((5:Int)<r.Freq ∨ x_4=s.Sec))->b9 (x_4+1)/\I x (x_4+1)/\m x (x_4+1)<m x x_4))/\(¬x_4<60->b9 (x_3+1)/\I_1 x (x_3+1)/\m_1 x (x_3+1)<m_1 x_2 x_3)))/\(¬x_3<60->b9 (x_1+1)/\I x_2 (x_1+1)/\m x_2 (x_1+1)<m x x_1)))/\(¬x_1<24->Q x)
set_option maxHeartbeats 2000000 in
theorem pxC (s:Tm) (r:Rl) (hfw:w4 r=true):VxC s r (fun y0=>y0=A5 s r):=by
 unfold VxC
 obtain ⟨wmo,wwn,wyd,wmd,wdy,who,wmi,wse,wsp,wti⟩:=Q8 hfw
 refine ⟨fun x i=>0<=i/\i<=24/\x=S9 s r i.toNat,fun _ i=>(24-i).toNat,⟨by decide,by decide,rfl⟩,?_⟩
 rintro _ i ⟨i0,i1,rfl⟩
 refine ⟨fun hi=>⟨fun _=>by omega,fun hn=>⟨⟨by omega,by omega⟩,⟨by omega,by omega,(d3x i0 (not_not_intro hn)).symm⟩,by dsimp only; omega⟩,fun hy=>?_⟩,fun hi=>by rw [show i=24 by omega]; rfl⟩
 have l1:=a1k s r i.toNat
 refine ⟨fun x j=>0<=j/\j<=60/\x=S9 s r i.toNat++O4 s r i j.toNat,fun _ j=>(60-j).toNat,⟨by decide,by decide,(List.append_nil _).symm⟩,?_⟩
 rintro _ j ⟨j0,j1,rfl⟩
 refine ⟨fun hj=>⟨fun _=>by omega,fun hn=>⟨⟨by omega,by omega⟩,⟨by omega,by omega,by rw [d2t j0 (not_not_intro hn)]⟩,by dsimp only; omega⟩,fun hz=>?_⟩,fun hj=>⟨⟨by omega,by omega⟩,⟨by omega,by omega,by rw [d0i i0 hy,show j=60 by omega]; rfl⟩,by dsimp only; omega⟩⟩
 have l2:=a7a s r i j.toNat
 refine ⟨fun x k=>0<=k/\k<=60/\x=S9 s r i.toNat++O4 s r i j.toNat++P9 s r i j k.toNat,fun _ k=>(60-k).toNat,⟨by decide,by decide,(List.append_nil _).symm⟩,?_⟩
 rintro _ k ⟨k0,k1,rfl⟩
 have l3:=a5l s r i j k.toNat
 refine ⟨fun hk=>⟨fun _=>by omega,fun hp=>⟨⟨by omega,by omega⟩,⟨by omega,by omega⟩,⟨by omega,by omega⟩,⟨by omega,by omega⟩,?_,⟨by omega,by omega⟩,⟨by omega,by omega,by rw [c7r k0 hp]; simp only [List.append_assoc]⟩,by dsimp only; omega⟩,fun hp=>⟨⟨by omega,by omega⟩,⟨by omega,by omega,by rw [d4u k0 hp]⟩,by dsimp only; omega⟩⟩,fun hk=>⟨⟨by omega,by omega⟩,⟨by omega,by omega,by rw [c8f j0 hz,show k=60 by omega,List.append_assoc]; rfl⟩,by dsimp only; omega⟩⟩
 show ((S9 s r i.toNat++O4 s r i j.toNat++P9 s r i j k.toNat).length+1) * 8<=140737488355328
 rw [List.length_append,List.length_append]
 omega
def e1r (s:Tm) (r:Rl) (nx:Nat):CR U:=⟨[w4 r=true],[],.acc nx,[.ac 3 (A5 s r)]⟩
def cxC (a:List (SV U)) (nx:Nat):Option (CR U):=match a with | [.agg l_s,.agg l_r]=>(y25.bk (.agg l_s)).bind fun s=>(y30.bk (.agg l_r)).bind fun r=>some (e1r s r nx) | _=>none
noncomputable def NxC:Env:=NxP.addC 51 cxC
theorem b6s:j7 NxC:=b5k.addC Tryz.call51 fun (args:List (SV U)) nx (c:CR U) (h:cxC args nx=some c) hp ho=>by
 unfold cxC at h
 split at h
 . rename_i l_s l_r
   obtain ⟨s,hb_s,h⟩:=Option.bind_eq_some_iff.1 h
   obtain ⟨r,hb_r,h⟩:=Option.bind_eq_some_iff.1 h
   cases h
   exact E2.weak (b:=[.agg [.int .i64 s.Day.Year,.int .i64 s.Day.Month,.int .i64 s.Day.Date,.int .i64 s.Hour,.int .i64 s.Min,.int .i64 s.Sec,blB s.Bare,blB s.UTC],.agg [.int .i64 r.Freq,.int .i64 r.Interval,.int .i64 r.Count,.sl (N:=U) 25 r.Until,.sl (N:=U) 3 r.Month,.sl (N:=U) 3 r.WeekNo,.sl (N:=U) 3 r.YearDay,.sl (N:=U) 3 r.MonthDay,.sl (N:=U) 60 r.Days,.sl (N:=U) 3 r.Hour,.sl (N:=U) 3 r.Minute,.sl (N:=U) 3 r.Second,.sl (N:=U) 3 r.SetPos,.int .i64 r.Wkst]]) (d5n (an:=e01 51) b5k (j6 b5k o9 e01 2) Tryz.func51 (k:=.acc 3) rfl (kc (pxC s r ho.1) (by kernel_rfl))) fun ρ Z w v hr=>q9 [.agg l_s,.agg l_r] [.agg [.int .i64 s.Day.Year,.int .i64 s.Day.Month,.int .i64 s.Day.Date,.int .i64 s.Hour,.int .i64 s.Min,.int .i64 s.Sec,blB s.Bare,blB s.UTC],.agg [.int .i64 r.Freq,.int .i64 r.Interval,.int .i64 r.Count,.sl (N:=U) 25 r.Until,.sl (N:=U) 3 r.Month,.sl (N:=U) 3 r.WeekNo,.sl (N:=U) 3 r.YearDay,.sl (N:=U) 3 r.MonthDay,.sl (N:=U) 60 r.Days,.sl (N:=U) 3 r.Hour,.sl (N:=U) 3 r.Minute,.sl (N:=U) 3 r.Second,.sl (N:=U) 3 r.SetPos,.int .i64 r.Wkst]] _ ⟨fun _ h=>o7 hb_s h,fun _ h=>s9 hb_r h,trivial⟩ hr
 . cases h
def d7k:Nat->Ann:=fun | 60=>⟨74,nn,nn⟩ | _=>⟨0,nn,nn⟩
def VxB (s:Tm) (r:Rl) (k:Int) (Q:Int->Prop):Prop :=
((0:Int)<=b8 (etT s)/\b8 (etT s)<=400000000000/\(0:Int)<=r.Wkst/\r.Wkst<=6)/\b9 (k * r.Interval)/\b9 (s5 (etR r) (b8 (etT s))+k * r.Interval)/\(r.Freq=0->(j9 (Dy.mk (s5 (etR r) (b8 (etT s))+k * r.Interval) (1:Int) (1:Int))<1/\r.Freq<2 ∨ (3652059:Int)<j9 (Dy.mk (s5 (etR r) (b8 (etT s))+k * r.Interval) (1:Int) (1:Int))->Q (315537897600:Int))/\(¬(j9 (Dy.mk (s5 (etR r) (b8 (etT s))+k * r.Interval) (1:Int) (1:Int))<1/\r.Freq<2 ∨ (3652059:Int)<j9 (Dy.mk (s5 (etR r) (b8 (etT s))+k * r.Interval) (1:Int) (1:Int)))->b9 (j9 (Dy.mk (s5 (etR r) (b8 (etT s))+k * r.Interval) (1:Int) (1:Int))-1)/\b9 ((86400:Int) * (j9 (Dy.mk (s5 (etR r) (b8 (etT s))+k * r.Interval) (1:Int) (1:Int))-1))/\Q (E5 ((86400:Int) * (j9 (Dy.mk (s5 (etR r) (b8 (etT s))+k * r.Interval) (1:Int) (1:Int))-1)))))/\(¬r.Freq=0->(r.Freq=1->b9 (s5 (etR r) (b8 (etT s))+k * r.Interval-1)/\(12:Int)≠0/\b9 ((s5 (etR r) (b8 (etT s))+k * r.Interval-1).tdiv (12:Int))/\b9 (s5 (etR r) (b8 (etT s))+k * r.Interval-1)/\(12:Int)≠0/\b9 ((s5 (etR r) (b8 (etT s))+k * r.Interval-1).tmod (12:Int)+1)/\(j9 (Dy.mk ((s5 (etR r) (b8 (etT s))+k * r.Interval-1).tdiv (12:Int)) ((s5 (etR r) (b8 (etT s))+k * r.Interval-1).tmod (12:Int)+1) (1:Int))<1/\r.Freq<2 ∨ (3652059:Int)<j9 (Dy.mk ((s5 (etR r) (b8 (etT s))+k * r.Interval-1).tdiv (12:Int)) ((s5 (etR r) (b8 (etT s))+k * r.Interval-1).tmod (12:Int)+1) (1:Int))->Q (315537897600:Int))/\(¬(j9 (Dy.mk ((s5 (etR r) (b8 (etT s))+k * r.Interval-1).tdiv (12:Int)) ((s5 (etR r) (b8 (etT s))+k * r.Interval-1).tmod (12:Int)+1) (1:Int))<1/\r.Freq<2 ∨ (3652059:Int)<j9 (Dy.mk ((s5 (etR r) (b8 (etT s))+k * r.Interval-1).tdiv (12:Int)) ((s5 (etR r) (b8 (etT s))+k * r.Interval-1).tmod (12:Int)+1) (1:Int)))->b9 (j9 (Dy.mk ((s5 (etR r) (b8 (etT s))+k * r.Interval-1).tdiv (12:Int)) ((s5 (etR r) (b8 (etT s))+k * r.Interval-1).tmod (12:Int)+1) (1:Int))-1)/\b9 ((86400:Int) * (j9 (Dy.mk ((s5 (etR r) (b8 (etT s))+k * r.Interval-1).tdiv (12:Int)) ((s5 (etR r) (b8 (etT s))+k * r.Interval-1).tmod (12:Int)+1) (1:Int))-1))/\Q (E5 ((86400:Int) * (j9 (Dy.mk ((s5 (etR r) (b8 (etT s))+k * r.Interval-1).tdiv (12:Int)) ((s5 (etR r) (b8 (etT s))+k * r.Interval-1).tmod (12:Int)+1) (1:Int))-1)))))/\(¬r.Freq=1->(r.Freq=2->b9 ((7:Int) * (s5 (etR r) (b8 (etT s))+k * r.Interval))/\b9 ((7:Int) * (s5 (etR r) (b8 (etT s))+k * r.Interval)-6)/\b9 ((7:Int) * (s5 (etR r) (b8 (etT s))+k * r.Interval)-6+r.Wkst)/\((7:Int) * (s5 (etR r) (b8 (etT s))+k * r.Interval)-6+r.Wkst<1/\r.Freq<2 ∨ (3652059:Int)<(7:Int) * (s5 (etR r) (b8 (etT s))+k * r.Interval)-6+r.Wkst->Q (315537897600:Int))/\(¬((7:Int) * (s5 (etR r) (b8 (etT s))+k * r.Interval)-6+r.Wkst<1/\r.Freq<2 ∨ (3652059:Int)<(7:Int) * (s5 (etR r) (b8 (etT s))+k * r.Interval)-6+r.Wkst)->b9 ((7:Int) * (s5 (etR r) (b8 (etT s))+k * r.Interval)-6+r.Wkst-1)/\b9 ((86400:Int) * ((7:Int) * (s5 (etR r) (b8 (etT s))+k * r.Interval)-6+r.Wkst-1))/\Q (E5 ((86400:Int) * ((7:Int) * (s5 (etR r) (b8 (etT s))+k * r.Interval)-6+r.Wkst-1)))))/\(¬r.Freq=2->(r.Freq=4->b9 ((3600:Int) * (s5 (etR r) (b8 (etT s))+k * r.Interval))/\Q (E5 ((3600:Int) * (s5 (etR r) (b8 (etT s))+k * r.Interval))))/\(¬r.Freq=4->(r.Freq=5->b9 ((60:Int) * (s5 (etR r) (b8 (etT s))+k * r.Interval))/\Q (E5 ((60:Int) * (s5 (etR r) (b8 (etT s))+k * r.Interval))))/\(¬r.Freq=5->(r.Freq=6->Q (E5 (s5 (etR r) (b8 (etT s))+k * r.Interval)))/\(¬r.Freq=6->(s5 (etR r) (b8 (etT s))+k * r.Interval<1/\r.Freq<2 ∨ (3652059:Int)<s5 (etR r) (b8 (etT s))+k * r.Interval->Q (315537897600:Int))/\(¬(s5 (etR r) (b8 (etT s))+k * r.Interval<1/\r.Freq<2 ∨ (3652059:Int)<s5 (etR r) (b8 (etT s))+k * r.Interval)->b9 (s5 (etR r) (b8 (etT s))+k * r.Interval-1)/\b9 ((86400:Int) * (s5 (etR r) (b8 (etT s))+k * r.Interval-1))/\Q (E5 ((86400:Int) * (s5 (etR r) (b8 (etT s))+k * r.Interval-1))))))))))
set_option maxHeartbeats 2000000 in
theorem pxB (s:Tm) (r:Rl) (k:Int) (hs:n7 s=true) (hR:A6 r=true) (k0:0<=k) (k1:k<=40000):VxB s r k (fun y0=>y0=a0c s r k):=by
 unfold VxB a0c
 simp only [P2,V9,a0a]
 obtain ⟨t0,t1⟩:=v6 hs
 obtain ⟨f0,f1,i0,i1,c0,c1,w0,w1⟩:=(m8.1 hR).head
 obtain ⟨a0,a1,a2⟩:=a4n (r:=r) t0 t1 w0 w1
 obtain ⟨b0,b1⟩:=c06 hR k0 k1
 refine ⟨⟨t0,by omega,w0,w1⟩,⟨by omega,by omega⟩,⟨by omega,by omega⟩,?_⟩
 have h0:0<=s5 r (b8 s)+k * r.Interval:=by omega
 have h1:s5 r (b8 s)+k * r.Interval<=400000000000:=by omega
 have h2:r.Freq=1->13<=s5 r (b8 s)+k * r.Interval:=fun h=>by have:=a2 h; omega
 clear a0 a1 a2 b0 b1
 generalize s5 r (b8 s)+k * r.Interval=i at h0 h1 h2 ⊢
 unfold d6i
 have nb:∀ n:Int,((n<1/\r.Freq<2) ∨ 3652059<n->(315537897600:Int)=nbR r n)/\(¬ ((n<1/\r.Freq<2) ∨ 3652059<n)->E5 (86400 * (n-1))=nbR r n):=fun n=>by
  unfold nbR
  exact ⟨fun h=>by rw [if_pos h],fun h=>by rw [if_neg h]⟩
 refine ⟨fun h=>?_,fun g0=>⟨fun h=>?_,fun g1=>⟨fun h=>⟨⟨by omega,by omega⟩,⟨by omega,by omega⟩,⟨by omega,by omega⟩,?_⟩,fun g2=>⟨fun h=>⟨⟨by omega,by omega⟩,?_⟩,fun g4=>⟨fun h=>⟨⟨by omega,by omega⟩,?_⟩,fun g5=>⟨fun h=>?_,fun g6=>?_⟩⟩⟩⟩⟩⟩
 . have n1:=G3 ⟨i,1,1⟩
   rw [if_pos h]
   exact ⟨(nb _).1,fun hn=>⟨⟨by omega,by omega⟩,⟨by omega,by omega⟩,(nb _).2 hn⟩⟩
 . have g:=h2 h
   have e0:(i-1).tdiv 12=(i-1) / 12:=Int.tdiv_eq_ediv_of_nonneg (by omega)
   have e1:(i-1).tmod 12=(i-1) % 12:=Int.tmod_eq_emod_of_nonneg (by omega)
   have n2:=G3 ⟨(i-1) / 12,(i-1) % 12+1,1⟩
   rw [e0,e1,if_neg g0,if_pos h]
   exact ⟨⟨by omega,by omega⟩,by decide,⟨by omega,by omega⟩,⟨by omega,by omega⟩,by decide,⟨by omega,by omega⟩,(nb _).1,fun hn=>⟨⟨by omega,by omega⟩,⟨by omega,by omega⟩,(nb _).2 hn⟩⟩
 . rw [if_neg g0,if_neg g1,if_pos h]
   exact ⟨(nb _).1,fun hn=>⟨⟨by omega,by omega⟩,⟨by omega,by omega⟩,(nb _).2 hn⟩⟩
 . rw [if_neg g0,if_neg g1,if_neg g2,if_pos h]
 . rw [if_neg g0,if_neg g1,if_neg g2,if_neg g4,if_pos h]
 . rw [if_neg g0,if_neg g1,if_neg g2,if_neg g4,if_neg g5,if_pos h]
 . rw [if_neg g0,if_neg g1,if_neg g2,if_neg g4,if_neg g5,if_neg g6]
   exact ⟨(nb _).1,fun hn=>⟨⟨by omega,by omega⟩,⟨by omega,by omega⟩,(nb _).2 hn⟩⟩
noncomputable def e21 (s:Tm) (r:Rl) (k:Int):Q1 U:=⟨[n7 s=true,A6 r=true,0<=k,k<=40000],[],.int .i64 (a0c s r k)⟩
noncomputable def cxB (a:List (SV U)):Option (Q1 U):=match a with | [.agg l_s,.agg l_r,.int .i64 k]=>(y25.bk (.agg l_s)).bind fun s=>(y30.bk (.agg l_r)).bind fun r=>some (e21 s r k) | _=>none
noncomputable def NxB:Env:=NxC.addL 60 cxB
theorem d5a:j7 NxB:=b6s.addL Tryz.call60 fun (args:List (SV U)) (q:Q1 U) (h:cxB args=some q) ho=>by
 unfold cxB at h
 split at h
 . rename_i l_s l_r k
   obtain ⟨s,hb_s,h⟩:=Option.bind_eq_some_iff.1 h
   obtain ⟨r,hb_r,h⟩:=Option.bind_eq_some_iff.1 h
   cases h
   refine A3.conv (E:=NxC) (args':=[.agg [.int .i64 s.Day.Year,.int .i64 s.Day.Month,.int .i64 s.Day.Date,.int .i64 s.Hour,.int .i64 s.Min,.int .i64 s.Sec,blB s.Bare,blB s.UTC],.agg [.int .i64 r.Freq,.int .i64 r.Interval,.int .i64 r.Count,.sl 25 r.Until,.sl 3 r.Month,.sl 3 r.WeekNo,.sl 3 r.YearDay,.sl 3 r.MonthDay,.sl 60 r.Days,.sl 3 r.Hour,.sl 3 r.Minute,.sl 3 r.Second,.sl 3 r.SetPos,.int .i64 r.Wkst],.int .i64 k]) (q8 (an:=d7k 60) b6s (j6 b6s o9 d7k 2) Tryz.func60 (k:=.int .i64) trivial (kc (pxB s r k ho.1 ho.2.1 ho.2.2.1 ho.2.2.2.1) (by kernel_rfl)) 0) fun D w vs hr=>q9 [.agg l_s,.agg l_r,.int .i64 k] [.agg [.int .i64 s.Day.Year,.int .i64 s.Day.Month,.int .i64 s.Day.Date,.int .i64 s.Hour,.int .i64 s.Min,.int .i64 s.Sec,blB s.Bare,blB s.UTC],.agg [.int .i64 r.Freq,.int .i64 r.Interval,.int .i64 r.Count,.sl (N:=U) 25 r.Until,.sl (N:=U) 3 r.Month,.sl (N:=U) 3 r.WeekNo,.sl (N:=U) 3 r.YearDay,.sl (N:=U) 3 r.MonthDay,.sl (N:=U) 60 r.Days,.sl (N:=U) 3 r.Hour,.sl (N:=U) 3 r.Minute,.sl (N:=U) 3 r.Second,.sl (N:=U) 3 r.SetPos,.int .i64 r.Wkst],.int .i64 k] _ ⟨fun _ h=>o7 hb_s h,fun _ h=>s9 hb_r h,fun _ h=>h,trivial⟩ hr
 . cases h
noncomputable def d9a:Env:=NxB.addI 61 Tryz.f61
theorem a9f:j7 d9a:=d5a.addI Tryz.call61 Tryz.func61
def e1d:Nat->Ann:=fun | 37=>⟨121,fun | 11=>some ⟨[2,4,8,10,11,12],[.slot 13 (.int .i64),.slot 14 (.int .i64),.slot 15 (.acc 3),.slot 16 (.int .i64)]⟩ | _=>none,fun | 10=>some ⟨[2,4,8,10,11,12,13,14],[.slot 15 (.acc 3)]⟩ | 18=>some ⟨[2,4,8,10,11,12,13,15,16,17],[.slot 14 (.int .i64)]⟩ | _=>none⟩ | 61=>⟨170,fun | 41=>some ⟨[4,15,16],[.slot 13 (.acc 3),.slot 14 (.acc 3),.slot 22 (.int .i64)]⟩ | 20=>some ⟨[2,3,4,10,11,12],[.slot 13 (.acc 3),.slot 14 (.acc 3),.slot 15 (.acc 3),.slot 16 (.int .i64),.slot 17 (.int .i64)]⟩ | 24=>some ⟨[2,3,4,10,11,12,17],[.slot 13 (.acc 3),.slot 14 (.acc 3),.slot 15 (.acc 3),.slot 16 (.int .i64),.slot 18 (.int .i64)]⟩ | 32=>some ⟨[2,3,4,10,11,12,15,16,17,18,19,20],[.slot 13 (.acc 3),.slot 14 (.acc 3),.slot 21 (.int .i64)]⟩ | _=>none,fun | 5=>some ⟨[2,3,4,8],[.slot 9 (.int .i64)]⟩ | 8=>some ⟨[2,3,4,8,9],[.slot 10 (.int .i64)]⟩ | 10=>some ⟨[2,3,4,8,9],[.slot 10 (.int .i64)]⟩ | 12=>some ⟨[2,3,4,8,10],[.slot 9 (.int .i64)]⟩ | 15=>some ⟨[2,3,4,8],[.slot 9 (.int .i64),.slot 10 (.int .i64)]⟩ | _=>none⟩ | _=>⟨0,nn,nn⟩
def VxA (s:Tm) (r:Rl) (to:Int) (Q:List Int->Bool->Prop):Prop :=
n7 (etT s)=true/\A6 (etR r)=true/\(0:Int)<=40000/\(40000:Int)<=40000/\(a0c (etT s) (etR r) (40000:Int)<to/\¬(↑r.Until.length:Int)=0->(0:Int)<=0)/\(a0c (etT s) (etR r) (40000:Int)<to/\¬(↑r.Until.length:Int)=0->(0:Int)<(↑r.Until.length:Int))/\((a0c (etT s) (etR r) (40000:Int)<to/\¬(↑r.Until.length:Int)=0->b9 (ix r.Until (0:Int)).Day.Year)->(a0c (etT s) (etR r) (40000:Int)<to/\¬(↑r.Until.length:Int)=0->b9 (ix r.Until (0:Int)).Day.Month)->(a0c (etT s) (etR r) (40000:Int)<to/\¬(↑r.Until.length:Int)=0->b9 (ix r.Until (0:Int)).Day.Date)->(a0c (etT s) (etR r) (40000:Int)<to/\¬(↑r.Until.length:Int)=0->b9 (ix r.Until (0:Int)).Hour)->(a0c (etT s) (etR r) (40000:Int)<to/\¬(↑r.Until.length:Int)=0->b9 (ix r.Until (0:Int)).Min)->(a0c (etT s) (etR r) (40000:Int)<to/\¬(↑r.Until.length:Int)=0->b9 (ix r.Until (0:Int)).Sec)->b9 (j9 (Dy.mk s.Day.Year (1:Int) (1:Int))-7)/\∃ (J:Int->Prop),((j9 (Dy.mk s.Day.Year (1:Int) (1:Int))-7<1->J (1:Int))/\(¬j9 (Dy.mk s.Day.Year (1:Int) (1:Int))-7<1->J (j9 (Dy.mk s.Day.Year (1:Int) (1:Int))-7)))/\∀ (x:Int),J x->∃ (J:Int->Prop),((r.Freq=0->J (400:Int))/\(¬r.Freq=0->J (8:Int)))/\∀ (x_1:Int),J x_1->∃ (J:Int->Prop),((r.Freq=1->J (40:Int))/\(¬r.Freq=1->J x_1))/\∀ (x_2:Int),J x_2->∃ (J:Int->Prop),(((0:Int)<r.Freq->b9 (j9 (etD s.Day)-45))/\((0:Int)<r.Freq/\x<j9 (etD s.Day)-45->b9 (j9 (etD s.Day)-45)/\J (j9 (etD s.Day)-45))/\(¬((0:Int)<r.Freq/\x<j9 (etD s.Day)-45)->J x))/\∀ (x:Int),J x->∃ (J:Int->Int->Prop),(((3:Int)<=r.Freq->J (j9 (etD s.Day)) (1:Int))/\(¬(3:Int)<=r.Freq->J x x_2))/\∀ (x x_3:Int),J x x_3->w4 (etR r)=true/\(0:Int)<=b8 (etT s)/\b8 (etT s)<=400000000000/\(0:Int)<=r.Wkst/\r.Wkst<=6/\∃ (I:List Int->List Int->List Int->Int->Int->Prop),∃ (m:List Int->List Int->List Int->Int->Int->Nat),I [] [] [] (-1:Int) x/\∀ (x x_4 x_5:List Int) (x_6 x_7:Int),I x x_4 x_5 x_6 x_7->(x_7<=3652059->b9 (x_7-1))/\(x_7<=3652059->b9 ((86400:Int) * (x_7-1)))/\(x_7<=3652059->b9 ((86400:Int) * x_3))/\(x_7<=3652059->b9 (to+86400 * x_3))/\(x_7<=3652059/\(86400:Int) * (x_7-1)<to+86400 * x_3->w4 (etR r)=true/\(1:Int)<=x_7/\x_7<=3652059/\A6 (etR r)=true/\(¬N7 (etT s) (etR r) (j9 (etD s.Day)) x_7=true->b9 (x_7+1)/\I x x_4 x_5 x_6 (x_7+1)/\m x x_4 x_5 x_6 (x_7+1)<m x x_4 x_5 x_6 x_7)/\(¬¬N7 (etT s) (etR r) (j9 (etD s.Day)) x_7=true->∃ (I_1:List Int->List Int->List Int->Int->Int->Prop),∃ (m_1:List Int->List Int->List Int->Int->Int->Nat),I_1 x x_4 x_5 x_6 (0:Int)/\∀ (x_8 x_9 x_10:List Int) (x_11 x_12:Int),I_1 x_8 x_9 x_10 x_11 x_12->(x_12<(↑(A5 (etT s) (etR r)).length:Int)->b9 (x_7-1)/\b9 ((86400:Int) * (x_7-1))/\(0:Int)<=x_12/\x_12<(↑(A5 (etT s) (etR r)).length:Int)/\(b9 (ix (A5 (etT s) (etR r)) x_12)->b9 ((86400:Int) * (x_7-1)+ix (A5 (etT s) (etR r)) x_12)/\(0:Int)<=(86400:Int) * (x_7-1)+ix (A5 (etT s) (etR r)) x_12/\(86400:Int) * (x_7-1)+ix (A5 (etT s) (etR r)) x_12<=400000000000/\(0:Int)<=r.Wkst/\r.Wkst<=6/\b9 (s5 (etR r) ((86400:Int) * (x_7-1)+ix (A5 (etT s) (etR r)) x_12)-s5 (etR r) (b8 (etT s)))/\(¬s5 (etR r) ((86400:Int) * (x_7-1)+ix (A5 (etT s) (etR r)) x_12)-s5 (etR r) (b8 (etT s))<0->r.Interval≠0)/\(s5 (etR r) ((86400:Int) * (x_7-1)+ix (A5 (etT s) (etR r)) x_12)-s5 (etR r) (b8 (etT s))<0 ∨ (s5 (etR r) ((86400:Int) * (x_7-1)+ix (A5 (etT s) (etR r)) x_12)-s5 (etR r) (b8 (etT s))).tmod r.Interval≠0->b9 (x_12+1)/\I_1 x_8 x_9 x_10 x_11 (x_12+1)/\m_1 x_8 x_9 x_10 x_11 (x_12+1)<m_1 x_8 x_9 x_10 x_11 x_12)/\(¬(s5 (etR r) ((86400:Int) * (x_7-1)+ix (A5 (etT s) (etR r)) x_12)-s5 (etR r) (b8 (etT s))<0 ∨ (s5 (etR r) ((86400:Int) * (x_7-1)+ix (A5 (etT s) (etR r)) x_12)-s5 (etR r) (b8 (etT s))).tmod r.Interval≠0)->(s5 (etR r) ((86400:Int) * (x_7-1)+ix (A5 (etT s) (etR r)) x_12)-s5 (etR r) (b8 (etT s))≠x_11->w4 (etR r)=true/\x_10.length<=400000000000/\∃ (I:List Int->List Int->Int->Prop),∃ (m:List Int->List Int->Int->Nat),I x_8 x_9 (0:Int)/\∀ (x x_13:List Int) (x_14:Int),I x x_13 x_14->(x_14<(↑(s7 (etR r) x_10).length:Int)->(0:Int)<=x_14/\x_14<(↑(s7 (etR r) x_10).length:Int)/\(b9 (ix (s7 (etR r) x_10) x_14)->(x.length+[ix (s7 (etR r) x_10) x_14].length) * (some (8:Nat)).getD (0:Nat)<=140737488355328/\r.Interval≠0/\b9 (x_11.tdiv r.Interval)/\(x_13.length+[x_11.tdiv r.Interval].length) * (some (8:Nat)).getD (0:Nat)<=140737488355328/\b9 (x_14+1)/\I (x++[ix (s7 (etR r) x_10) x_14]) (x_13++[x_11.tdiv r.Interval]) (x_14+1)/\m (x++[ix (s7 (etR r) x_10) x_14]) (x_13++[x_11.tdiv r.Interval]) (x_14+1)<m x x_13 x_14))/\(¬x_14<(↑(s7 (etR r) x_10).length:Int)->[(86400:Int) * (x_7-1)+ix (A5 (etT s) (etR r)) x_12].length * (some (8:Nat)).getD (0:Nat)<=140737488355328/\b9 (x_12+1)/\I_1 x x_13 [(86400:Int) * (x_7-1)+ix (A5 (etT s) (etR r)) x_12] (s5 (etR r) ((86400:Int) * (x_7-1)+ix (A5 (etT s) (etR r)) x_12)-s5 (etR r) (b8 (etT s))) (x_12+1)/\m_1 x x_13 [(86400:Int) * (x_7-1)+ix (A5 (etT s) (etR r)) x_12] (s5 (etR r) ((86400:Int) * (x_7-1)+ix (A5 (etT s) (etR r)) x_12)-s5 (etR r) (b8 (etT s))) (x_12+1)<m_1 x_8 x_9 x_10 x_11 x_12))/\(¬s5 (etR r) ((86400:Int) * (x_7-1)+ix (A5 (etT s) (etR r)) x_12)-s5 (etR r) (b8 (etT s))≠x_11->(x_10.length+[(86400:Int) * (x_7-1)+ix (A5 (etT s) (etR r)) x_12].length) * (some (8:Nat)).getD (0:Nat)<=140737488355328/\b9 (x_12+1)/\I_1 x_8 x_9 (x_10++[(86400:Int) * (x_7-1)+ix (A5 (etT s) (etR r)) x_12]) x_11 (x_12+1)/\m_1 x_8 x_9 (x_10++[(86400:Int) * (x_7-1)+ix (A5 (etT s) (etR r)) x_12]) x_11 (x_12+1)<m_1 x_8 x_9 x_10 x_11 x_12))))/\(¬x_12<(↑(A5 (etT s) (etR r)).length:Int)->b9 (x_7+1)/\I x_8 x_9 x_10 x_11 (x_7+1)/\m x_8 x_9 x_10 x_11 (x_7+1)<m x x_4 x_5 x_6 x_7)))/\(¬(x_7<=3652059/\(86400:Int) * (x_7-1)<to+86400 * x_3)->w4 (etR r)=true/\x_5.length<=400000000000/\∃ (I:List Int->List Int->Int->Prop),∃ (m:List Int->List Int->Int->Nat),I x x_4 (0:Int)/\∀ (x x_8:List Int) (x_9:Int),I x x_8 x_9->(x_9<(↑(s7 (etR r) x_5).length:Int)->(0:Int)<=x_9/\x_9<(↑(s7 (etR r) x_5).length:Int)/\(b9 (ix (s7 (etR r) x_5) x_9)->(x.length+[ix (s7 (etR r) x_5) x_9].length) * (some (8:Nat)).getD (0:Nat)<=140737488355328/\r.Interval≠0/\b9 (x_6.tdiv r.Interval)/\(x_8.length+[x_6.tdiv r.Interval].length) * (some (8:Nat)).getD (0:Nat)<=140737488355328/\b9 (x_9+1)/\I (x++[ix (s7 (etR r) x_5) x_9]) (x_8++[x_6.tdiv r.Interval]) (x_9+1)/\m (x++[ix (s7 (etR r) x_5) x_9]) (x_8++[x_6.tdiv r.Interval]) (x_9+1)<m x x_8 x_9))/\(¬x_9<(↑(s7 (etR r) x_5).length:Int)->∃ (J:List Int->Prop),((b8 (etT s)<to->[b8 (etT s)].length * (some (8:Nat)).getD (0:Nat)<=140737488355328/\J [b8 (etT s)])/\(¬b8 (etT s)<to->J []))/\∀ (x_10:List Int),J x_10->∃ (I:Int->Int->List Int->Int->Prop),∃ (m:Int->Int->List Int->Int->Nat),I (1:Int) (1:Int) x_10 (0:Int)/\∀ (x_11 x_12:Int) (x_13:List Int) (x_14:Int),I x_11 x_12 x_13 x_14->(x_14<(↑x.length:Int)->(0:Int)<=x_14/\x_14<(↑x.length:Int)/\(b9 (ix x x_14)->(¬ix x x_14<=b8 (etT s)/\(0:Int)<(↑r.Until.length:Int)->(0:Int)<=0)/\(¬ix x x_14<=b8 (etT s)/\(0:Int)<(↑r.Until.length:Int)->(0:Int)<(↑r.Until.length:Int))/\((¬ix x x_14<=b8 (etT s)/\(0:Int)<(↑r.Until.length:Int)->b9 (ix r.Until (0:Int)).Day.Year)->(¬ix x x_14<=b8 (etT s)/\(0:Int)<(↑r.Until.length:Int)->b9 (ix r.Until (0:Int)).Day.Month)->(¬ix x x_14<=b8 (etT s)/\(0:Int)<(↑r.Until.length:Int)->b9 (ix r.Until (0:Int)).Day.Date)->(¬ix x x_14<=b8 (etT s)/\(0:Int)<(↑r.Until.length:Int)->b9 (ix r.Until (0:Int)).Hour)->(¬ix x x_14<=b8 (etT s)/\(0:Int)<(↑r.Until.length:Int)->b9 (ix r.Until (0:Int)).Min)->(¬ix x x_14<=b8 (etT s)/\(0:Int)<(↑r.Until.length:Int)->b9 (ix r.Until (0:Int)).Sec)->((ix x x_14<=b8 (etT s) ∨ (0:Int)<(↑r.Until.length:Int)/\b8 (etT (ix r.Until (0:Int)))<ix x x_14) ∨ (0:Int)<r.Count/\r.Count<=x_11->b9 (x_14+1)/\I x_11 x_12 x_13 (x_14+1)/\m x_11 x_12 x_13 (x_14+1)<m x_11 x_12 x_13 x_14)/\(¬((ix x x_14<=b8 (etT s) ∨ (0:Int)<(↑r.Until.length:Int)/\b8 (etT (ix r.Until (0:Int)))<ix x x_14) ∨ (0:Int)<r.Count/\r.Count<=x_11)->b9 (x_11+1)/\∃ (J:Int->Prop),((0:Int)<=x_14/\x_14<(↑x_8.length:Int)/\(b9 (ix x_8 x_14)->(ix x_8 x_14<40000->b9 (x_12+1)/\J (x_12+1))/\(¬ix x_8 x_14<40000->J x_12)))/\∀ (x_15:Int),J x_15->(ix x x_14<to->(x_13.length+[ix x x_14].length) * (some (8:Nat)).getD (0:Nat)<=140737488355328/\b9 (x_14+1)/\I (x_11+1) x_15 (x_13++[ix x x_14]) (x_14+1)/\m (x_11+1) x_15 (x_13++[ix x x_14]) (x_14+1)<m x_11 x_12 x_13 x_14)/\(¬ix x x_14<to->b9 (x_14+1)/\I (x_11+1) x_15 x_13 (x_14+1)/\m (x_11+1) x_15 x_13 (x_14+1)<m x_11 x_12 x_13 x_14)))))/\(¬x_14<(↑x.length:Int)->((0:Int)<r.Count/\r.Count<=x_12->Q x_13 false)/\(¬((0:Int)<r.Count/\r.Count<=x_12)->Q x_13 (decide (a0c (etT s) (etR r) (40000:Int)<to/\((↑r.Until.length:Int)=0 ∨ a0c (etT s) (etR r) (40000:Int)<=b8 (etT (ix r.Until (0:Int)))))))))))
set_option maxHeartbeats 2000000 in
theorem pxA (s:Tm) (r:Rl) (to:Int) (hfw:w4 r=true) (hft:A0 s r=true) (hto:0<=to) (hto1:to<=400000000000):VxA s r to (fun y0 y1=>y0=(allS s r to).1/\y1=(allS s r to).2):=by
 unfold VxA
 simp only [P2,V9,a0a]
 have hF:p9 s r:=G7.1 hft
 have hR:=hF.rr
 obtain ⟨s0,s1⟩:=v6 hF.rt
 obtain ⟨f0,f1,i0,i1,c0,c1,w0,w1⟩:=(m8.1 hR).head
 have nY:=G3 ⟨s.Day.Year,1,1⟩
 have nS:=G3 s.Day
 have nP:1<=j9 s.Day:=c89 hF.rt
 have cl:=c0b s r
 refine ⟨hF.rt,hR,by decide,by decide,fun _=>by decide,fun h=>by omega,fun _ _ _ _ _ _=>?_⟩
 refine ⟨by omega,fun x=>x=(if j9 ⟨s.Day.Year,1,1⟩-7<1 then 1 else j9 ⟨s.Day.Year,1,1⟩-7),⟨fun h=>by rw [if_pos h],fun h=>by rw [if_neg h]⟩,fun y hy=>?_⟩
 refine ⟨fun x=>x=(if r.Freq=0 then 400 else 8),⟨fun h=>by rw [if_pos h],fun h=>by rw [if_neg h]⟩,fun d hd=>?_⟩
 refine ⟨fun x=>x=(if r.Freq=1 then 40 else d),⟨fun h=>by rw [if_pos h],fun h=>by rw [if_neg h]⟩,fun e he=>?_⟩
 refine ⟨fun x=>x=(if 0<r.Freq/\y<j9 s.Day-45 then j9 s.Day-45 else y),⟨fun _=>by omega,fun h=>⟨by omega,by rw [if_pos h]⟩,fun h=>by rw [if_neg h]⟩,fun z hz=>?_⟩
 refine ⟨fun a b=>a=G9 s r/\b=a2m r,⟨fun h=>⟨by unfold G9; dsimp only; rw [if_pos h],by unfold a2m; rw [if_pos h]⟩,fun h=>⟨by unfold G9; dsimp only; rw [if_neg h,hz,hy],by unfold a2m; rw [if_neg h,he,hd]⟩⟩,?_⟩
 rintro A D ⟨hA,hD⟩
 have hA1:1<=A/\A<=3652059:=by rw [hA]; exact c0c nY nS nP
 have hD1:1<=D/\D<=400:=by rw [hD]; unfold a2m; split <;> (try split) <;> (try split) <;> omega
 refine ⟨hfw,by omega,by omega,w0,w1,fun T C run now n=>WhI s r to A D ⟨T,C,run,now⟩ n,fun _ _ _ _ n=>(3652060-n).toNat,WhI.init hA1,?_⟩
 intro T C run now n hI
 obtain ⟨n0,n1,now0,now1,l1,l2,hw⟩:=hI.rg
 refine ⟨fun _=>by omega,fun _=>by omega,fun _=>by omega,fun _=>by omega,fun hn=>⟨hfw,by omega,hn.1,hR,fun hd=>⟨by omega,hI.no hd hn,by dsimp only; omega⟩,fun hd=>?_⟩,fun hn=>?_⟩
 . have hd:=Classical.not_not.1 hd
   refine ⟨fun T C run now i=>WdI s r A n ⟨T,C,run,now⟩ i,fun _ _ _ _ i=>((A5 s r).length-i).toNat,hI.day,?_⟩
   intro T2 C2 run2 now2 i hJ
   obtain ⟨j0,j1,m0,m1,k1,k2⟩:=hJ.rg hA1.1 n1
   refine ⟨fun hi=>?_,fun hi=>⟨by omega,hJ.fin hI hn hi hd,by dsimp only; omega⟩⟩
   have hc:=d4c j0 hi
   have ht:=a4n (r:=r) (t:=86400 * (n-1)+ix (A5 s r) i) (by omega) (by omega) w0 w1
   have hs:=a4n (r:=r) s0 s1 w0 w1
   refine ⟨by omega,by omega,j0,hi,fun _=>⟨by omega,by omega,by omega,w0,w1,by omega,fun _=>by omega,fun ho=>⟨by omega,hJ.out hi ho,by dsimp only; omega⟩,fun ho=>⟨fun hk=>⟨hfw,by omega,?_⟩,fun hk=>⟨?_,by omega,hJ.on hi ho hk,by dsimp only; omega⟩⟩⟩⟩
   . have hp:=a1z (r:=r) (l:=run2)
     have td:=b8v (a:=now2) m0 m1 i0
     refine ⟨fun X Y j=>FlI r T2 C2 run2 now2 X Y j,fun _ _ j=>((s7 r run2).length-j).toNat,FlI.init,?_⟩
     intro X Y j hK
     have q0:=hK.j0
     have q1:=hK.j1
     have q2:=hK.lx
     have q3:=hK.ly
     refine ⟨fun hj=>⟨q0,hj,fun _=>⟨?_,by omega,by omega,?_,by omega,hK.step hj,by dsimp only; omega⟩⟩,fun hj=>⟨by show 1 * 8<=140737488355328; omega,by omega,hJ.new hi ho hk (by unfold D6; omega) (hK.fin hj),by dsimp only; omega⟩⟩
     . show (X.length+1) * 8<=140737488355328
       omega
     . show (Y.length+1) * 8<=140737488355328
       omega
   . show (run2.length+1) * 8<=140737488355328
     omega
 . have hp:=a1z (r:=r) (l:=run)
   have td:=b8v (a:=now) now0 now1 i0
   refine ⟨hfw,by omega,fun X Y j=>FlI r T C run now X Y j,fun _ _ j=>((s7 r run).length-j).toNat,FlI.init,?_⟩
   intro X Y j hK
   have q0:=hK.j0
   have q1:=hK.j1
   have q2:=hK.lx
   have q3:=hK.ly
   refine ⟨fun hj=>⟨q0,hj,fun _=>⟨?_,by omega,by omega,?_,by omega,hK.step hj,by dsimp only; omega⟩⟩,fun hj=>?_⟩
   . show (X.length+1) * 8<=140737488355328
     omega
   . show (Y.length+1) * 8<=140737488355328
     omega
   . have hx:=hK.fin hj
     have hq:=hI.fin hA hD hn
     have hsm:=hI.same
     have eX:X=(L0 s r to).1:=hx.1.trans (congrArg Prod.fst hq)
     have eY:Y=(L0 s r to).2:=hx.2.trans (congrArg Prod.snd hq)
     refine ⟨fun o=>o=(if b8 s<to then [b8 s] else []),⟨fun h=>⟨by show 1 * 8<=140737488355328; omega,by rw [if_pos h]⟩,fun h=>by rw [if_neg h]⟩,fun o ho=>?_⟩
     refine ⟨fun n k out i=>AlI s r to X Y n k out i,fun _ _ _ i=>((X.length:Int)-i).toNat,AlI.init ho,?_⟩
     intro m k out i hL
     have a0:=hL.i0
     have a1:=hL.i1
     have b0:=hL.n0
     have b1:=hL.k0
     have b2:=hL.o
     refine ⟨fun hi=>⟨a0,hi,fun _=>⟨fun _=>by decide,fun h=>h.2,fun _ _ _ _ _ _=>⟨fun ho=>⟨by omega,hL.off hi ho,by dsimp only; omega⟩,fun ho=>⟨by omega,fun q=>q=(if ix Y i<40000 then k+1 else k),⟨a0,by omega,fun _=>⟨fun h=>⟨by omega,by rw [if_pos h]⟩,fun h=>by rw [if_neg h]⟩⟩,fun q hq=>⟨fun h=>⟨?_,by omega,hL.on hi ho hq (by rw [if_pos h]),by dsimp only; omega⟩,fun h=>⟨by omega,hL.on hi ho hq (by rw [if_neg h]),by dsimp only; omega⟩⟩⟩⟩⟩⟩,fun hi=>?_⟩
     . show (out.length+1) * 8<=140737488355328
       omega
     . have he:(⟨m,k,out⟩:Al)=alS s r to:=by
         unfold alS
         rw [<- eX,<- eY,hL.e,show i.toNat=X.length by omega]
       have e1:out=(allS s r to).1:=congrArg Al.out he
       have e2:k=(alS s r to).k:=congrArg Al.k he
       refine ⟨fun h=>⟨e1,?_⟩,fun h=>⟨e1,?_⟩⟩
       . show false=a5o s r to (alS s r to).k
         unfold a5o
         rw [<- e2,if_pos h]
       . show _=a5o s r to (alS s r to).k
         unfold a5o
         rw [<- e2,if_neg h]
def e2h (s:Tm) (r:Rl) (to:Int) (nx:Nat):CR U:=⟨[w4 r=true,A0 s r=true,0<=to,to<=400000000000],[],.tup [.acc nx,blB ((allS s r to).2)],[.ac 3 ((allS s r to).1)]⟩
def cxA (a:List (SV U)) (nx:Nat):Option (CR U):=match a with | [.agg l_s,.agg l_r,.int .i64 to]=>(y25.bk (.agg l_s)).bind fun s=>(y30.bk (.agg l_r)).bind fun r=>some (e2h s r to nx) | _=>none
noncomputable def NxA:Env:=d9a.addC 37 cxA
theorem b7p:j7 NxA:=a9f.addC Tryz.call37 fun (args:List (SV U)) nx (c:CR U) (h:cxA args nx=some c) hp ho=>by
 unfold cxA at h
 split at h
 . rename_i l_s l_r to
   obtain ⟨s,hb_s,h⟩:=Option.bind_eq_some_iff.1 h
   obtain ⟨r,hb_r,h⟩:=Option.bind_eq_some_iff.1 h
   cases h
   exact E2.weak (b:=[.agg [.int .i64 s.Day.Year,.int .i64 s.Day.Month,.int .i64 s.Day.Date,.int .i64 s.Hour,.int .i64 s.Min,.int .i64 s.Sec,blB s.Bare,blB s.UTC],.agg [.int .i64 r.Freq,.int .i64 r.Interval,.int .i64 r.Count,.sl (N:=U) 25 r.Until,.sl (N:=U) 3 r.Month,.sl (N:=U) 3 r.WeekNo,.sl (N:=U) 3 r.YearDay,.sl (N:=U) 3 r.MonthDay,.sl (N:=U) 60 r.Days,.sl (N:=U) 3 r.Hour,.sl (N:=U) 3 r.Minute,.sl (N:=U) 3 r.Second,.sl (N:=U) 3 r.SetPos,.int .i64 r.Wkst],.int .i64 to]) (c7d (an:=e1d 37) a9f (j6 a9f o9 e1d 2) Tryz.func37 (k1:=.acc 3) (k2:=.bool) rfl rfl (kc (pxA s r to ho.1 ho.2.1 ho.2.2.1 ho.2.2.2.1) (by kernel_rfl))) fun ρ Z w v hr=>q9 [.agg l_s,.agg l_r,.int .i64 to] [.agg [.int .i64 s.Day.Year,.int .i64 s.Day.Month,.int .i64 s.Day.Date,.int .i64 s.Hour,.int .i64 s.Min,.int .i64 s.Sec,blB s.Bare,blB s.UTC],.agg [.int .i64 r.Freq,.int .i64 r.Interval,.int .i64 r.Count,.sl (N:=U) 25 r.Until,.sl (N:=U) 3 r.Month,.sl (N:=U) 3 r.WeekNo,.sl (N:=U) 3 r.YearDay,.sl (N:=U) 3 r.MonthDay,.sl (N:=U) 60 r.Days,.sl (N:=U) 3 r.Hour,.sl (N:=U) 3 r.Minute,.sl (N:=U) 3 r.Second,.sl (N:=U) 3 r.SetPos,.int .i64 r.Wkst],.int .i64 to] _ ⟨fun _ h=>o7 hb_s h,fun _ h=>s9 hb_r h,fun _ h=>h,trivial⟩ hr
 . cases h
def e18:Nat->Ann:=fun | 14=>⟨63,fun | 8=>some ⟨[4,6,10],[.slot 12 (.acc 25),.slot 13 (.int .i64)]⟩ | _=>none,nn⟩ | _=>⟨0,nn,nn⟩
def VxE (s:Tm) (r:Rl) (a:Tm) (b:Tm) (Q:List Tm->Int->Prop):Prop :=
w4 (etR r)=true/\((¬A0 (etT s) (etR r)=true ∨ ¬n7 (etT a)=true) ∨ ¬n7 (etT b)=true->Q [] (2:Int))/\(¬((¬A0 (etT s) (etR r)=true ∨ ¬n7 (etT a)=true) ∨ ¬n7 (etT b)=true)->(w4 (etR r)=true/\A0 (etT s) (etR r)=true/\(0:Int)<=b8 (etT b)/\b8 (etT b)<=400000000000)/\((Re.allS (etT s) (etR r) (b8 (etT b))).snd=true->Q [] (5:Int))/\(¬(Re.allS (etT s) (etR r) (b8 (etT b))).snd=true->∃ (I:List Tm->Int->Prop),∃ (m:List Tm->Int->Nat),I [] (0:Int)/\∀ (x:List Tm) (x_1:Int),I x x_1->(x_1<(↑(Re.allS (etT s) (etR r) (b8 (etT b))).fst.length:Int)->((0:Int)<=x_1/\x_1<(↑(Re.allS (etT s) (etR r) (b8 (etT b))).fst.length:Int))/\(b9 (ix (Re.allS (etT s) (etR r) (b8 (etT b))).fst x_1)->(b8 (etT a)<=ix (Re.allS (etT s) (etR r) (b8 (etT b))).fst x_1->((0:Int)<=x_1/\x_1<(↑(Re.allS (etT s) (etR r) (b8 (etT b))).fst.length:Int))/\(b9 (ix (Re.allS (etT s) (etR r) (b8 (etT b))).fst x_1)->(x.length+[etT (atS (ix (Re.allS (etT s) (etR r) (b8 (etT b))).fst x_1) (etT s))].length) * (some (56:Nat)).getD (0:Nat)<=140737488355328)/\(b9 (ix (Re.allS (etT s) (etR r) (b8 (etT b))).fst x_1)->b9 (x_1+1)/\I (x++[etT (atS (ix (Re.allS (etT s) (etR r) (b8 (etT b))).fst x_1) (etT s))]) (x_1+1)/\m (x++[etT (atS (ix (Re.allS (etT s) (etR r) (b8 (etT b))).fst x_1) (etT s))]) (x_1+1)<m x x_1))/\(¬b8 (etT a)<=ix (Re.allS (etT s) (etR r) (b8 (etT b))).fst x_1->b9 (x_1+1)/\I x (x_1+1)/\m x (x_1+1)<m x x_1)))/\(¬x_1<(↑(Re.allS (etT s) (etR r) (b8 (etT b))).fst.length:Int)->((1000:Int)<(↑x.length:Int)->Q [] (16:Int))/\(¬(1000:Int)<(↑x.length:Int)->Q x (0:Int)))))
set_option maxHeartbeats 2000000 in
theorem pxE (s:Tm) (r:Rl) (a:Tm) (b:Tm) (hfw:w4 r=true):VxE s r a b (fun y0 y1=>y0=(b7e s r a b).1/\y1=(b7e s r a b).2):=by
 unfold VxE
 simp only [P2,V9,a0a]
 refine ⟨hfw,fun h=>?_,fun h=>?_⟩
 . unfold b7e
   rw [if_pos (show b6w s r a b from h)]
   exact ⟨rfl,rfl⟩
 have hft:A0 s r=true:=Classical.not_not.1 fun hn=>h (.inl (.inl hn))
 have hb:n7 b=true:=Classical.not_not.1 fun hn=>h (.inr hn)
 obtain ⟨b0,b1⟩:=v6 hb
 have hl:=b99 (s:=s) (r:=r) (to:=b8 b)
 refine ⟨⟨hfw,hft,b0,by omega⟩,fun hm=>?_,fun hm=>?_⟩
 . unfold b7e
   rw [if_neg (show ¬ b6w s r a b from h),if_pos hm]
   exact ⟨rfl,rfl⟩
 refine ⟨fun x i=>ExI s a (allS s r (b8 b)).1 x i,fun _ i=>(((allS s r (b8 b)).1.length:Int)-i).toNat,ExI.init,?_⟩
 intro x i hI
 have a0:=hI.i0
 have a1:=hI.i1
 have a2:=hI.lx
 refine ⟨fun hi=>⟨⟨a0,hi⟩,fun _=>⟨fun hy=>⟨⟨a0,hi⟩,fun _=>?_,fun _=>⟨by omega,hI.yes hi hy,by dsimp only; omega⟩⟩,fun hy=>⟨by omega,hI.no hi hy,by dsimp only; omega⟩⟩⟩,fun hi=>?_⟩
 . show (x.length+1) * 56<=140737488355328
   omega
 have e:=hI.fin hi
 unfold b7e
 rw [if_neg (show ¬ b6w s r a b from h),if_neg hm,<- e]
 exact ⟨fun hx=>by rw [if_pos hx]; exact ⟨rfl,rfl⟩,fun hx=>by rw [if_neg hx]; exact ⟨rfl,rfl⟩⟩
noncomputable def e2x (s:Tm) (r:Rl) (a:Tm) (b:Tm) (nx:Nat):CR U:=⟨[w4 r=true],[],.tup [.acc nx,.int .i64 ((b7e s r a b).2)],[.ac 25 ((b7e s r a b).1)]⟩
noncomputable def cxE (a:List (SV U)) (nx:Nat):Option (CR U):=match a with | [.agg l_s,.agg l_r,.agg l_a,.agg l_b]=>(y25.bk (.agg l_s)).bind fun s=>(y30.bk (.agg l_r)).bind fun r=>(y25.bk (.agg l_a)).bind fun a=>(y25.bk (.agg l_b)).bind fun b=>some (e2x s r a b nx) | _=>none
noncomputable def NxE:Env:=NxA.addC 14 cxE
theorem b6p:j7 NxE:=b7p.addC Tryz.call14 fun (args:List (SV U)) nx (c:CR U) (h:cxE args nx=some c) hp ho=>by
 unfold cxE at h
 split at h
 . rename_i l_s l_r l_a l_b
   obtain ⟨s,hb_s,h⟩:=Option.bind_eq_some_iff.1 h
   obtain ⟨r,hb_r,h⟩:=Option.bind_eq_some_iff.1 h
   obtain ⟨a,hb_a,h⟩:=Option.bind_eq_some_iff.1 h
   obtain ⟨b,hb_b,h⟩:=Option.bind_eq_some_iff.1 h
   cases h
   exact E2.weak (b:=[.agg [.int .i64 s.Day.Year,.int .i64 s.Day.Month,.int .i64 s.Day.Date,.int .i64 s.Hour,.int .i64 s.Min,.int .i64 s.Sec,blB s.Bare,blB s.UTC],.agg [.int .i64 r.Freq,.int .i64 r.Interval,.int .i64 r.Count,.sl (N:=U) 25 r.Until,.sl (N:=U) 3 r.Month,.sl (N:=U) 3 r.WeekNo,.sl (N:=U) 3 r.YearDay,.sl (N:=U) 3 r.MonthDay,.sl (N:=U) 60 r.Days,.sl (N:=U) 3 r.Hour,.sl (N:=U) 3 r.Minute,.sl (N:=U) 3 r.Second,.sl (N:=U) 3 r.SetPos,.int .i64 r.Wkst],.agg [.int .i64 a.Day.Year,.int .i64 a.Day.Month,.int .i64 a.Day.Date,.int .i64 a.Hour,.int .i64 a.Min,.int .i64 a.Sec,blB a.Bare,blB a.UTC],.agg [.int .i64 b.Day.Year,.int .i64 b.Day.Month,.int .i64 b.Day.Date,.int .i64 b.Hour,.int .i64 b.Min,.int .i64 b.Sec,blB b.Bare,blB b.UTC]]) (c7d (an:=e18 14) b7p (j6 b7p o9 e18 2) Tryz.func14 (k1:=.acc 25) (k2:=.int .i64) rfl rfl (kc (pxE s r a b ho.1) (by kernel_rfl))) fun ρ Z w v hr=>q9 [.agg l_s,.agg l_r,.agg l_a,.agg l_b] [.agg [.int .i64 s.Day.Year,.int .i64 s.Day.Month,.int .i64 s.Day.Date,.int .i64 s.Hour,.int .i64 s.Min,.int .i64 s.Sec,blB s.Bare,blB s.UTC],.agg [.int .i64 r.Freq,.int .i64 r.Interval,.int .i64 r.Count,.sl (N:=U) 25 r.Until,.sl (N:=U) 3 r.Month,.sl (N:=U) 3 r.WeekNo,.sl (N:=U) 3 r.YearDay,.sl (N:=U) 3 r.MonthDay,.sl (N:=U) 60 r.Days,.sl (N:=U) 3 r.Hour,.sl (N:=U) 3 r.Minute,.sl (N:=U) 3 r.Second,.sl (N:=U) 3 r.SetPos,.int .i64 r.Wkst],.agg [.int .i64 a.Day.Year,.int .i64 a.Day.Month,.int .i64 a.Day.Date,.int .i64 a.Hour,.int .i64 a.Min,.int .i64 a.Sec,blB a.Bare,blB a.UTC],.agg [.int .i64 b.Day.Year,.int .i64 b.Day.Month,.int .i64 b.Day.Date,.int .i64 b.Hour,.int .i64 b.Min,.int .i64 b.Sec,blB b.Bare,blB b.UTC]] _ ⟨fun _ h=>o7 hb_s h,fun _ h=>s9 hb_r h,fun _ h=>o7 hb_a h,fun _ h=>o7 hb_b h,trivial⟩ hr
 . cases h
def d8w:Nat->Ann:=fun | 25=>⟨44,nn,nn⟩ | _=>⟨0,nn,nn⟩
def VxL (s:Tm) (r:Rl) (a:Tm) (Q:Tm->Bool->Int->Prop):Prop :=
w4 (etR r)=true/\(¬A0 (etT s) (etR r)=true ∨ ¬n7 (etT a)=true->Q (Tm.mk (Dy.mk (0:Int) (0:Int) (0:Int)) (0:Int) (0:Int) (0:Int) false false) false (2:Int))/\(¬(¬A0 (etT s) (etR r)=true ∨ ¬n7 (etT a)=true)->b9 (b8 (etT a)+1)/\(w4 (etR r)=true/\A0 (etT s) (etR r)=true/\(0:Int)<=b8 (etT a)+1/\b8 (etT a)+1<=400000000000)/\((Re.allS (etT s) (etR r) (b8 (etT a)+1)).snd=true->Q (Tm.mk (Dy.mk (0:Int) (0:Int) (0:Int)) (0:Int) (0:Int) (0:Int) false false) false (5:Int))/\(¬(Re.allS (etT s) (etR r) (b8 (etT a)+1)).snd=true->((↑(Re.allS (etT s) (etR r) (b8 (etT a)+1)).fst.length:Int)=0->Q (Tm.mk (Dy.mk (0:Int) (0:Int) (0:Int)) (0:Int) (0:Int) (0:Int) false false) false (0:Int))/\(¬(↑(Re.allS (etT s) (etR r) (b8 (etT a)+1)).fst.length:Int)=0->b9 ((↑(Re.allS (etT s) (etR r) (b8 (etT a)+1)).fst.length:Int)-1)/\((0:Int)<=(↑(Re.allS (etT s) (etR r) (b8 (etT a)+1)).fst.length:Int)-1/\(↑(Re.allS (etT s) (etR r) (b8 (etT a)+1)).fst.length:Int)-1<(↑(Re.allS (etT s) (etR r) (b8 (etT a)+1)).fst.length:Int))/\(b9 (ix (Re.allS (etT s) (etR r) (b8 (etT a)+1)).fst ((↑(Re.allS (etT s) (etR r) (b8 (etT a)+1)).fst.length:Int)-1))->Q (etT (atS (ix (Re.allS (etT s) (etR r) (b8 (etT a)+1)).fst ((↑(Re.allS (etT s) (etR r) (b8 (etT a)+1)).fst.length:Int)-1)) (etT s))) true (0:Int)))))
set_option maxHeartbeats 2000000 in
theorem pxL (s:Tm) (r:Rl) (a:Tm) (hfw:w4 r=true):VxL s r a (fun y0 y1 y2=>y0=(C9 s r a).1/\y1=(C9 s r a).2.1/\y2=(C9 s r a).2.2):=by
 unfold VxL
 simp only [P2,V9,a0a]
 refine ⟨hfw,fun h=>?_,fun h=>?_⟩
 . unfold C9
   rw [if_pos h]
   exact ⟨rfl,rfl,rfl⟩
 have hft:A0 s r=true:=Classical.not_not.1 fun hn=>h (.inl hn)
 have hb:n7 a=true:=Classical.not_not.1 fun hn=>h (.inr hn)
 obtain ⟨b0,b1⟩:=v6 hb
 have hl:=b99 (s:=s) (r:=r) (to:=b8 a+1)
 refine ⟨by omega,⟨hfw,hft,by omega,by omega⟩,fun hm=>?_,fun hm=>⟨fun h0=>?_,fun h0=>⟨by omega,⟨by omega,by omega⟩,fun _=>?_⟩⟩⟩
 . unfold C9
   rw [if_neg h,if_pos hm]
   exact ⟨rfl,rfl,rfl⟩
 . unfold C9
   rw [if_neg h,if_neg hm,if_pos h0]
   exact ⟨rfl,rfl,rfl⟩
 . unfold C9
   rw [if_neg h,if_neg hm,if_neg h0]
   exact ⟨rfl,rfl,rfl⟩
noncomputable def e37 (s:Tm) (r:Rl) (a:Tm) (nx:Nat):CR U:=⟨[w4 r=true],[],.tup [.agg [.int .i64 ((C9 s r a).1).Day.Year,.int .i64 ((C9 s r a).1).Day.Month,.int .i64 ((C9 s r a).1).Day.Date,.int .i64 ((C9 s r a).1).Hour,.int .i64 ((C9 s r a).1).Min,.int .i64 ((C9 s r a).1).Sec,blB ((C9 s r a).1).Bare,blB ((C9 s r a).1).UTC],blB ((C9 s r a).2.1),.int .i64 ((C9 s r a).2.2)],[]⟩
noncomputable def cxL (a:List (SV U)) (nx:Nat):Option (CR U):=match a with | [.agg l_s,.agg l_r,.agg l_a]=>(y25.bk (.agg l_s)).bind fun s=>(y30.bk (.agg l_r)).bind fun r=>(y25.bk (.agg l_a)).bind fun a=>some (e37 s r a nx) | _=>none
noncomputable def NxL:Env:=NxE.addC 25 cxL
theorem b6a:j7 NxL:=b6p.addC Tryz.call25 fun (args:List (SV U)) nx (c:CR U) (h:cxL args nx=some c) hp ho=>by
 unfold cxL at h
 split at h
 . rename_i l_s l_r l_a
   obtain ⟨s,hb_s,h⟩:=Option.bind_eq_some_iff.1 h
   obtain ⟨r,hb_r,h⟩:=Option.bind_eq_some_iff.1 h
   obtain ⟨a,hb_a,h⟩:=Option.bind_eq_some_iff.1 h
   cases h
   exact E2.weak (b:=[.agg [.int .i64 s.Day.Year,.int .i64 s.Day.Month,.int .i64 s.Day.Date,.int .i64 s.Hour,.int .i64 s.Min,.int .i64 s.Sec,blB s.Bare,blB s.UTC],.agg [.int .i64 r.Freq,.int .i64 r.Interval,.int .i64 r.Count,.sl (N:=U) 25 r.Until,.sl (N:=U) 3 r.Month,.sl (N:=U) 3 r.WeekNo,.sl (N:=U) 3 r.YearDay,.sl (N:=U) 3 r.MonthDay,.sl (N:=U) 60 r.Days,.sl (N:=U) 3 r.Hour,.sl (N:=U) 3 r.Minute,.sl (N:=U) 3 r.Second,.sl (N:=U) 3 r.SetPos,.int .i64 r.Wkst],.agg [.int .i64 a.Day.Year,.int .i64 a.Day.Month,.int .i64 a.Day.Date,.int .i64 a.Hour,.int .i64 a.Min,.int .i64 a.Sec,blB a.Bare,blB a.UTC]]) (d8y (an:=d8w 25) b6p (j6 b6p o9 d8w 2) Tryz.func25 (k1:=.val 25) (k2:=.bool) (k3:=.int .i64) rfl rfl rfl (kc (pxL s r a ho.1) (by kernel_rfl))) fun ρ Z w v hr=>q9 [.agg l_s,.agg l_r,.agg l_a] [.agg [.int .i64 s.Day.Year,.int .i64 s.Day.Month,.int .i64 s.Day.Date,.int .i64 s.Hour,.int .i64 s.Min,.int .i64 s.Sec,blB s.Bare,blB s.UTC],.agg [.int .i64 r.Freq,.int .i64 r.Interval,.int .i64 r.Count,.sl (N:=U) 25 r.Until,.sl (N:=U) 3 r.Month,.sl (N:=U) 3 r.WeekNo,.sl (N:=U) 3 r.YearDay,.sl (N:=U) 3 r.MonthDay,.sl (N:=U) 60 r.Days,.sl (N:=U) 3 r.Hour,.sl (N:=U) 3 r.Minute,.sl (N:=U) 3 r.Second,.sl (N:=U) 3 r.SetPos,.int .i64 r.Wkst],.agg [.int .i64 a.Day.Year,.int .i64 a.Day.Month,.int .i64 a.Day.Date,.int .i64 a.Hour,.int .i64 a.Min,.int .i64 a.Sec,blB a.Bare,blB a.UTC]] _ ⟨fun _ h=>o7 hb_s h,fun _ h=>s9 hb_r h,fun _ h=>o7 hb_a h,trivial⟩ hr
 . cases h
def d9d:Nat->Ann:=fun | 27=>⟨26,nn,nn⟩ | _=>⟨0,nn,nn⟩
def VxJ (s:Tm) (r:Rl) (t:Tm) (Q:Bool->Int->Prop):Prop :=
w4 (etR r)=true/\Q (decide ((C9 (etT s) (etR r) (etT t)).snd.fst=true/\((C9 (etT s) (etR r) (etT t)).fst.Day.Year=t.Day.Year/\(C9 (etT s) (etR r) (etT t)).fst.Day.Month=t.Day.Month/\(C9 (etT s) (etR r) (etT t)).fst.Day.Date=t.Day.Date/\True)/\(C9 (etT s) (etR r) (etT t)).fst.Hour=t.Hour/\(C9 (etT s) (etR r) (etT t)).fst.Min=t.Min/\(C9 (etT s) (etR r) (etT t)).fst.Sec=t.Sec/\((C9 (etT s) (etR r) (etT t)).fst.Bare=true↔t.Bare=true)/\((C9 (etT s) (etR r) (etT t)).fst.UTC=true↔t.UTC=true)/\True)) (C9 (etT s) (etR r) (etT t)).snd.snd
set_option maxHeartbeats 2000000 in
theorem pxJ (s:Tm) (r:Rl) (t:Tm) (hfw:w4 r=true):VxJ s r t (fun y0 y1=>y0=(isS s r t).1/\y1=(isS s r t).2):=by
 unfold VxJ
 simp only [P2,V9,a0a]
 refine ⟨hfw,?_,rfl⟩
 unfold isS
 exact decide_eq_decide.2 (and_congr Iff.rfl c6v)
noncomputable def e2u (s:Tm) (r:Rl) (t:Tm) (nx:Nat):CR U:=⟨[w4 r=true],[],.tup [blB ((isS s r t).1),.int .i64 ((isS s r t).2)],[]⟩
noncomputable def cxJ (a:List (SV U)) (nx:Nat):Option (CR U):=match a with | [.agg l_s,.agg l_r,.agg l_t]=>(y25.bk (.agg l_s)).bind fun s=>(y30.bk (.agg l_r)).bind fun r=>(y25.bk (.agg l_t)).bind fun t=>some (e2u s r t nx) | _=>none
noncomputable def NxJ:Env:=NxL.addC 27 cxJ
theorem d5x:j7 NxJ:=b6a.addC Tryz.call27 fun (args:List (SV U)) nx (c:CR U) (h:cxJ args nx=some c) hp ho=>by
 unfold cxJ at h
 split at h
 . rename_i l_s l_r l_t
   obtain ⟨s,hb_s,h⟩:=Option.bind_eq_some_iff.1 h
   obtain ⟨r,hb_r,h⟩:=Option.bind_eq_some_iff.1 h
   obtain ⟨t,hb_t,h⟩:=Option.bind_eq_some_iff.1 h
   cases h
   exact E2.weak (b:=[.agg [.int .i64 s.Day.Year,.int .i64 s.Day.Month,.int .i64 s.Day.Date,.int .i64 s.Hour,.int .i64 s.Min,.int .i64 s.Sec,blB s.Bare,blB s.UTC],.agg [.int .i64 r.Freq,.int .i64 r.Interval,.int .i64 r.Count,.sl (N:=U) 25 r.Until,.sl (N:=U) 3 r.Month,.sl (N:=U) 3 r.WeekNo,.sl (N:=U) 3 r.YearDay,.sl (N:=U) 3 r.MonthDay,.sl (N:=U) 60 r.Days,.sl (N:=U) 3 r.Hour,.sl (N:=U) 3 r.Minute,.sl (N:=U) 3 r.Second,.sl (N:=U) 3 r.SetPos,.int .i64 r.Wkst],.agg [.int .i64 t.Day.Year,.int .i64 t.Day.Month,.int .i64 t.Day.Date,.int .i64 t.Hour,.int .i64 t.Min,.int .i64 t.Sec,blB t.Bare,blB t.UTC]]) (c7d (an:=d9d 27) b6a (j6 b6a o9 d9d 2) Tryz.func27 (k1:=.bool) (k2:=.int .i64) rfl rfl (kc (pxJ s r t ho.1) (by kernel_rfl))) fun ρ Z w v hr=>q9 [.agg l_s,.agg l_r,.agg l_t] [.agg [.int .i64 s.Day.Year,.int .i64 s.Day.Month,.int .i64 s.Day.Date,.int .i64 s.Hour,.int .i64 s.Min,.int .i64 s.Sec,blB s.Bare,blB s.UTC],.agg [.int .i64 r.Freq,.int .i64 r.Interval,.int .i64 r.Count,.sl (N:=U) 25 r.Until,.sl (N:=U) 3 r.Month,.sl (N:=U) 3 r.WeekNo,.sl (N:=U) 3 r.YearDay,.sl (N:=U) 3 r.MonthDay,.sl (N:=U) 60 r.Days,.sl (N:=U) 3 r.Hour,.sl (N:=U) 3 r.Minute,.sl (N:=U) 3 r.Second,.sl (N:=U) 3 r.SetPos,.int .i64 r.Wkst],.agg [.int .i64 t.Day.Year,.int .i64 t.Day.Month,.int .i64 t.Day.Date,.int .i64 t.Hour,.int .i64 t.Min,.int .i64 t.Sec,blB t.Bare,blB t.UTC]] _ ⟨fun _ h=>o7 hb_s h,fun _ h=>s9 hb_r h,fun _ h=>o7 hb_t h,trivial⟩ hr
 . cases h
noncomputable def d1o:Env:=NxJ.addI 52 Tryz.f52
theorem a5g:j7 d1o:=d5x.addI Tryz.call52 Tryz.func52
end Go.Proofs.YtdjfeninmbpflaaGreat
end
section
namespace Go.Re
open Go Go.Wk Go.Wl Go.Rx
abbrev Up (l:List Int):Prop:=l.Pairwise (· < ·)
theorem d8s {l:List Int} (h:UpL l):Up l:=List.pairwise_iff_getElem.2 fun i j hi hj hij=>b2e h j i hij hj
theorem d5b (n:Nat):Up (a7v n):=by
 unfold a7v
 refine List.pairwise_map.2 (List.pairwise_lt_range.imp fun h=>?_)
 show ((_:Nat):Int)<((_:Nat):Int)
 omega
theorem a56 {l:List Int} {f:Bool} {own all:Int} (h:UpL l):Up (l7 l f own all):=by
 unfold l7
 split
 . exact d8s h
 . split
   . exact d5b _
   . exact List.pairwise_singleton ..
theorem a83 {n x:Int} {l:List Int} (h:inB n l) (hx:x∈l):0<=x/\x<=n:=by
 obtain ⟨i,i0,i1,rfl⟩:=F6 hx
 exact h i i0 i1
theorem b0f {fr to b:Int}:∀ {l:List Int},Up l->Up (a0w fr to b l)
 | [],_=>List.Pairwise.nil
 | s::r,h=>by
  obtain ⟨h1,h2⟩:=List.pairwise_cons.1 h
  unfold a0w
  split
  . refine List.pairwise_cons.2 ⟨fun t ht=>?_,b0f h2⟩
    obtain ⟨u,hu,e,_⟩:=Y9.1 ht
    have:=h1 u hu
    omega
  . exact b0f h2
theorem a9a {fr to b:Int} {ss:List Int} (hs:inB 59 ss) (us:Up ss):∀ {l:List Int},Up l->Up (V7 fr to b ss l)
 | [],_=>List.Pairwise.nil
 | m::r,h=>by
  obtain ⟨h1,h2⟩:=List.pairwise_cons.1 h
  unfold V7
  split
  . exact a9a hs us h2
  . refine List.pairwise_append.2 ⟨b0f us,a9a hs us h2,fun t ht u hu=>?_⟩
    obtain ⟨x,hx,e,_⟩:=Y9.1 ht
    obtain ⟨m2,hm2,y,hy,e2,_⟩:=(a2e hs).1 hu
    have:=h1 m2 hm2
    have:=a83 hs hx
    have:=a83 hs hy
    omega
theorem b19 {fr to:Int} {ms ss:List Int} (hm:inB 59 ms) (hs:inB 59 ss) (um:Up ms) (us:Up ss):∀ {l:List Int},Up l->Up (Y3 fr to ms ss l)
 | [],_=>List.Pairwise.nil
 | m::r,h=>by
  obtain ⟨h1,h2⟩:=List.pairwise_cons.1 h
  unfold Y3
  split
  . exact b19 hm hs um us h2
  . refine List.pairwise_append.2 ⟨a9a hs us um,b19 hm hs um us h2,fun t ht u hu=>?_⟩
    obtain ⟨m1,hm1,x,hx,e,_⟩:=(a2e hs).1 ht
    obtain ⟨k,hk,m2,hm2,y,hy,e2,_⟩:=(a6h hm hs).1 hu
    have:=h1 k hk
    have:=a83 hs hx
    have:=a83 hs hy
    have:=a83 hm hm1
    have:=a83 hm hm2
    omega
theorem c9i {s:Tm} {r:Rl} {fr to:Int} (hF:p9 s r):Up (Y4 s r fr to):=by
 have L:=(m8.1 hF.rr).lists
 exact b19 (b55 hF) (b5a hF) (a56 L.mi.up) (a56 L.se.up) (a56 L.ho.up)
theorem b92 {s:Tm} {r:Rl} {c:Int} (h:c∈A5 s r):0<=c/\c<86400:=b0p 24 (by omega) _ h
def b4c (s:Tm) (r:Rl) (day t:Int):Prop:=N7 s r day (t / 86400+1)=true/\t % 86400∈A5 s r
theorem b1s {s:Tm} {r:Rl} {day fr to n t:Int} (hF:p9 s r):t∈a7u s r day fr to n↔(b4c s r day t/\t / 86400+1=n)/\fr<=t/\t<to:=by
 unfold a7u b4c
 constructor
 . intro h
   split at h
   . rename_i hd
     obtain ⟨c,hc,rfl⟩:=List.mem_map.1 h
     obtain ⟨h1,h2,h3⟩:=(b47 hF).1 hc
     have:=b92 h1
     have e1:((n-1) * 86400+c) / 86400+1=n:=by omega
     have e2:((n-1) * 86400+c) % 86400=c:=by omega
     rw [e1,e2]
     exact ⟨⟨⟨hd,h1⟩,rfl⟩,by omega,by omega⟩
   . cases h
 . rintro ⟨⟨⟨h1,h2⟩,rfl⟩,h3,h4⟩
   rw [if_pos h1]
   refine List.mem_map.2 ⟨t % 86400,(b47 hF).2 ⟨h2,by omega,by omega⟩,by omega⟩
theorem d01 {s:Tm} {r:Rl} {day fr to n:Int} (hF:p9 s r):Up (a7u s r day fr to n):=by
 unfold a7u
 split
 . exact List.pairwise_map.2 ((c9i hF).imp fun h=>by omega)
 . exact List.Pairwise.nil
theorem a6v {s:Tm} {r:Rl} {day fr to t:Int} (hF:p9 s r):∀ {k:Nat} {n:Int},t∈a4a s r day fr to k n↔(b4c s r day t/\n<=t / 86400+1/\t / 86400+1<n+k)/\fr<=t/\t<to
 | 0,n=>by
  unfold a4a
  constructor
  . intro h; cases h
  . rintro ⟨⟨_,h1,h2⟩,_⟩; omega
 | k+1,n=>by
  unfold a4a
  rw [List.mem_append,b1s hF,a6v hF]
  constructor
  . rintro (⟨⟨a,b⟩,c⟩ | ⟨⟨a,b⟩,c⟩)
    . exact ⟨⟨a,by omega⟩,c⟩
    . exact ⟨⟨a,by omega⟩,c⟩
  . rintro ⟨⟨a,b⟩,c⟩
    by_cases e:t / 86400+1=n
    . exact .inl ⟨⟨a,e⟩,c⟩
    . exact .inr ⟨⟨a,by omega⟩,c⟩
theorem c0k {s:Tm} {r:Rl} {day fr to:Int} (hF:p9 s r):∀ {k:Nat} {n:Int},Up (a4a s r day fr to k n)
 | 0,_=>List.Pairwise.nil
 | k+1,n=>by
  unfold a4a
  refine List.pairwise_append.2 ⟨d01 hF,c0k hF,fun t ht u hu=>?_⟩
  have:=(b1s hF).1 ht
  have:=(a6v hF).1 hu
  omega
theorem b2n {s:Tm} {r:Rl} {day fr to t:Int} (hF:p9 s r):t∈a7r s r day fr to↔b4c s r day t/\fr<=t/\t<to:=by
 unfold a7r
 rw [a6v hF]
 constructor
 . rintro ⟨⟨a,_⟩,b⟩; exact ⟨a,b⟩
 . rintro ⟨a,b⟩; exact ⟨⟨a,by omega⟩,b⟩
theorem b9m {s:Tm} {r:Rl} {day fr to:Int} (hF:p9 s r):Up (a7r s r day fr to):=c0k hF
theorem a3b {sp:List Int} {n:Int}:∀ {l:List Int} {i:Int},(N5 sp n i l).Sublist l
 | [],_=>List.Sublist.slnil
 | t::l,i=>by
  rw [V5]
  split
  . exact List.Sublist.cons_cons _ a3b
  . exact List.Sublist.cons _ a3b
theorem U7 {r:Rl} {l:List Int}:(s7 r l).Sublist l:=by
 unfold s7
 split
 . exact List.Sublist.refl _
 . exact a3b
theorem b00 {s:Tm} {r:Rl} {day i:Int} (hF:p9 s r):Up (u4 s r day i):=(b9m hF).sublist U7
theorem N9 {s:Tm} {r:Rl} {day i t:Int} (hF:p9 s r) (h:t∈u4 s r day i):b4c s r day t/\p4 r i<=t/\t<p4 r (i+1):=(b2n hF).1 (U7.subset h)
structure LoP (r:Rl) (i:Int):Prop where
 a:0<=i
 y:r.Freq=0->1<=i
 m:r.Freq=1->12<=i
 d:r.Freq=3->1<=i
theorem LoP.up {r:Rl} {i j:Int} (h:LoP r i) (hj:i<=j):LoP r j:=by
 obtain ⟨a,b,c,d⟩:=h
 exact ⟨by omega,fun e=>by have:=b e; omega,fun e=>by have:=c e; omega,fun e=>by have:=d e; omega⟩
theorem R1 {y m:Int} (y0:1<=y) (y1:y<=9999) (m0:1<=m) (m1:m<=12):A9 ⟨y,m,1⟩:=by
 have:=a4s y0 y1 m0 m1
 exact ⟨Int.le_refl 1,by show (1:Int)<=u9 y m; omega⟩
theorem b3w {d:Dy} {y m:Int} (h:A9 d) (y0:1<=y) (y1:y<=9999) (m0:1<=m) (m1:m<=12):D7 ⟨y,m,1⟩<=D7 d↔12 * y+m<=12 * d.Year+d.Month:=by
 have hr:=R1 y0 y1 m0 m1
 obtain ⟨a0,a1⟩:=K9 h
 obtain ⟨b0,b1⟩:=K9 hr
 obtain ⟨c0,c1,c2,c3,c4,c5⟩:=h.ym
 have h2:=h.2
 have b0:j4 y<D7 ⟨y,m,1⟩:=b0
 have b1:D7 ⟨y,m,1⟩<=j4 (y+1):=b1
 have e1:D7 ⟨y,m,1⟩=j4 y+F9 y m+1:=rfl
 have e2:D7 d=j4 d.Year+F9 d.Year d.Month+d.Date:=rfl
 rcases Int.lt_trichotomy y d.Year with hl | hl | hl
 . have:=A2 (show y+1<=d.Year by omega)
   constructor <;> intro <;> omega
 . subst hl
   rcases Int.lt_trichotomy m d.Month with hm | hm | hm
   . have:=a2c y0 y1 m0 c3 hm
     have:=a4s y0 y1 m0 m1
     constructor <;> intro <;> omega
   . subst hm
     constructor <;> intro <;> omega
   . have:=a2c y0 y1 c2 m1 hm
     constructor <;> intro <;> omega
 . have:=A2 (show d.Year+1<=y by omega)
   constructor <;> intro <;> omega
theorem b0d {n t:Int} (h0:1<=n) (t1:t<315537897600):nbP n<=t↔n<=t / 86400+1:=by
 unfold nbP
 split <;> omega
theorem H4 {r:Rl} {i t:Int} (hi:LoP r i) (t0:0<=t) (t1:t<315537897600):p4 r i<=t↔i<=j8 r t:=by
 obtain ⟨hd,hn⟩:=Q5 (n:=t / 86400+1) (by omega) (by omega)
 obtain ⟨c0,c1,c2,c3,_⟩:=hd.ym
 have a:=hi.a
 unfold p4 j8 s5
 generalize ofS (t / 86400+1)=D at *
 by_cases f0:r.Freq=0
 . have b:=hi.y f0
   rw [if_pos f0,if_pos f0,if_neg (by omega)]
   by_cases hy:i<=9999
   . have hr:=R1 b hy (by decide:(1:Int)<=1) (by decide)
     have e:j9 ⟨i,1,1⟩=D7 ⟨i,1,1⟩:=by unfold j9; rw [if_pos hr]
     rw [e,b0d (H6 hr).1 t1,<- hn,b3w hd b hy (by decide) (by decide)]
     constructor <;> intro <;> omega
   . have e:j9 ⟨i,1,1⟩=0:=by
       unfold j9
       rw [if_neg fun h=>?_]
       have:i<=9999:=h.ym.2.1
       omega
     rw [e]
     unfold nbP
     rw [if_pos (.inl rfl)]
     constructor <;> intro <;> omega
 rw [if_neg f0,if_neg f0]
 by_cases f1:r.Freq=1
 . have b:=hi.m f1
   rw [if_pos f1,if_pos f1,if_pos f1]
   by_cases hy:i / 12<=9999
   . have hr:=R1 (y:=i / 12) (m:=i % 12+1) (by omega) hy (by omega) (by omega)
     have e:j9 ⟨i / 12,i % 12+1,1⟩=D7 ⟨i / 12,i % 12+1,1⟩:=by unfold j9; rw [if_pos hr]
     rw [e,b0d (H6 hr).1 t1,<- hn,b3w hd (by omega) hy (by omega) (by omega)]
     constructor <;> intro <;> omega
   . have e:j9 ⟨i / 12,i % 12+1,1⟩=0:=by
       unfold j9
       rw [if_neg fun h=>?_]
       have:i / 12<=9999:=h.ym.2.1
       omega
     rw [e]
     unfold nbP
     rw [if_pos (.inl rfl)]
     constructor <;> intro <;> omega
 rw [if_neg f1,if_neg f1,if_neg f1]
 by_cases f2:r.Freq=2
 . rw [if_pos f2,if_pos f2,b0d (by omega) t1]
   constructor <;> intro <;> omega
 rw [if_neg f2,if_neg f2]
 by_cases f3:r.Freq=3
 . have b:=hi.d f3
   rw [if_pos f3,if_pos f3,b0d b t1]
   constructor <;> intro <;> omega
 rw [if_neg f3,if_neg f3]
 by_cases f4:r.Freq=4
 . rw [if_pos f4,if_pos f4]; constructor <;> intro <;> omega
 rw [if_neg f4,if_neg f4]
 by_cases f5:r.Freq=5
 . rw [if_pos f5,if_pos f5]; constructor <;> intro <;> omega
 rw [if_neg f5,if_neg f5]
 constructor <;> intro <;> omega
theorem H9 {r:Rl} {i j:Int} (hi:LoP r i) (hj:i<=j):p4 r i<=p4 r j:=by
 obtain ⟨a0,a1⟩:=I3 (r:=r) hi.a
 obtain ⟨b0,b1⟩:=I3 (r:=r) (i:=j) (by have:=hi.a; omega)
 by_cases h:p4 r j<315537897600
 . exact (H4 hi b0 h).2 (Int.le_trans hj ((H4 (hi.up hj) b0 h).1 (Int.le_refl _)))
 . omega
theorem G2 {r:Rl} {t:Int} (t0:0<=t) (t1:t<315537897600) (w0:0<=r.Wkst) (w1:r.Wkst<=6):LoP r (j8 r t):=by
 obtain ⟨hd,hn⟩:=Q5 (n:=t / 86400+1) (by omega) (by omega)
 obtain ⟨c0,c1,c2,c3,_⟩:=hd.ym
 refine ⟨(W0 t0 t1 w0 w1).1,fun f=>?_,fun f=>?_,fun f=>?_⟩
 . unfold j8 s5; rw [if_pos f,if_neg (by omega)]; omega
 . unfold j8 s5; rw [if_neg (by omega),if_pos f,if_pos f]; omega
 . unfold j8 s5; rw [if_neg (by omega),if_neg (by omega),if_neg (by omega),if_pos f,if_neg (by omega)]; omega
theorem P1 {r:Rl} {t u:Int} (t0:0<=t) (h:t<=u) (u1:u<315537897600) (w0:0<=r.Wkst) (w1:r.Wkst<=6):j8 r t<=j8 r u:=by
 have hl:=G2 (r:=r) (t:=t) t0 (by omega) w0 w1
 have:=(H4 hl t0 (by omega)).2 (Int.le_refl _)
 exact (H4 hl (by omega) u1).1 (by omega)
end Go.Re
end
section
namespace Go.Re
open Go Go.Wk Go.Wl Go.Rx
def H5 (s:Tm) (r:Rl) (day i0:Int):Nat->Int->List Int
 | 0,_=>[]
 | n+1,k=>u4 s r day (i0+k * r.Interval)++H5 s r day i0 n (k+1)
def G8 (r:Rl) (c:Int) (l:List Int):List Int:=if 0<r.Count then l.take (r.Count-c).toNat else l
def PT (first to til t:Int):Bool:=decide (first<t/\t<to/\t<=til)
theorem L6 {first to til t:Int}:PT first to til t=true↔first<t/\t<to/\t<=til:=decide_eq_true_iff
theorem a0s {r:Rl} {c:Int}:G8 r c []=[]:=by unfold G8; split <;> simp
theorem b22 {r:Rl} {c:Int} {l:List Int} (h:0<r.Count) (h1:r.Count<=c):G8 r c l=[]:=by
 unfold G8
 rw [if_pos h,show (r.Count-c).toNat=0 by omega,List.take_zero]
theorem d3i {r:Rl} {c:Int} {l:List Int} (h:¬ 0<r.Count):G8 r c l=l:=if_neg h
theorem b3e {r:Rl} {c t:Int} {l:List Int} (h:¬ (0<r.Count/\r.Count<=c)):G8 r c (t::l)=t::G8 r (c+1) l:=by
 unfold G8
 by_cases hc:0<r.Count
 . rw [if_pos hc,if_pos hc,show (r.Count-c).toNat=(r.Count-(c+1)).toNat+1 by omega,List.take_succ_cons]
 . rw [if_neg hc,if_neg hc]
theorem c0m {r:Rl} {c:Int} {A B:List Int}:G8 r c (A++B)=G8 r c A++G8 r (c+(G8 r c A).length) B:=by
 unfold G8
 by_cases hc:0<r.Count
 . rw [if_pos hc,if_pos hc,if_pos hc,List.take_append,List.length_take]
   congr 2
   omega
 . rw [if_neg hc,if_neg hc,if_neg hc]
theorem filter_nil {p:Int->Bool} {l:List Int} (h:∀ t∈l,¬ p t=true):l.filter p=[]:=List.filter_eq_nil_iff.2 h
theorem a9c {r:Rl} {first to til:Int}:∀ {L:List Int} {c:Int},Up L ->
  a1d r first to til c L=(G8 r c (L.filter (PT first to til)),c+(G8 r c (L.filter (PT first to til))).length)
 | [],c,_=>by
  rw [List.filter_nil,a0s]
  unfold a1d
  simp
 | t::L,c,h=>by
  obtain ⟨h1,h2⟩:=List.pairwise_cons.1 h
  unfold a1d
  by_cases hf:t<=first
  . rw [if_pos hf,List.filter_cons_of_neg (by rw [L6]; omega)]
    exact a9c h2
  rw [if_neg hf]
  by_cases hb:(to<=t ∨ til<t) ∨ (0<r.Count/\r.Count<=c)
  . have e:G8 r c ((t::L).filter (PT first to til))=[]:=by
      rcases hb with hb | hb
      . rw [filter_nil,a0s]
        intro u hu
        have:t<=u:=by
         rcases List.mem_cons.1 hu with rfl | hu
         . exact Int.le_refl _
         . exact Int.le_of_lt (h1 u hu)
        rw [L6]; omega
      . exact b22 hb.1 hb.2
    rw [if_pos hb,e]
    simp
  . rw [if_neg hb,List.filter_cons_of_pos (L6.2 (by omega)),b3e (fun hh=>hb (.inr hh)),a9c h2,List.length_cons]
    refine Prod.ext rfl ?_
    show c+1+_=_
    rw [Int.natCast_add]
    omega
section
variable {s:Tm} {r:Rl} {day first to til i0 k c t:Int} {n:Nat}
theorem C7 (hF:p9 s r):1<=r.Interval:=(m8.1 hF.rr).head.2.2.1
theorem M3 (hF:p9 s r):0<=r.Wkst/\r.Wkst<=6:=(m8.1 hF.rr).head.2.2.2.2.2.2
theorem T6 {a b I:Int} (hI:1<=I) (h:a<=b):a * I<=b * I:=Int.mul_le_mul_of_nonneg_right h (by omega)
theorem mul_succ {a I:Int}:(a+1) * I=a * I+I:=by rw [Int.add_mul,Int.one_mul]
theorem LoP.at (hl:LoP r (i0+k * r.Interval)) (hI:1<=r.Interval) {j:Int} (hj:k<=j):LoP r (i0+j * r.Interval):=by
 have:=T6 hI hj
 exact hl.up (by omega)
theorem a1y:∀ {n:Nat} {k:Int},t∈H5 s r day i0 n k↔∃ j:Int,k<=j/\j<k+n/\t∈u4 s r day (i0+j * r.Interval)
 | 0,k=>by
  unfold H5
  constructor
  . intro h; cases h
  . rintro ⟨j,h1,h2,_⟩; omega
 | n+1,k=>by
  unfold H5
  rw [List.mem_append,a1y]
  constructor
  . rintro (h | ⟨j,h1,h2,h3⟩)
    . exact ⟨k,by omega,by omega,h⟩
    . exact ⟨j,by omega,by omega,h3⟩
  . rintro ⟨j,h1,h2,h3⟩
    by_cases e:j=k
    . subst e; exact .inl h3
    . exact .inr ⟨j,by omega,by omega,h3⟩
theorem a07 (hF:p9 s r) {i:Int} (hl:LoP r i) (h:t∈u4 s r day i):t<315537897600:=by
 have:=(N9 hF h).2.2
 have:=(I3 (r:=r) (i:=i+1) (by have:=hl.a; omega)).2
 omega
theorem a4e (hF:p9 s r) (hl:LoP r (i0+k * r.Interval)) (h:t∈H5 s r day i0 n k):p4 r (i0+k * r.Interval)<=t/\t<p4 r (i0+(k+n) * r.Interval)/\t<315537897600:=by
 obtain ⟨j,h1,h2,h3⟩:=a1y.1 h
 have hI:=C7 hF
 have a:=T6 hI h1
 have b:=T6 hI (show j+1<=k+n by omega)
 rw [mul_succ] at b
 have hj:=hl.at hI h1
 have c:=N9 hF h3
 have d:=H9 hl (show i0+k * r.Interval<=i0+j * r.Interval by omega)
 have e:=H9 (hj.up (j:=i0+j * r.Interval+1) (by omega)) (show i0+j * r.Interval+1<=i0+(k+n) * r.Interval by omega)
 have f:=a07 hF hj h3
 exact ⟨by omega,by omega,f⟩
theorem b87 (hF:p9 s r):∀ {n:Nat} {k:Int},LoP r (i0+k * r.Interval)->Up (H5 s r day i0 n k)
 | 0,_,_=>List.Pairwise.nil
 | n+1,k,hl=>by
  have hI:=C7 hF
  have h2:LoP r (i0+(k+1) * r.Interval):=hl.at hI (by omega)
  unfold H5
  refine List.pairwise_append.2 ⟨b00 hF,b87 hF h2,fun t ht u hu=>?_⟩
  have a:=N9 hF ht
  have b:=a4e hF h2 hu
  have c:=H9 (hl.up (j:=i0+k * r.Interval+1) (by omega)) (show i0+k * r.Interval+1<=i0+(k+1) * r.Interval by rw [mul_succ]; omega)
  omega
theorem X5.up {b b' c':Int} (h:X5 r to til b c) (hb:b<=b') (hc:c<=c'):X5 r to til b' c':=by
 unfold X5 at h ⊢
 omega
theorem b9i (hF:p9 s r):∀ {n:Nat} {k c:Int},LoP r (i0+k * r.Interval) ->
  (a0v s r day first to til i0 n k c).1=G8 r c ((H5 s r day i0 n k).filter (PT first to til)) /\
  ((a0v s r day first to til i0 n k c).2=true↔¬ X5 r to til (p4 r (i0+(k+n) * r.Interval)) (c+(G8 r c ((H5 s r day i0 n k).filter (PT first to til))).length))
 | 0,k,c,hl=>by
  have e:H5 s r day i0 0 k=[]:=rfl
  rw [e,List.filter_nil,a0s,show k+((0:Nat):Int)=k by omega,show c+(([]:List Int).length:Int)=c by simp]
  unfold a0v
  by_cases he:X5 r to til (p4 r (i0+k * r.Interval)) c
  . rw [if_pos he]; exact ⟨rfl,fun h=>absurd h Bool.false_ne_true,fun h=>absurd he h⟩
  . rw [if_neg he]; exact ⟨rfl,fun _=>he,fun _=>rfl⟩
 | n+1,k,c,hl=>by
  have hI:=C7 hF
  have h2:LoP r (i0+(k+1) * r.Interval):=hl.at hI (by omega)
  by_cases he:X5 r to til (p4 r (i0+k * r.Interval)) c
  . have e:G8 r c ((H5 s r day i0 (n+1) k).filter (PT first to til))=[]:=by
      by_cases hc:0<r.Count/\r.Count<=c
      . exact b22 hc.1 hc.2
      . rw [filter_nil,a0s]
        intro u hu
        have g:=a4e hF hl hu
        unfold X5 at he
        rw [L6]; omega
    have a:=T6 hI (show k<=k+((n+1:Nat):Int) by omega)
    have m:=H9 hl (show i0+k * r.Interval<=i0+(k+((n+1:Nat):Int)) * r.Interval by omega)
    rw [e]
    unfold a0v
    rw [if_pos he]
    exact ⟨rfl,fun h=>absurd h Bool.false_ne_true,fun h=>absurd (he.up m (by show c<=c+((0:Nat):Int); omega)) h⟩
  . have ic:=a9c (r:=r) (first:=first) (to:=to) (til:=til) (c:=c) (b00 (day:=day) (i:=i0+k * r.Interval) hF)
    have ih:=b9i hF (n:=n) (k:=k+1) (c:=c+(G8 r c ((u4 s r day (i0+k * r.Interval)).filter (PT first to til))).length) h2
    have ep:H5 s r day i0 (n+1) k=u4 s r day (i0+k * r.Interval)++H5 s r day i0 n (k+1):=rfl
    unfold a0v
    rw [if_neg he,ic,ep,List.filter_append,c0m,List.length_append]
    dsimp only
    rw [ih.1]
    refine ⟨rfl,ih.2.trans ?_⟩
    have hn:∀ a b:Nat,c+((a+b:Nat):Int)=c+a+b:=fun a b=>by omega
    rw [show k+1+(n:Int)=k+((n+1:Nat):Int) by omega,hn]
theorem R5 {fr:Int} (hF:p9 s r) (h0:0<=k0S s r fr) :
  (D8 s r day fr to).1=(if b8 s<to then [b8 s] else [])++G8 r 1 ((H5 s r day (j8 r (b8 s)) (40000-k0S s r fr).toNat (k0S s r fr)).filter (PT (b8 s) to (G0 r))) /\
  ((D8 s r day fr to).2=true↔¬ X5 r to (G0 r) (p4 r (j8 r (b8 s)+(k0S s r fr+(40000-k0S s r fr).toNat) * r.Interval)) (1+(G8 r 1 ((H5 s r day (j8 r (b8 s)) (40000-k0S s r fr).toNat (k0S s r fr)).filter (PT (b8 s) to (G0 r)))).length)):=by
 obtain ⟨a,b⟩:=v6 hF.rt
 have hw:=M3 hF
 have hl:=G2 (r:=r) a b hw.1 hw.2
 have hl:LoP r (j8 r (b8 s)+k0S s r fr * r.Interval):=hl.up (by have:=Int.mul_nonneg h0 (show 0<=r.Interval by have:=C7 hF; omega); omega)
 obtain ⟨h1,h2⟩:=b9i (day:=day) (first:=b8 s) (to:=to) (til:=G0 r) hF (n:=(40000-k0S s r fr).toNat) (c:=1) hl
 unfold D8
 exact ⟨by rw [h1],h2⟩
end
end Go.Re
end
section
namespace Go.Re
open Go Go.Wk Go.Wl Go.Rx
theorem c3f:∀ {l m:List Int},Up l->Up m->(∀ t,t∈l↔t∈m)->l=m
 | [],[],_,_,_=>rfl
 | [],y::m,_,_,h=>absurd ((h y).2 (List.mem_cons_self ..)) (by simp)
 | x::l,[],_,_,h=>absurd ((h x).1 (List.mem_cons_self ..)) (by simp)
 | x::l,y::m,hl,hm,h=>by
  obtain ⟨a1,a2⟩:=List.pairwise_cons.1 hl
  obtain ⟨b1,b2⟩:=List.pairwise_cons.1 hm
  have e:x=y:=by
   rcases List.mem_cons.1 ((h x).1 (List.mem_cons_self ..)) with e | e
   . exact e
   . rcases List.mem_cons.1 ((h y).2 (List.mem_cons_self ..)) with e2 | e2
     . exact e2.symm
     . have:=b1 x e; have:=a1 y e2; omega
  subst e
  rw [c3f a2 b2 fun t=>⟨fun ht=>?_,fun ht=>?_⟩]
  . rcases List.mem_cons.1 ((h t).1 (List.mem_cons_of_mem _ ht)) with e | e
    . subst e; have:=a1 t ht; omega
    . exact e
  . rcases List.mem_cons.1 ((h t).2 (List.mem_cons_of_mem _ ht)) with e | e
    . subst e; have:=b1 t ht; omega
    . exact e
def geB (x t:Int):Bool:=decide (x<=t)
def ltB (x t:Int):Bool:=decide (t<x)
theorem c4r {x t:Int}:geB x t=true↔x<=t:=decide_eq_true_iff
theorem lt_iff {x t:Int}:ltB x t=true↔t<x:=decide_eq_true_iff
theorem c2u {x:Int}:∀ {l:List Int},Up l->l=l.filter (ltB x)++l.filter (geB x)
 | [],_=>rfl
 | t::l,h=>by
  obtain ⟨a1,a2⟩:=List.pairwise_cons.1 h
  by_cases hx:t<x
  . rw [List.filter_cons_of_pos (lt_iff.2 hx),List.filter_cons_of_neg (fun e=>by have:=c4r.1 e; omega),List.cons_append,<- c2u a2]
  . have e:(t::l).filter (ltB x)=[]:=filter_nil fun u hu e=>by
      have:=lt_iff.1 e
      rcases List.mem_cons.1 hu with rfl | hu
      . exact hx this
      . have:=a1 u hu; omega
    rw [e,List.nil_append,List.filter_eq_self.2]
    intro u hu
    refine c4r.2 ?_
    rcases List.mem_cons.1 hu with rfl | hu
    . omega
    . have:=a1 u hu; omega
theorem nr2:(Err.no 2).nr=2:=by decide
theorem nr5:(Err.no 5).nr=5:=by decide
section
variable {s:Tm} {r:Rl} {day first to til i0 k c t m fr:Int} {n:Nat}
theorem a9d {l:List Int}:(G8 r c l).Sublist l:=by
 unfold G8
 split
 . exact List.take_sublist ..
 . exact List.Sublist.refl _
theorem b8k {x:Int}:∀ {l:List Int} {n:Nat},Up l->(l.take n).filter (ltB x)=(l.filter (ltB x)).take n
 | [],n,_=>by simp
 | t::l,0,_=>by simp
 | t::l,n+1,h=>by
  obtain ⟨a1,a2⟩:=List.pairwise_cons.1 h
  rw [List.take_succ_cons]
  by_cases hx:t<x
  . rw [List.filter_cons_of_pos (lt_iff.2 hx),List.filter_cons_of_pos (lt_iff.2 hx),List.take_succ_cons,b8k a2]
  . have no:∀ u∈l,¬ ltB x u=true:=fun u hu e=>by have:=lt_iff.1 e; have:=a1 u hu; omega
    rw [List.filter_cons_of_neg (fun e=>hx (lt_iff.1 e)),List.filter_cons_of_neg (fun e=>hx (lt_iff.1 e)),filter_nil no,filter_nil fun u hu=>no u (List.mem_of_mem_take hu),List.take_nil]
theorem d6d {x:Int} {l:List Int} (h:Up l):(G8 r c l).filter (ltB x)=G8 r c (l.filter (ltB x)):=by
 unfold G8
 split
 . exact b8k h
 . rfl
theorem R3 (hF:p9 s r) (h0:0<=fr):0<=k0S s r fr/\(k0S s r fr=0 ∨ (r.Count=0/\b8 s<fr/\p4 r (j8 r (b8 s)+k0S s r fr * r.Interval)<=fr)):=by
 obtain ⟨a,b⟩:=v6 hF.rt
 obtain ⟨w0,w1⟩:=M3 hF
 have hI:=C7 hF
 have hz:=d0s (s:=s) (r:=r) (fr:=fr) hI (fun x x0 x1=>W0 x0 x1 w0 w1) h0 ⟨a,b⟩
 refine ⟨hz.1,?_⟩
 by_cases hc:r.Count=0/\b8 s<fr
 . by_cases hk:k0S s r fr=0
   . exact .inl hk
   refine .inr ⟨hc.1,hc.2,?_⟩
   have h2:k0S s r fr=max 0 ((j8 r (min fr 315537897599)-j8 r (b8 s)).tdiv r.Interval-1):=if_pos hc
   have hm:=P1 (r:=r) (t:=b8 s) (u:=min fr 315537897599) a (by omega) (by omega) w0 w1
   rw [Int.tdiv_eq_ediv_of_nonneg (by omega)] at h2
   have h3:=Int.ediv_mul_le (j8 r (min fr 315537897599)-j8 r (b8 s)) (show r.Interval≠0 by omega)
   have h4:((j8 r (min fr 315537897599)-j8 r (b8 s)) / r.Interval-1) * r.Interval=(j8 r (min fr 315537897599)-j8 r (b8 s)) / r.Interval * r.Interval-r.Interval:=by rw [Int.sub_mul,Int.one_mul]
   have h5:k0S s r fr=(j8 r (min fr 315537897599)-j8 r (b8 s)) / r.Interval-1:=by omega
   have hl:LoP r (j8 r (b8 s)+k0S s r fr * r.Interval):=(G2 (r:=r) a b w0 w1).up (by omega)
   have:=(H4 hl (t:=min fr 315537897599) (by omega) (by omega)).2 (by rw [h5,h4]; omega)
   omega
 . exact .inl (if_neg hc)
theorem c7q (hF:p9 s r) {k:Int} (h0:0<=k) {n:Nat}:Up (H5 s r day (j8 r (b8 s)) n k):=by
 obtain ⟨a,b⟩:=v6 hF.rt
 obtain ⟨w0,w1⟩:=M3 hF
 have hI:=C7 hF
 exact b87 hF ((G2 (r:=r) a b w0 w1).up (by have:=Int.mul_nonneg h0 (show 0<=r.Interval by omega); omega))
theorem b5z (hF:p9 s r) (h0:0<=fr):Up (D8 s r day fr to).1:=by
 have hk:=(R3 hF h0).1
 rw [(R5 hF hk).1]
 refine List.pairwise_append.2 ⟨by split; exact List.pairwise_singleton ..; exact List.Pairwise.nil,((c7q hF hk).filter _).sublist a9d,fun t ht u hu=>?_⟩
 have h2:=L6.1 (List.mem_filter.1 (a9d.subset hu)).2
 split at ht
 . cases List.mem_singleton.1 ht; omega
 . cases ht
end
end Go.Re
end
section
namespace Go.Re
open Go Go.Wk Go.Wl Go.Rx
theorem b3f:∀ {T y:List Int} {e:Bool},V8 (fun _ _=>true) y T e=(y++T,e)
 | [],y,e=>by unfold V8; rw [List.append_nil]
 | t::T,y,e=>by unfold V8; rw [cond_true,b3f]; simp
theorem b8t {res:List Int->Int->Bool}:∀ {T y:List Int} {e:Bool},(V8 res y T e).1.length<=y.length+T.length
 | [],y,e=>by unfold V8; simp
 | t::T,y,e=>by
  unfold V8
  cases res y t with
  | true =>
   have:=b8t (res:=res) (T:=T) (y:=y++[t]) (e:=e)
   rw [List.length_append] at this
   simp only [List.length_cons,List.length_nil] at this ⊢
   rw [cond_true]
   omega
  | false=>simp
theorem b4e {s:Tm} {r:Rl} {day to fr:Int} (hF:p9 s r) (h0:0<=fr) (h:J3 s r day to=false):(D8 s r day fr to).2=false:=by
 obtain ⟨hk,hk1⟩:=R3 hF h0
 obtain ⟨a,b⟩:=v6 hF.rt
 obtain ⟨w0,w1⟩:=M3 hF
 have hI:=C7 hF
 have lo:∀ j:Int,0<=j->LoP r (j8 r (b8 s)+j * r.Interval):=fun j hj=>(G2 (r:=r) a b w0 w1).up (by have:=Int.mul_nonneg hj (show 0<=r.Interval by omega); omega)
 rw [<- Bool.not_eq_true,(R5 (day:=day) (to:=to) hF hk).2,Classical.not_not]
 have u:=T6 hI (show 40000<=k0S s r fr+(40000-k0S s r fr).toNat by omega)
 have hb:=H9 (lo 40000 (by decide)) (show j8 r (b8 s)+40000 * r.Interval<=j8 r (b8 s)+(k0S s r fr+(40000-k0S s r fr).toNat) * r.Interval by omega)
 obtain ⟨g0,g1⟩:=I3 (r:=r) (lo 40000 (by decide)).a
 have hin:=fun t ht=>a4e (t:=t) (day:=day) (n:=40000) hF (lo 0 (by decide)) ht
 unfold J3 at h
 rw [show (0:Int)+((40000:Nat):Int)=40000 by omega] at hin
 generalize p4 r (j8 r (b8 s)+40000 * r.Interval)=b4 at *
 by_cases h1:to<=b4 ∨ 315537897600<=b4
 . unfold X5; omega
 rw [if_neg h1] at h
 by_cases h2:0<(r.Until.length:Int)/\b8 (ix r.Until 0)<b4
 . have e:G0 r=b8 (ix r.Until 0):=if_pos h2.1
   unfold X5; omega
 rw [if_neg h2] at h
 by_cases h3:0<r.Count
 . rw [if_pos h3] at h
   have hz:k0S s r fr=0:=hk1.resolve_right (by omega)
   have hz0:k0S s r 0=0:=(R3 hF (show (0:Int)<=0 by decide)).2.resolve_right (by omega)
   have e1:=(R5 (day:=day) (fr:=0) (to:=b4) hF (by omega)).1
   rw [hz0] at e1
   rw [hz]
   have l1:=b8t (res:=a1m r) (T:=(D8 s r day 0 b4).1) (y:=[]) (e:=(D8 s r day 0 b4).2)
   unfold c3e at h
   generalize V8 (a1m r) [] (D8 s r day 0 b4).1 (D8 s r day 0 b4).2=g at *
   have hg:r.Count<=(g.1.length:Int):=by
    by_cases hh:r.Count<=(g.1.length:Int) ∨ g.2=true
    . rw [if_pos hh] at h
      exact hh.resolve_right (by rw [h]; decide)
    . rw [if_neg hh] at h; cases h
   rw [e1,List.length_append] at l1
   have l2:(if b8 s<b4 then [b8 s] else []).length<=1:=by split <;> simp
   have e:(H5 s r day (j8 r (b8 s)) (40000-(0:Int)).toNat 0).filter (PT (b8 s) to (G0 r))=(H5 s r day (j8 r (b8 s)) (40000-(0:Int)).toNat 0).filter (PT (b8 s) b4 (G0 r)):=List.filter_congr fun t ht=>by
    have:=hin t ht
    rw [Bool.eq_iff_iff,L6,L6]
    omega
   rw [e]
   rw [List.length_nil] at l1
   unfold X5
   omega
 . rw [if_neg h3] at h; cases h
def R7 (f:Int) (l:List Int):Int:=l.getLast?.getD f
theorem a94 {f t:Int} {l:List Int}:R7 f (l++[t])=t:=by unfold R7; simp
theorem b9c {f x:Int}:∀ {l:List Int},Up l->x∈l->(∀ t∈l,t<=x)->R7 f l=x:=fun {l} hu hx hm=>by
 obtain ⟨m,y,rfl⟩:∃ m y,l=m++[y]:=by
  rcases List.eq_nil_or_concat l with rfl | ⟨m,y,rfl⟩
  . cases hx
  . exact ⟨m,y,by simp⟩
 rw [a94]
 have h1:=hm y (by simp)
 rcases List.mem_append.1 hx with h | h
 . have:=(List.pairwise_append.1 hu).2.2 x h y (by simp)
   omega
 . exact (List.mem_singleton.1 h).symm
theorem d08 {s:Tm} (h:a09 s):atS (b8 s) s=s:=by
 obtain ⟨hd,hh,hm,hs,hb⟩:=h
 have hn:=H6 hd
 have e:b8 s=N4 s:=if_pos ⟨hd,hh,hm,hs,hb⟩
 have d1:N4 s / 86400+1=D7 s.Day:=by unfold N4; omega
 have d2:N4 s % 86400=s.Hour * 3600+s.Min * 60+s.Sec:=by unfold N4; omega
 rw [e]
 unfold atS
 rw [if_neg,d1,d2,c3n hd]
 . have e1:(s.Hour * 3600+s.Min * 60+s.Sec) / 3600=s.Hour:=by omega
   have e2:(s.Hour * 3600+s.Min * 60+s.Sec) / 60 % 60=s.Min:=by omega
   have e3:(s.Hour * 3600+s.Min * 60+s.Sec) % 60=s.Sec:=by omega
   rw [e1,e2,e3]
 . rintro (h | h | h)
   . unfold N4 at h; omega
   . refine hb ⟨h.1,?_⟩
     rcases h.2 with h | h
     . exact .inr h
     . left; omega
   . rw [d1] at h; omega
open Classical in
noncomputable def B9 (s:Tm) (r:Rl) (a:Tm):Tm×Bool×Err :=
 if ¬ A0 s r=true ∨ ¬ n7 a=true then (a30,false,.no 2) else if J3 s r (j9 s.Day) (b8 a+1)=true then (a30,false,.no 5)
 else if b8 a+1<=b8 s then (a30,false,.nil) else (atS (R7 (b8 s) (D8 s r (j9 s.Day) 0 (b8 a+1)).1) s,true,.nil)
open Classical in
noncomputable def isP (s:Tm) (r:Rl) (t:Tm):Bool×Err:=if (B9 s r t).2.2=.nil then (decide ((B9 s r t).2.1=true/\(B9 s r t).1=t),.nil) else (false,(B9 s r t).2.2)
theorem a4h {s:Tm} {r:Rl} {day to t:Int} (hF:p9 s r) (hc:¬ 0<r.Count):t∈(D8 s r day 0 to).1↔(t=b8 s/\b8 s<to) ∨ (b8 s<t/\t<to/\t<=G0 r)/\∃ j:Int,0<=j/\j<40000/\t∈u4 s r day (j8 r (b8 s)+j * r.Interval):=by
 have hz0:k0S s r 0=0:=(R3 hF (show (0:Int)<=0 by decide)).2.resolve_right (by have:=(v6 hF.rt).1; omega)
 have e1:=(R5 (day:=day) (fr:=0) (to:=to) hF (by omega)).1
 rw [hz0] at e1
 rw [e1,d3i hc,List.mem_append,List.mem_filter,L6,a1y]
 have e2:t∈(if b8 s<to then [b8 s] else [])↔t=b8 s/\b8 s<to:=by
  split
  . rename_i h; rw [List.mem_singleton]; exact ⟨fun e=>⟨e,h⟩,fun e=>e.1⟩
  . rename_i h; exact ⟨fun e=>(by cases e),fun e=>absurd e.2 h⟩
 rw [e2]
 constructor
 . rintro (h | ⟨⟨j,j0,j1,hj⟩,h⟩)
   . exact .inl h
   . exact .inr ⟨h,j,j0,by omega,hj⟩
 . rintro (h | ⟨h,j,j0,j1,hj⟩)
   . exact .inl h
   . exact .inr ⟨⟨j,j0,by omega,hj⟩,h⟩
theorem e1a {s:Tm} {r:Rl} {day to t j:Int} (hF:p9 s r) (hc:¬ 0<r.Count) (h:J3 s r day to=false) (hj:0<=j) (ht:t∈u4 s r day (j8 r (b8 s)+j * r.Interval)) (h1:t<to) (h2:t<=G0 r):j<40000:=by
 obtain ⟨a,b⟩:=v6 hF.rt
 obtain ⟨w0,w1⟩:=M3 hF
 have hI:=C7 hF
 have lo:∀ j:Int,0<=j->LoP r (j8 r (b8 s)+j * r.Interval):=fun j hj=>(G2 (r:=r) a b w0 w1).up (by have:=Int.mul_nonneg hj (show 0<=r.Interval by omega); omega)
 rcases Int.lt_or_le j 40000 with hh | hh
 . exact hh
 exfalso
 have u:=T6 hI hh
 have hb:=H9 (lo 40000 (by decide)) (show j8 r (b8 s)+40000 * r.Interval<=j8 r (b8 s)+j * r.Interval by omega)
 have g:=(N9 hF ht).2.1
 have e:=a07 hF (lo j hj) ht
 unfold J3 at h
 generalize p4 r (j8 r (b8 s)+40000 * r.Interval)=b4 at *
 rw [if_neg (by omega)] at h
 by_cases h3:0<(r.Until.length:Int)/\b8 (ix r.Until 0)<b4
 . have e:G0 r=b8 (ix r.Until 0):=if_pos h3.1
   omega
 . rw [if_neg h3,if_neg hc] at h; cases h
structure DnI (s:Tm) (r:Rl) (day tl k:Int):Prop where
 a:∀ t j:Int,0<=j->k<j->b8 s<t->t<tl->t∈u4 s r day (j8 r (b8 s)+j * r.Interval)->False
structure DcI (L:List Int) (fi tl x:Int):Prop where
 a:∀ i:Int,x<i->i<L.length->¬ (ix L i<tl/\fi<ix L i)
section
variable {s:Tm} {r:Rl} {day tl k to:Int}
theorem DnI.init (hF:p9 s r) (h1:tl<=315537897600):DnI s r day tl ((j8 r (max 0 (tl-1))-j8 r (b8 s)).tdiv r.Interval):=⟨fun t j j0 hk h2 h3 ht=>by
 obtain ⟨a,b⟩:=v6 hF.rt
 obtain ⟨w0,w1⟩:=M3 hF
 have hI:=C7 hF
 have lo:LoP r (j8 r (b8 s)+j * r.Interval):=(G2 (r:=r) a b w0 w1).up (by have:=Int.mul_nonneg j0 (show 0<=r.Interval by omega); omega)
 have g:=(H4 lo (t:=t) (by omega) (by omega)).1 (N9 hF ht).2.1
 have m:=P1 (r:=r) (t:=t) (u:=max 0 (tl-1)) (by omega) (by omega) (by omega) w0 w1
 have m2:=P1 (r:=r) (t:=b8 s) (u:=max 0 (tl-1)) a (by omega) (by omega) w0 w1
 rw [Int.tdiv_eq_ediv_of_nonneg (by omega)] at hk
 have:=Int.le_ediv_of_mul_le (show 0<r.Interval by omega) (show j * r.Interval<=j8 r (max 0 (tl-1))-j8 r (b8 s) by omega)
 omega⟩
theorem DnI.step (h:DnI s r day tl k) (hc:DcI (u4 s r day (j8 r (b8 s)+k * r.Interval)) (b8 s) tl (-1)):DnI s r day tl (k-1):=⟨fun t j j0 hk h2 h3 ht=>by
 by_cases e:j=k
 . subst e
   obtain ⟨i,i0,i1,rfl⟩:=F6 ht
   exact hc.a i (by omega) i1 ⟨h3,h2⟩
 . exact h.a t j j0 (by omega) h2 h3 ht⟩
theorem DnI.found {x:Int} (h:DnI s r day tl k) (hF:p9 s r) (nc:¬ 0<r.Count) (hf:J3 s r day to=false) (hto:∀ t,t<tl↔t<to/\t<=G0 r) (k0:0<=k)
  (hc:DcI (u4 s r day (j8 r (b8 s)+k * r.Interval)) (b8 s) tl x) (x0:0<=x) (x1:x<(u4 s r day (j8 r (b8 s)+k * r.Interval)).length) (hx:ix (u4 s r day (j8 r (b8 s)+k * r.Interval)) x<tl/\b8 s<ix (u4 s r day (j8 r (b8 s)+k * r.Interval)) x) :
  R7 (b8 s) (D8 s r day 0 to).1=ix (u4 s r day (j8 r (b8 s)+k * r.Interval)) x:=by
 obtain ⟨a,b⟩:=v6 hF.rt
 obtain ⟨w0,w1⟩:=M3 hF
 have hI:=C7 hF
 have lo:∀ j:Int,0<=j->LoP r (j8 r (b8 s)+j * r.Interval):=fun j hj=>(G2 (r:=r) a b w0 w1).up (by have:=Int.mul_nonneg hj (show 0<=r.Interval by omega); omega)
 have hm:=R6 x0 x1
 have ht:=(hto _).1 hx.1
 refine b9c (b5z hF (Int.le_refl 0)) ((a4h hF nc).2 (.inr ⟨⟨hx.2,ht⟩,k,k0,e1a hF nc hf k0 hm ht.1 ht.2,hm⟩)) fun t h1=>?_
 rcases (a4h hF nc).1 h1 with ⟨rfl,_⟩ | ⟨⟨h2,h3⟩,j,j0,_,hj⟩
 . omega
 have h4:=(hto t).2 h3
 rcases Int.lt_trichotomy j k with hl | rfl | hl
 . have g:=(N9 hF hj).2.2
   have g2:=(N9 hF hm).2.1
   have u:=T6 hI (show j+1<=k by omega)
   rw [mul_succ] at u
   have:=H9 ((lo j j0).up (j:=j8 r (b8 s)+j * r.Interval+1) (by omega)) (show j8 r (b8 s)+j * r.Interval+1<=j8 r (b8 s)+k * r.Interval by omega)
   omega
 . obtain ⟨i,i0,i1,rfl⟩:=F6 hj
   have hix:i<=x:=by
    rcases Int.lt_or_le x i with hh | hh
    . exact absurd ⟨h4,h2⟩ (hc.a i hh i1)
    . exact hh
   by_cases e:i=x
   . subst e; exact Int.le_refl _
   . have:=List.pairwise_iff_getElem.1 (b00 (day:=day) (i:=j8 r (b8 s)+j * r.Interval) hF) i.toNat x.toNat (by omega) (by omega) (by omega)
     rw [A8 (by omega),A8 (by omega)]
     omega
 . exact absurd hj (fun hj=>h.a t j j0 hl h2 h4 hj)
theorem DnI.none (h:DnI s r day tl k) (hF:p9 s r) (nc:¬ 0<r.Count) (hto:∀ t,t<tl↔t<to/\t<=G0 r) (h1:b8 s<to) (hk:¬ (0<=k/\b8 s<tl)):R7 (b8 s) (D8 s r day 0 to).1=b8 s:=by
 refine b9c (b5z hF (Int.le_refl 0)) ((a4h hF nc).2 (.inl ⟨rfl,h1⟩)) fun t h1=>?_
 rcases (a4h hF nc).1 h1 with ⟨rfl,_⟩ | ⟨⟨h2,h3⟩,j,j0,_,hj⟩
 . exact Int.le_refl _
 . have h4:=(hto t).2 h3
   exact absurd hj (fun hj=>h.a t j j0 (by omega) h2 h4 hj)
theorem c62 (t:Tm):-1<=b8 t/\b8 t<315537897600:=by
 unfold b8
 split
 . rename_i h; have:=a1v h; omega
 . omega
theorem c4w:I0 .nil=.nil:=by unfold I0; rw [if_neg (by decide)]
end
end Go.Re
end
section
namespace Go.Proofs.YtdjfeninmbpflaaGreat
open Go Go.Wk Go.Wl Go.Rx Go.Re 
attribute [local irreducible] m7
def e14:Nat->Ann:=fun | 24=>⟨138,fun | 22=>some ⟨[3,4,6,9,10,12,17],[.slot 18 (.int .i64),.own 6 [(.int .i64),(.int .i64),(.int .i64),(.int .i64),(.int .i64),(.int .i64),.bool,.bool]]⟩ | 26=>some ⟨[3,4,6,9,10,12,17,18,19],[.slot 20 (.int .i64),.own 6 [(.int .i64),(.int .i64),(.int .i64),(.int .i64),(.int .i64),(.int .i64),.bool,.bool]]⟩ | 16=>some ⟨[3,4,6,9,12,68,69],[.slot 10 (.int .i64),.slot 70 (.int .i64)]⟩ | _=>none,nn⟩ | 34=>⟨171,fun | 16=>some ⟨[0,2,3,9,11,14],[.slot 10 (.int .i64),.slot 15 (.int .i64),.own 1000003 [.int .i64]]⟩ | 23=>some ⟨[0,2,3,9,11,14,15,130,131],[.slot 10 (.int .i64),.slot 132 (.int .i64),.own 1000003 [.int .i64]]⟩ | 7=>some ⟨[0,1,2,3,9,10,42,43],[.slot 11 (.int .i64),.slot 44 (.int .i64)]⟩ | _=>none,fun | 5=>some ⟨[0,1,2,3,9,10],[.own 1000003 [.int .i64]]⟩ | 16=>some ⟨[0,2,3,9,10,11,14],[.slot 15 (.int .i64)]⟩ | _=>none⟩ | 52=>⟨5,nn,nn⟩ | _=>⟨0,nn,nn⟩
def W6 (s:Tm) (r:Rl) (x_2:Int):=u4 (etT s) (etR r) (j9 (etD s.Day)) (j8 (etR r) (b8 (etT s))+x_2 * r.Interval)
def a38 (s:Tm) (r:Rl) (x_4:Int):=u4 (etT s) (etR r) (j9 (etD s.Day)) (j8 (etR r) (b8 (etT (etT s)))+x_4 * r.Interval)
def c1u (r:Rl) (s:Tm):=j8 (etR r) (bif false then max (0:Int) (315537897599:Int) else min (0:Int) (315537897599:Int))-j8 (etR r) (b8 (etT (etT s)))
def Vlb (s:Tm) (r:Rl) (a:Tm) (Q:Tm->Bool->Err->Prop):Prop :=
w4 (etR r)=true/\(¬A0 (etT s) (etR r)=true ∨ ¬n7 (etT a)=true->Q (Tm.mk (Dy.mk (0:Int) (0:Int) (0:Int)) (0:Int) (0:Int) (0:Int) false false) false (Err.no (2:Int)))/\(¬(¬A0 (etT s) (etR r)=true ∨ ¬n7 (etT a)=true)->b9 (b8 (etT a)+1)/\w4 (etR r)=true/\A0 (etT s) (etR r)=true/\(a33 (J3 (etT s) (etR r) (j9 (etD s.Day)) (b8 (etT a)+1))≠Err.nil->((a33 (J3 (etT s) (etR r) (j9 (etD s.Day)) (b8 (etT a)+1))).is (5:Int) ∨ a33 (J3 (etT s) (etR r) (j9 (etD s.Day)) (b8 (etT a)+1))=Err.nil)/\Q (Tm.mk (Dy.mk (0:Int) (0:Int) (0:Int)) (0:Int) (0:Int) (0:Int) false false) false (I0 (a33 (J3 (etT s) (etR r) (j9 (etD s.Day)) (b8 (etT a)+1)))))/\(¬a33 (J3 (etT s) (etR r) (j9 (etD s.Day)) (b8 (etT a)+1))≠Err.nil->(b8 (etT a)+1<=b8 (etT s)->Q (Tm.mk (Dy.mk (0:Int) (0:Int) (0:Int)) (0:Int) (0:Int) (0:Int) false false) false Err.nil)/\(¬b8 (etT a)+1<=b8 (etT s)->((0:Int)<r.Count->∃ (J:Int->Prop),((b8 (etT (etT s))<b8 (etT a)+1/\(0:Int)<=b8 (etT (etT s))->J (b8 (etT (etT s))))/\(¬(b8 (etT (etT s))<b8 (etT a)+1/\(0:Int)<=b8 (etT (etT s)))->J (b8 (etT s))))/\∀ (x:Int),J x->∃ (I:Int->Int->Prop),∃ (m:Int->Int->Nat),I (315537897600:Int) (0:Int)/\∀ (x_1 x_2:Int),I x_1 x_2->(x_2<(↑r.Until.length:Int)->(0:Int)<=x_2/\x_2<(↑r.Until.length:Int)/\(b9 (ix r.Until x_2).Day.Year->b9 (ix r.Until x_2).Day.Month->b9 (ix r.Until x_2).Day.Date->b9 (ix r.Until x_2).Hour->b9 (ix r.Until x_2).Min->b9 (ix r.Until x_2).Sec->b9 (x_2+1)/\I (b8 (etT (ix r.Until x_2))) (x_2+1)/\m (b8 (etT (ix r.Until x_2))) (x_2+1)<m x_1 x_2))/\(¬x_2<(↑r.Until.length:Int)->(0:Int)<=b8 (etT (etT s))/\b8 (etT (etT s))<=400000000000/\(0:Int)<=r.Wkst/\r.Wkst<=6/\∃ (J:Int->Prop),((r.Count=0/\b8 (etT (etT s))<0->(((0:Int)<=bif false then max (0:Int) (315537897599:Int) else min (0:Int) (315537897599:Int))/\(bif false then max (0:Int) (315537897599:Int) else min (0:Int) (315537897599:Int))<=400000000000/\(0:Int)<=r.Wkst/\r.Wkst<=6)/\b9 (c1u r s)/\(r.Interval≠0/\b9 ((c1u r s).tdiv r.Interval))/\b9 ((c1u r s).tdiv r.Interval-1)/\J (bif true then max (0:Int) ((c1u r s).tdiv r.Interval-1) else min (0:Int) ((c1u r s).tdiv r.Interval-1)))/\(¬(r.Count=0/\b8 (etT (etT s))<0)->J (0:Int)))/\∀ (x_3:Int),J x_3->∃ (I:Int->Int->Int->Prop),∃ (m:Int->Int->Int->Nat),I (1:Int) x_3 x/\∀ (x x_4 x_5:Int),I x x_4 x_5->b9 (x_4 * r.Interval)/\b9 (j8 (etR r) (b8 (etT (etT s)))+x_4 * r.Interval)/\(0:Int)<=j8 (etR r) (b8 (etT (etT s)))+x_4 * r.Interval/\j8 (etR r) (b8 (etT (etT s)))+x_4 * r.Interval<=1000000000000/\(0:Int)<=r.Wkst/\r.Wkst<=6/\(((b8 (etT a)+1<=p4 (etR r) (j8 (etR r) (b8 (etT (etT s)))+x_4 * r.Interval) ∨ x_1<p4 (etR r) (j8 (etR r) (b8 (etT (etT s)))+x_4 * r.Interval)) ∨ (0:Int)<r.Count/\r.Count<=x) ∨ (315537897600:Int)<=p4 (etR r) (j8 (etR r) (b8 (etT (etT s)))+x_4 * r.Interval)->x_5<=9000000000000000000/\(Err.nil.is (5:Int) ∨ Err.nil=Err.nil)/\Q (etT (atS x_5 (etT s))) (decide (Err.nil=Err.nil)) (I0 Err.nil))/\(¬(((b8 (etT a)+1<=p4 (etR r) (j8 (etR r) (b8 (etT (etT s)))+x_4 * r.Interval) ∨ x_1<p4 (etR r) (j8 (etR r) (b8 (etT (etT s)))+x_4 * r.Interval)) ∨ (0:Int)<r.Count/\r.Count<=x) ∨ (315537897600:Int)<=p4 (etR r) (j8 (etR r) (b8 (etT (etT s)))+x_4 * r.Interval))->((40000:Int)<=x_4->x_5<=9000000000000000000/\((Err.w (87:Nat) [] (Err.no (5:Int))).is (5:Int) ∨ Err.w (87:Nat) [] (Err.no (5:Int))=Err.nil)/\Q (etT (atS x_5 (etT s))) (decide (Err.w (87:Nat) [] (Err.no (5:Int))=Err.nil)) (I0 (Err.w (87:Nat) [] (Err.no (5:Int)))))/\(¬(40000:Int)<=x_4->w4 (etR r)=true/\A0 (etT s) (etR r)=true/\(0:Int)<=j8 (etR r) (b8 (etT (etT s)))+x_4 * r.Interval/\j8 (etR r) (b8 (etT (etT s)))+x_4 * r.Interval<=999999999999/\∃ (I_1:Int->Int->Int->Prop),∃ (m_1:Int->Int->Int->Nat),I_1 x (0:Int) x_5/\∀ (x_6 x_7 x_8:Int),I_1 x_6 x_7 x_8->(x_7<(↑(a38 s r x_4).length:Int)->(0:Int)<=x_7/\x_7<(↑(a38 s r x_4).length:Int)/\(b9 (ix (a38 s r x_4) x_7)->(ix (a38 s r x_4) x_7<=b8 (etT (etT s))->b9 (x_7+1)/\I_1 x_6 (x_7+1) x_8/\m_1 x_6 (x_7+1) x_8<m_1 x_6 x_7 x_8)/\(¬ix (a38 s r x_4) x_7<=b8 (etT (etT s))->((b8 (etT a)+1<=ix (a38 s r x_4) x_7 ∨ x_1<ix (a38 s r x_4) x_7) ∨ (0:Int)<r.Count/\r.Count<=x_6->b9 (x_4+1)/\I x_6 (x_4+1) x_8/\m x_6 (x_4+1) x_8<m x x_4 x_5)/\(¬((b8 (etT a)+1<=ix (a38 s r x_4) x_7 ∨ x_1<ix (a38 s r x_4) x_7) ∨ (0:Int)<r.Count/\r.Count<=x_6)->b9 (x_6+1)/\b9 (x_7+1)/\I_1 (x_6+1) (x_7+1) (ix (a38 s r x_4) x_7)/\m_1 (x_6+1) (x_7+1) (ix (a38 s r x_4) x_7)<m_1 x_6 x_7 x_8))))/\(¬x_7<(↑(a38 s r x_4).length:Int)->b9 (x_4+1)/\I x_6 (x_4+1) x_8/\m x_6 (x_4+1) x_8<m x x_4 x_5)))))/\(¬(0:Int)<r.Count->∃ (I:Int->Int->Prop),∃ (m:Int->Int->Nat),I (b8 (etT a)+1) (0:Int)/\∀ (x x_1:Int),I x x_1->(x_1<(↑r.Until.length:Int)->(0:Int)<=x_1/\x_1<(↑r.Until.length:Int)/\(b9 (ix r.Until x_1).Day.Year->b9 (ix r.Until x_1).Day.Month->b9 (ix r.Until x_1).Day.Date->b9 (ix r.Until x_1).Hour->b9 (ix r.Until x_1).Min->b9 (ix r.Until x_1).Sec->b9 (b8 (etT (ix r.Until x_1))+1)/\b9 (x_1+1)/\I (bif false then max x (b8 (etT (ix r.Until x_1))+1) else min x (b8 (etT (ix r.Until x_1))+1)) (x_1+1)/\m (bif false then max x (b8 (etT (ix r.Until x_1))+1) else min x (b8 (etT (ix r.Until x_1))+1)) (x_1+1)<m x x_1))/\(¬x_1<(↑r.Until.length:Int)->(0:Int)<=b8 (etT s)/\b8 (etT s)<=400000000000/\(0:Int)<=r.Wkst/\r.Wkst<=6/\b9 (x-1)/\(((0:Int)<=bif true then max (0:Int) (x-1) else min (0:Int) (x-1))/\(bif true then max (0:Int) (x-1) else min (0:Int) (x-1))<=400000000000/\(0:Int)<=r.Wkst/\r.Wkst<=6)/\b9 (j8 (etR r) (bif true then max (0:Int) (x-1) else min (0:Int) (x-1))-j8 (etR r) (b8 (etT s)))/\(r.Interval≠0/\b9 ((j8 (etR r) (bif true then max (0:Int) (x-1) else min (0:Int) (x-1))-j8 (etR r) (b8 (etT s))).tdiv r.Interval))/\∃ (I:Int->Int->Int->Int->Int->Int->Int->Bool->Bool->Prop),∃ (m:Int->Int->Int->Int->Int->Int->Int->Bool->Bool->Nat),I ((j8 (etR r) (bif true then max (0:Int) (x-1) else min (0:Int) (x-1))-j8 (etR r) (b8 (etT s))).tdiv r.Interval) (0:Int) (0:Int) (0:Int) (0:Int) (0:Int) (0:Int) false false/\∀ (x_2 x_3 x_4 x_5 x_6 x_7 x_8:Int) (x_9 x_10:Bool),I x_2 x_3 x_4 x_5 x_6 x_7 x_8 x_9 x_10->((0:Int)<=x_2/\b8 (etT s)<x->b9 (x_2 * r.Interval)/\b9 (j8 (etR r) (b8 (etT s))+x_2 * r.Interval)/\w4 (etR r)=true/\A0 (etT s) (etR r)=true/\(0:Int)<=j8 (etR r) (b8 (etT s))+x_2 * r.Interval/\j8 (etR r) (b8 (etT s))+x_2 * r.Interval<=999999999999/\b9 ((↑(W6 s r x_2).length:Int)-1)/\∃ (I_1:Int->Int->Int->Int->Int->Int->Int->Bool->Bool->Prop),∃ (m_1:Int->Int->Int->Int->Int->Int->Int->Bool->Bool->Nat),I_1 ((↑(W6 s r x_2).length:Int)-1) x_3 x_4 x_5 x_6 x_7 x_8 (decide (x_9=true)) (decide (x_10=true))/\∀ (x_11 x_12 x_13 x_14 x_15 x_16 x_17:Int) (x_18 x_19:Bool),I_1 x_11 x_12 x_13 x_14 x_15 x_16 x_17 x_18 x_19->((0:Int)<=x_11->(0:Int)<=x_11/\x_11<(↑(W6 s r x_2).length:Int)/\(b9 (ix (W6 s r x_2) x_11)->(ix (W6 s r x_2) x_11<x->(0:Int)<=x_11)/\(ix (W6 s r x_2) x_11<x->x_11<(↑(W6 s r x_2).length:Int))/\((ix (W6 s r x_2) x_11<x->b9 (ix (W6 s r x_2) x_11))->(ix (W6 s r x_2) x_11<x/\b8 (etT s)<ix (W6 s r x_2) x_11->((0:Int)<=x_11/\x_11<(↑(W6 s r x_2).length:Int))/\(b9 (ix (W6 s r x_2) x_11)->ix (W6 s r x_2) x_11<=9000000000000000000)/\(b9 (ix (W6 s r x_2) x_11)->Q (etT (atS (ix (W6 s r x_2) x_11) (etT s))) true Err.nil))/\(¬(ix (W6 s r x_2) x_11<x/\b8 (etT s)<ix (W6 s r x_2) x_11)->b9 (x_11-1)/\I_1 (x_11-1) x_12 x_13 x_14 x_15 x_16 x_17 (decide (x_18=true)) (decide (x_19=true))/\m_1 (x_11-1) x_12 x_13 x_14 x_15 x_16 x_17 (decide (x_18=true)) (decide (x_19=true))<m_1 x_11 x_12 x_13 x_14 x_15 x_16 x_17 x_18 x_19))))/\(¬(0:Int)<=x_11->b9 (x_2-1)/\I (x_2-1) x_12 x_13 x_14 x_15 x_16 x_17 (decide (x_18=true)) (decide (x_19=true))/\m (x_2-1) x_12 x_13 x_14 x_15 x_16 x_17 (decide (x_18=true)) (decide (x_19=true))<m x_2 x_3 x_4 x_5 x_6 x_7 x_8 x_9 x_10))/\(¬((0:Int)<=x_2/\b8 (etT s)<x)->Q (etT s) true Err.nil))))))
set_option maxHeartbeats 2000000 in
theorem plb (s:Tm) (r:Rl) (a:Tm) (hfw:w4 r=true):Vlb s r a (fun y0 y1 y2=>y0=(B9 s r a).1/\y1=(B9 s r a).2.1/\y2=(B9 s r a).2.2):=by
 unfold Vlb c1u a38 W6
 simp only [P2,V9,a0a]
 refine ⟨hfw,fun h=>?_,fun h=>?_⟩
 . unfold B9; rw [if_pos h]; exact ⟨rfl,rfl,rfl⟩
 have hf:A0 s r=true:=Classical.not_not.1 fun e=>h (.inl e)
 have ha:n7 a=true:=Classical.not_not.1 fun e=>h (.inr e)
 have hF:=G7.1 hf
 obtain ⟨px,hpx⟩:∃ p,B9 s r a=p:=⟨_,rfl⟩
 rw [hpx]
 unfold B9 at hpx
 rw [if_neg h] at hpx
 obtain ⟨fb,hfb⟩:∃ fb,J3 s r (j9 s.Day) (b8 a+1)=fb:=⟨_,rfl⟩
 rw [hfb] at hpx ⊢
 obtain ⟨s0,s1⟩:=v6 hF.rt
 obtain ⟨g0,g1⟩:=v6 ha
 obtain ⟨_,_,v0,v1,n0,n1,w0,w1⟩:=(m8.1 hF.rr).head
 obtain ⟨u1,u2⟩:=(m8.1 hF.rr).til
 have hix:∀ x,0<=x->x<315537897600->0<=j8 r x/\j8 r x<=315537897600:=fun x x0 x1=>W0 x0 x1 w0 w1
 have lt:∀ n i:Int,i<n->(n-(i+1)).toNat<(n-i).toNat:=fun n i h=>by omega
 refine ⟨⟨by omega,by omega⟩,hfw,hf,fun he=>?_,fun he=>?_⟩
 . cases fb with
   | false=>exact absurd rfl he
   | true =>
    rw [if_pos rfl] at hpx
    rw [<- hpx]
    exact ⟨.inl a4f,rfl,rfl,a3f⟩
 cases fb with
 | true=>exact absurd (fun e=>by cases e) he
 | false =>
 rw [if_neg Bool.false_ne_true] at hpx
 have hflag:=b4e (day:=j9 s.Day) (fr:=0) hF (Int.le_refl 0) hfb
 refine ⟨fun hle=>?_,fun hle=>?_⟩
 . rw [if_pos hle] at hpx; rw [<- hpx]; exact ⟨rfl,rfl,rfl⟩
 rw [if_neg hle] at hpx
 obtain ⟨a0,a1⟩:=hix _ s0 s1
 have e1:∀ x y:Int,(bif false then max x y else min x y)=min x y:=fun _ _=>rfl
 have e2:∀ x y:Int,(bif true then max x y else min x y)=max x y:=fun _ _=>rfl
 simp only [e1,e2]
 refine ⟨fun hc=>?_,fun hc=>?_⟩
 . obtain ⟨g,hg⟩:∃ g,V8 (fun _ _=>true) [] (D8 s r (j9 s.Day) 0 (b8 a+1)).1 (D8 s r (j9 s.Day) 0 (b8 a+1)).2=g:=⟨_,rfl⟩
   have hgL:g=((D8 s r (j9 s.Day) 0 (b8 a+1)).1,false):=by rw [<- hg,b3f,hflag]; rfl
   have R0:a2b (fun _ _=>true) g [] (D8 s r (j9 s.Day) 0 (b8 a+1)).1 (D8 s r (j9 s.Day) 0 (b8 a+1)).2:=⟨hg⟩
   have fin:∀ (y:List Int) (e:Bool) (x:Int),g=(y,e)->x=R7 (b8 s) y->e=false/\atS x s=px.1:=fun y e x h1 h2=>by
    rw [hgL] at h1
    have h3:=(Prod.mk.inj h1).1
    rw [h3] at hpx
    rw [h2,<- hpx]
    exact ⟨(Prod.mk.inj h1).2.symm,rfl⟩
   have px2:px.2.1=true/\px.2.2=.nil:=by rw [<- hpx]; exact ⟨rfl,rfl⟩
   clear hpx hgL hg hflag
   have ek:k0S s r 0=0:=by unfold k0S; rw [if_neg (fun hh=>absurd hh.1 (by omega))]
   unfold D8 at R0
   rw [ek] at R0
   have lo:∀ j:Int,0<=j->LoP r (j8 r (b8 s)+j * r.Interval):=fun j hj=>(G2 (r:=r) s0 s1 w0 w1).up (by have:=Int.mul_nonneg hj (show 0<=r.Interval by omega); omega)
   generalize hfi:b8 s=fi at *
   generalize j8 r fi=i0 at *
   generalize b8 a+1=to at *
   refine ⟨fun x=>x<=315537897600/\∃ y,x=R7 fi y/\a1j (fun _ _=>true) g s r (j9 s.Day) fi to (G0 r) i0 0 1 y,⟨fun hfst=>?_,fun hnf=>absurd ⟨by omega,s0⟩ hnf⟩,fun x hx=>⟨fun til z=>0<=z/\z<=(r.Until.length:Int)/\til=if 0<z then b8 (ix r.Until 0) else 315537897600,fun _ z=>((r.Until.length:Int)-z).toNat,⟨Int.le_refl 0,by omega,rfl⟩,fun til z hz=>⟨fun hlt=>⟨hz.1,hlt,fun _ _ _ _ _ _=>⟨⟨by omega,by omega⟩,⟨by omega,by omega,?_⟩,lt _ _ hlt⟩⟩,fun hge=>?_⟩⟩⟩
   . rw [if_pos hfst.1,List.cons_append,List.nil_append] at R0
     exact ⟨by omega,[fi],rfl,⟨R0.go rfl⟩⟩
   . have e:z=0:=by omega
     subst e; rfl
   . have etil:til=G0 r:=by
       rw [hz.2.2]
       unfold G0
       by_cases hl:0<(r.Until.length:Int)
       . rw [if_pos hl,if_pos (by omega)]
       . rw [if_neg hl,if_neg (by omega)]
     rw [etil]
     generalize G0 r=til at *
     refine ⟨s0,by omega,w0,w1,fun k=>k=0,⟨fun hh=>absurd hh.1 (by omega),fun _=>rfl⟩,fun k hk=>⟨fun c k x=>x<=315537897600/\1<=c/\c<=r.Count/\0<=k/\k<=40000/\∃ y,x=R7 fi y/\a1j (fun _ _=>true) g s r (j9 s.Day) fi to til i0 k c y,fun _ k _=>(40001-k).toNat,?_,fun c k x hI=>?_⟩⟩
     . subst hk
       exact ⟨hx.1,by decide,by omega,by decide,by decide,hx.2⟩
     . obtain ⟨hx1,c0,c1,k0,k1,y,hy,ho⟩:=hI
       obtain ⟨q0,q1⟩:=c06 hF.rr k0 k1
       refine ⟨⟨by omega,by omega⟩,⟨by omega,by omega⟩,by omega,by omega,w0,w1,fun he=>?_,fun he=>⟨fun h4=>?_,fun h4=>⟨hfw,hf,by omega,by omega,fun c' j x'=>x'<=315537897600/\1<=c'/\c'<=r.Count/\0<=j/\j<=((u4 s r (j9 s.Day) (i0+k * r.Interval)).length:Int)/\∃ y,x'=R7 fi y/\a1r (fun _ _=>true) g s r (j9 s.Day) fi to til i0 k c' ((u4 s r (j9 s.Day) (i0+k * r.Interval)).drop j.toNat) y,fun _ j _=>(((u4 s r (j9 s.Day) (i0+k * r.Interval)).length:Int)-j).toNat,⟨hx1,c0,c1,Int.le_refl 0,by omega,y,hy,by simpa using ho.enter he h4⟩,fun c' j x' hI'=>?_⟩⟩⟩
       . obtain ⟨_,q⟩:=fin y _ x (ho.fin he) hy
         exact ⟨by omega,.inr trivial,q,by rw [px2.1]; exact decide_eq_true trivial,by rw [px2.2]; exact c4w⟩
       . exact absurd (fin y _ x (ho.many he h4) hy).1 (by decide)
       . have hcl:=a0j (day:=j9 s.Day) (i:=i0+k * r.Interval) hF (by omega)
         have hce:∀ t∈u4 s r (j9 s.Day) (i0+k * r.Interval),t<315537897600:=fun t ht=>a07 hF (lo k k0) ht
         obtain ⟨hx1,c0,c1,j0,j1,y,hy,hi⟩:=hI'
         generalize u4 s r (j9 s.Day) (i0+k * r.Interval)=L at *
         refine ⟨fun hj=>⟨j0,hj,fun _=>?_⟩,fun hj=>⟨⟨by omega,by omega⟩,⟨hx1,c0,c1,by omega,by omega,y,hy,?_⟩,by show (_:Int).toNat<(_:Int).toNat; omega⟩⟩
         . have hL:=hce _ (R6 j0 hj)
           rw [I9 j0 hj] at hi
           refine ⟨fun hs=>⟨⟨by omega,by omega⟩,⟨hx1,c0,c1,by omega,by omega,y,hy,hi.skip hs⟩,lt _ _ hj⟩,fun hs=>⟨fun hb=>⟨⟨by omega,by omega⟩,⟨hx1,c0,c1,by omega,by omega,y,hy,hi.leave hs hb⟩,by show (_:Int).toNat<(_:Int).toNat; omega⟩,fun hb=>?_⟩⟩
           have hcc:¬ r.Count<=c':=fun e=>hb (.inr ⟨hc,e⟩)
           exact ⟨⟨by omega,by omega⟩,⟨by omega,by omega⟩,⟨by omega,by omega,by omega,by omega,by omega,y++[ix L j],a94.symm,(hi.one hs hb).1 rfl⟩,lt _ _ hj⟩
         . rw [List.drop_eq_nil_of_le (by omega)] at hi
           exact hi.nil
 . have px2:px=(atS (R7 (b8 s) (D8 s r (j9 s.Day) 0 (b8 a+1)).1) s,true,.nil):=hpx.symm
   clear hpx
   refine ⟨fun tl z=>0<=z/\z<=(r.Until.length:Int)/\tl=if 0<z then min (b8 a+1) (b8 (ix r.Until 0)+1) else b8 a+1,fun _ z=>((r.Until.length:Int)-z).toNat,⟨Int.le_refl 0,by omega,rfl⟩,fun tl z hz=>⟨fun hlt=>⟨hz.1,hlt,fun _ _ _ _ _ _=>?_⟩,fun hge=>?_⟩⟩
   . have e:z=0:=by omega
     subst e
     have:=c62 (ix r.Until 0)
     exact ⟨⟨by omega,by omega⟩,⟨by omega,by omega⟩,⟨by omega,by omega,by rw [hz.2.2]; rfl⟩,lt _ _ hlt⟩
   . have:=c62 (ix r.Until 0)
     have hto:∀ t,t<tl↔t<b8 a+1/\t<=G0 r:=fun t=>by
      rw [hz.2.2]
      unfold G0
      by_cases hl:0<(r.Until.length:Int)
      . rw [if_pos hl,if_pos (by omega)]; omega
      . rw [if_neg hl,if_neg (by omega)]; omega
     have tl1:0<=tl/\tl<=315537897600:=by
      rw [hz.2.2]
      split <;> omega
     obtain ⟨b0,b1⟩:=hix (max 0 (tl-1)) (by omega) (by omega)
     have hD:=DnI.init (day:=j9 s.Day) (tl:=tl) hF tl1.2
     obtain ⟨t0,t1⟩:=b1h (d:=j8 r (max 0 (tl-1))-j8 r (b8 s)) (n:=r.Interval)
     have hkm:b8 s<tl->∀ k,0<=k->k<=(j8 r (max 0 (tl-1))-j8 r (b8 s)).tdiv r.Interval->0<=k * r.Interval/\k * r.Interval<=315537897600:=fun h1 k k0 k1=>by
      have m2:=P1 (r:=r) (t:=b8 s) (u:=max 0 (tl-1)) s0 (by omega) (by omega) w0 w1
      rw [Int.tdiv_eq_ediv_of_nonneg (by omega)] at k1
      have h3:=Int.ediv_mul_le (j8 r (max 0 (tl-1))-j8 r (b8 s)) (show r.Interval≠0 by omega)
      have h4:=T6 v0 k1
      have h5:=Int.mul_nonneg k0 (show 0<=r.Interval by omega)
      omega
     generalize (j8 r (max 0 (tl-1))-j8 r (b8 s)).tdiv r.Interval=km at *
     refine ⟨s0,by omega,w0,w1,⟨by omega,by omega⟩,⟨by omega,by omega,w0,w1⟩,⟨by omega,by omega⟩,⟨by omega,by omega,by omega⟩,fun k _ _ _ _ _ _ _ _=>k<=km/\(k=km ∨ -1<=k)/\DnI s r (j9 s.Day) tl k,fun k _ _ _ _ _ _ _ _=>(k+1).toNat,⟨Int.le_refl _,.inl rfl,hD⟩,?_⟩
     rintro k _ _ _ _ _ _ _ _ ⟨kk,kl,hk⟩
     refine ⟨fun hg=>?_,fun hg=>?_⟩
     . obtain ⟨q0,q1⟩:=hkm hg.2 k hg.1 kk
       have hcl:=a0j (day:=j9 s.Day) (i:=j8 r (b8 s)+k * r.Interval) hF (by omega)
       have hce:∀ t∈u4 s r (j9 s.Day) (j8 r (b8 s)+k * r.Interval),t<315537897600:=fun t ht=>a07 hF ((G2 (r:=r) s0 s1 w0 w1).up (by omega)) ht
       have hfd:=fun x h1 h2 h3 h4=>hk.found (x:=x) hF hc hfb hto hg.1 h1 h2 h3 h4
       have hst:=hk.step
       generalize u4 s r (j9 s.Day) (j8 r (b8 s)+k * r.Interval)=L at *
       refine ⟨⟨by omega,by omega⟩,⟨by omega,by omega⟩,hfw,hf,by omega,by omega,⟨by omega,by omega⟩,fun x _ _ _ _ _ _ _ _=>-1<=x/\x<(L.length:Int)/\DcI L (b8 s) tl x,fun x _ _ _ _ _ _ _ _=>(x+1).toNat,⟨by omega,by omega,⟨fun i h1 h2=>by omega⟩⟩,?_⟩
       rintro x _ _ _ _ _ _ _ _ ⟨x0,x1,hx⟩
       refine ⟨fun hx0=>⟨hx0,x1,fun _=>⟨fun _=>hx0,fun _=>x1,fun _=>⟨fun hyes=>⟨⟨hx0,x1⟩,fun _=>?_,fun _=>?_⟩,fun hno=>⟨⟨by omega,by omega⟩,⟨by omega,by omega,⟨fun i h1 h2=>?_⟩⟩,?_⟩⟩⟩⟩,fun hx0=>?_⟩
       . have:=hce _ (R6 hx0 x1); omega
       . rw [px2,hfd x hx hx0 x1 hyes]; exact ⟨rfl,rfl,rfl⟩
       . by_cases e:i=x
         . subst e; exact hno
         . exact hx.a i (by omega) h2
       . show (_:Int).toNat<(_:Int).toNat
         omega
       . have e:x=-1:=by omega
         subst e
         refine ⟨⟨by omega,by omega⟩,⟨by omega,.inr (by omega),hst hx⟩,?_⟩
         show (_:Int).toNat<(_:Int).toNat
         omega
     . rw [px2,hk.none hF hc hto (by omega) hg,d08 (u7.1 hF.rt)]
       exact ⟨rfl,rfl,rfl⟩
noncomputable def e2p (s:Tm) (r:Rl) (a:Tm) (nx:Nat):CR U:=⟨[w4 r=true],[],.tup [.agg [.int .i64 ((B9 s r a).1).Day.Year,.int .i64 ((B9 s r a).1).Day.Month,.int .i64 ((B9 s r a).1).Day.Date,.int .i64 ((B9 s r a).1).Hour,.int .i64 ((B9 s r a).1).Min,.int .i64 ((B9 s r a).1).Sec,blB ((B9 s r a).1).Bare,blB ((B9 s r a).1).UTC],blB ((B9 s r a).2.1),.err ((B9 s r a).2.2)],[]⟩
noncomputable def clb (a:List (SV U)) (nx:Nat):Option (CR U):=match a with | [.agg l_s,.agg l_r,.agg l_a]=>(y25.bk (.agg l_s)).bind fun s=>(y30.bk (.agg l_r)).bind fun r=>(y25.bk (.agg l_a)).bind fun a=>some (e2p s r a nx) | _=>none
noncomputable def Nlb:Env:=d1o.addC 24 clb
theorem b6z:j7 Nlb:=a5g.addC Tryz.call24 fun (args:List (SV U)) nx (c:CR U) (h:clb args nx=some c) hp ho=>by
 unfold clb at h
 split at h
 . rename_i l_s l_r l_a
   obtain ⟨s,hb_s,h⟩:=Option.bind_eq_some_iff.1 h
   obtain ⟨r,hb_r,h⟩:=Option.bind_eq_some_iff.1 h
   obtain ⟨a,hb_a,h⟩:=Option.bind_eq_some_iff.1 h
   cases h
   exact E2.weak (b:=[.agg [.int .i64 s.Day.Year,.int .i64 s.Day.Month,.int .i64 s.Day.Date,.int .i64 s.Hour,.int .i64 s.Min,.int .i64 s.Sec,blB s.Bare,blB s.UTC],.agg [.int .i64 r.Freq,.int .i64 r.Interval,.int .i64 r.Count,.sl (N:=U) 25 r.Until,.sl (N:=U) 3 r.Month,.sl (N:=U) 3 r.WeekNo,.sl (N:=U) 3 r.YearDay,.sl (N:=U) 3 r.MonthDay,.sl (N:=U) 60 r.Days,.sl (N:=U) 3 r.Hour,.sl (N:=U) 3 r.Minute,.sl (N:=U) 3 r.Second,.sl (N:=U) 3 r.SetPos,.int .i64 r.Wkst],.agg [.int .i64 a.Day.Year,.int .i64 a.Day.Month,.int .i64 a.Day.Date,.int .i64 a.Hour,.int .i64 a.Min,.int .i64 a.Sec,blB a.Bare,blB a.UTC]]) (d8y (an:=e14 24) a5g (j6 a5g o9 e14 4) Tryz.func24 (k1:=.val 25) (k2:=.bool) (k3:=.err) rfl rfl rfl (kc (plb s r a ho.1) (by kernel_rfl))) fun ρ Z w v hr=>q9 [.agg l_s,.agg l_r,.agg l_a] [.agg [.int .i64 s.Day.Year,.int .i64 s.Day.Month,.int .i64 s.Day.Date,.int .i64 s.Hour,.int .i64 s.Min,.int .i64 s.Sec,blB s.Bare,blB s.UTC],.agg [.int .i64 r.Freq,.int .i64 r.Interval,.int .i64 r.Count,.sl (N:=U) 25 r.Until,.sl (N:=U) 3 r.Month,.sl (N:=U) 3 r.WeekNo,.sl (N:=U) 3 r.YearDay,.sl (N:=U) 3 r.MonthDay,.sl (N:=U) 60 r.Days,.sl (N:=U) 3 r.Hour,.sl (N:=U) 3 r.Minute,.sl (N:=U) 3 r.Second,.sl (N:=U) 3 r.SetPos,.int .i64 r.Wkst],.agg [.int .i64 a.Day.Year,.int .i64 a.Day.Month,.int .i64 a.Day.Date,.int .i64 a.Hour,.int .i64 a.Min,.int .i64 a.Sec,blB a.Bare,blB a.UTC]] _ ⟨fun _ h=>o7 hb_s h,fun _ h=>s9 hb_r h,fun _ h=>o7 hb_a h,trivial⟩ hr
 . cases h
def d7g:Nat->Ann:=fun | 26=>⟨38,nn,nn⟩ | _=>⟨0,nn,nn⟩
def Vlj (s:Tm) (r:Rl) (a:Tm) (Q:Bool->Err->Prop):Prop :=
w4 (etR r)=true/\(¬A0 (etT s) (etR r)=true ∨ ¬n7 (etT a)=true->Q false (Err.no (2:Int)))/\(¬(¬A0 (etT s) (etR r)=true ∨ ¬n7 (etT a)=true)->w4 (etR r)=true/\((B9 (etT s) (etR r) (etT a)).snd.snd≠Err.nil->Q false (B9 (etT s) (etR r) (etT a)).snd.snd)/\(¬(B9 (etT s) (etR r) (etT a)).snd.snd≠Err.nil->Q (decide ((B9 (etT s) (etR r) (etT a)).snd.fst=true/\((B9 (etT s) (etR r) (etT a)).fst.Day.Year=a.Day.Year/\(B9 (etT s) (etR r) (etT a)).fst.Day.Month=a.Day.Month/\(B9 (etT s) (etR r) (etT a)).fst.Day.Date=a.Day.Date/\True)/\(B9 (etT s) (etR r) (etT a)).fst.Hour=a.Hour/\(B9 (etT s) (etR r) (etT a)).fst.Min=a.Min/\(B9 (etT s) (etR r) (etT a)).fst.Sec=a.Sec/\((B9 (etT s) (etR r) (etT a)).fst.Bare=true↔a.Bare=true)/\((B9 (etT s) (etR r) (etT a)).fst.UTC=true↔a.UTC=true)/\True)) Err.nil))
set_option maxHeartbeats 2000000 in
theorem plj (s:Tm) (r:Rl) (a:Tm) (hfw:w4 r=true):Vlj s r a (fun y0 y1=>y0=(isP s r a).1/\y1=(isP s r a).2):=by
 unfold Vlj
 simp only [P2,V9,a0a,c6v]
 unfold isP
 refine ⟨hfw,fun h=>?_,fun h=>⟨hfw,fun h1=>?_,fun h1=>?_⟩⟩
 . have e:B9 s r a=(a30,false,.no 2):=if_pos h
   rw [e,if_neg (fun e=>by cases e)]
   exact ⟨rfl,rfl⟩
 . rw [if_neg h1]; exact ⟨rfl,rfl⟩
 . rw [if_pos (Classical.not_not.1 h1)]
   exact ⟨decide_eq_decide.2 Iff.rfl,rfl⟩
noncomputable def e31 (s:Tm) (r:Rl) (a:Tm) (nx:Nat):CR U:=⟨[w4 r=true],[],.tup [blB ((isP s r a).1),.err ((isP s r a).2)],[]⟩
noncomputable def clj (a:List (SV U)) (nx:Nat):Option (CR U):=match a with | [.agg l_s,.agg l_r,.agg l_a]=>(y25.bk (.agg l_s)).bind fun s=>(y30.bk (.agg l_r)).bind fun r=>(y25.bk (.agg l_a)).bind fun a=>some (e31 s r a nx) | _=>none
noncomputable def Nlj:Env:=Nlb.addC 26 clj
theorem c7k:j7 Nlj:=b6z.addC Tryz.call26 fun (args:List (SV U)) nx (c:CR U) (h:clj args nx=some c) hp ho=>by
 unfold clj at h
 split at h
 . rename_i l_s l_r l_a
   obtain ⟨s,hb_s,h⟩:=Option.bind_eq_some_iff.1 h
   obtain ⟨r,hb_r,h⟩:=Option.bind_eq_some_iff.1 h
   obtain ⟨a,hb_a,h⟩:=Option.bind_eq_some_iff.1 h
   cases h
   exact E2.weak (b:=[.agg [.int .i64 s.Day.Year,.int .i64 s.Day.Month,.int .i64 s.Day.Date,.int .i64 s.Hour,.int .i64 s.Min,.int .i64 s.Sec,blB s.Bare,blB s.UTC],.agg [.int .i64 r.Freq,.int .i64 r.Interval,.int .i64 r.Count,.sl (N:=U) 25 r.Until,.sl (N:=U) 3 r.Month,.sl (N:=U) 3 r.WeekNo,.sl (N:=U) 3 r.YearDay,.sl (N:=U) 3 r.MonthDay,.sl (N:=U) 60 r.Days,.sl (N:=U) 3 r.Hour,.sl (N:=U) 3 r.Minute,.sl (N:=U) 3 r.Second,.sl (N:=U) 3 r.SetPos,.int .i64 r.Wkst],.agg [.int .i64 a.Day.Year,.int .i64 a.Day.Month,.int .i64 a.Day.Date,.int .i64 a.Hour,.int .i64 a.Min,.int .i64 a.Sec,blB a.Bare,blB a.UTC]]) (c7d (an:=d7g 26) b6z (j6 b6z o9 d7g 2) Tryz.func26 (k1:=.bool) (k2:=.err) rfl rfl (kc (plj s r a ho.1) (by kernel_rfl))) fun ρ Z w v hr=>q9 [.agg l_s,.agg l_r,.agg l_a] [.agg [.int .i64 s.Day.Year,.int .i64 s.Day.Month,.int .i64 s.Day.Date,.int .i64 s.Hour,.int .i64 s.Min,.int .i64 s.Sec,blB s.Bare,blB s.UTC],.agg [.int .i64 r.Freq,.int .i64 r.Interval,.int .i64 r.Count,.sl (N:=U) 25 r.Until,.sl (N:=U) 3 r.Month,.sl (N:=U) 3 r.WeekNo,.sl (N:=U) 3 r.YearDay,.sl (N:=U) 3 r.MonthDay,.sl (N:=U) 60 r.Days,.sl (N:=U) 3 r.Hour,.sl (N:=U) 3 r.Minute,.sl (N:=U) 3 r.Second,.sl (N:=U) 3 r.SetPos,.int .i64 r.Wkst],.agg [.int .i64 a.Day.Year,.int .i64 a.Day.Month,.int .i64 a.Day.Date,.int .i64 a.Hour,.int .i64 a.Min,.int .i64 a.Sec,blB a.Bare,blB a.UTC]] _ ⟨fun _ h=>o7 hb_s h,fun _ h=>s9 hb_r h,fun _ h=>o7 hb_a h,trivial⟩ hr
 . cases h
end Go.Proofs.YtdjfeninmbpflaaGreat
end
section
namespace Go.Re
open Go Go.Wk Go.Wl Go.Rx
structure AtP (s:Tm) (u:Int):Prop where
 a:0<=u
 b:u<315537897600
 c:s.Bare=true->s.UTC=false/\u % 86400=0
theorem b7k {s:Tm} {r:Rl} (hF:p9 s r) (hb:s.Bare=true):s.UTC=false/\s.Hour=0/\s.Min=0/\s.Sec=0:=by
 obtain ⟨_,_,_,_,h⟩:=u7.1 hF.rt
 have h:¬ (((s.Hour≠0 ∨ s.Min≠0) ∨ s.Sec≠0) ∨ s.UTC=true):=fun e=>h ⟨hb,e⟩
 refine ⟨?_,by omega,by omega,by omega⟩
 rw [<- Bool.not_eq_true]
 exact fun e=>h (.inr e)
theorem c5b {s:Tm} {r:Rl} {c:Int} (hF:p9 s r) (hb:s.Bare=true) (h:c∈A5 s r):c=0:=by
 obtain ⟨k,m,x,⟨_,h1⟩,⟨_,h2⟩,⟨_,h3⟩,e⟩:=b1u.1 h
 obtain ⟨_,b1,b2,b3⟩:=b7k hF hb
 obtain ⟨f,l1,l2,l3⟩:=hF.ba hb
 unfold hB at h1
 unfold mB at h2
 unfold sB at h3
 have e1:(k:Int)=0:=by
  rcases Int.lt_trichotomy (k:Int) 0 with q | q | q
  . omega
  . exact q
  . exact absurd (.inr ⟨⟨l1,by omega⟩,by omega⟩) h1
 have e2:(m:Int)=0:=by
  rcases Int.lt_trichotomy (m:Int) 0 with q | q | q
  . omega
  . exact q
  . exact absurd (.inr ⟨⟨l2,by omega⟩,by omega⟩) h2
 have e3:(x:Int)=0:=by
  rcases h3 with h3 | h3
  . omega
  . rcases h3.2 with q | q
    . omega
    . omega
 omega
section
variable {s:Tm} {r:Rl} {day t u to fr:Int}
theorem d0g (hF:p9 s r) {i:Int} (hl:LoP r i) (h:t∈u4 s r day i):AtP s t/\j8 r t=i:=by
 obtain ⟨⟨_,h2⟩,h3,h4⟩:=N9 hF h
 have h5:=a07 hF hl h
 have h0:=(I3 (r:=r) hl.a).1
 refine ⟨⟨by omega,h5,fun hb=>⟨(b7k hF hb).1,c5b hF hb h2⟩⟩,?_⟩
 have a:=(H4 hl (t:=t) (by omega) h5).1 h3
 have b:¬ i+1<=j8 r t:=fun e=>by
  have:=(H4 (hl.up (j:=i+1) (by omega)) (t:=t) (by omega) h5).2 e
  omega
 omega
theorem c3a (hF:p9 s r):AtP s (b8 s):=by
 obtain ⟨a,b⟩:=v6 hF.rt
 refine ⟨a,b,fun hb=>?_⟩
 obtain ⟨h0,h1,h2,h3⟩:=b7k hF hb
 have e:b8 s=N4 s:=if_pos (u7.1 hF.rt)
 refine ⟨h0,?_⟩
 rw [e]
 unfold N4
 rw [h1,h2,h3]
 omega
structure d2m (s:Tm) (r:Rl) (day to t:Int):Prop where
 a:AtP s t
 b:t<to
 c:t=b8 s ∨ b8 s<t/\∃ j:Int,0<=j/\t∈u4 s r day (j8 r (b8 s)+j * r.Interval)
theorem e0l (hF:p9 s r) (h0:0<=fr) (h:t∈(D8 s r day fr to).1):d2m s r day to t:=by
 obtain ⟨a,b⟩:=v6 hF.rt
 obtain ⟨w0,w1⟩:=M3 hF
 have hI:=C7 hF
 have lo:∀ j:Int,0<=j->LoP r (j8 r (b8 s)+j * r.Interval):=fun j hj=>(G2 (r:=r) a b w0 w1).up (by have:=Int.mul_nonneg hj (show 0<=r.Interval by omega); omega)
 have hk:=(R3 hF h0).1
 rw [(R5 (day:=day) (to:=to) hF hk).1] at h
 rcases List.mem_append.1 h with h | h
 . split at h
   . rename_i hlt
     cases List.mem_singleton.1 h
     exact ⟨c3a hF,hlt,.inl rfl⟩
   . cases h
 . obtain ⟨h1,h2⟩:=List.mem_filter.1 (a9d.subset h)
   have h2:=L6.1 h2
   obtain ⟨j,j0,_,hj⟩:=a1y.1 h1
   exact ⟨(d0g hF (lo j (by omega)) hj).1,h2.2.1,.inr ⟨h2.1,j,by omega,hj⟩⟩
theorem d2m.ge (h:d2m s r day to t):b8 s<=t:=by
 rcases h.c with e | e <;> omega
end
end Go.Re
end
section
namespace Go.Re
open Go Go.Wk Go.Wl Go.Rx
def inK (s:Tm) (r:Rl) (k t:Int):Bool:=decide (D6 s r t=k * r.Interval)
def grp (s:Tm) (r:Rl) (X:List Int) (k:Int):List Int:=X.filter (inK s r k)
def D1 (s:Tm) (r:Rl) (X:List Int):Nat->Int->List (Int×Int)
 | 0,_=>[]
 | n+1,k=>(s7 r (grp s r X k)).map (fun t=>(t,k))++D1 s r X n (k+1)
section
variable {s:Tm} {r:Rl} {X:List Int} {t k:Int}
theorem b9u:t∈grp s r X k↔t∈X/\D6 s r t=k * r.Interval:=by
 unfold grp inK
 rw [List.mem_filter,decide_eq_true_iff]
theorem a7d:grp s r (X++[t]) k=if D6 s r t=k * r.Interval then grp s r X k++[t] else grp s r X k:=by
 unfold grp
 rw [List.filter_append]
 by_cases h:D6 s r t=k * r.Interval
 . rw [if_pos h,List.filter_cons_of_pos (show inK s r k t=true from decide_eq_true h),List.filter_nil]
 . rw [if_neg h,List.filter_cons_of_neg (show ¬ inK s r k t=true from fun e=>h (of_decide_eq_true (show decide (D6 s r t=k * r.Interval)=true from e))),List.filter_nil,List.append_nil]
theorem b88 (h:∀ t∈X,D6 s r t≠k * r.Interval):grp s r X k=[]:=filter_nil fun t ht e=>h t ht (of_decide_eq_true (show decide (D6 s r t=k * r.Interval)=true from e))
theorem a1o:s7 r []=[]:=by unfold s7; split <;> rfl
theorem a66:∀ {n m:Nat} {k:Int},D1 s r X (n+m) k=D1 s r X n k++D1 s r X m (k+n)
 | 0,m,k=>by
  rw [Nat.zero_add,show k+((0:Nat):Int)=k by omega]; rfl
 | n+1,m,k=>by
  rw [show n+1+m=(n+m)+1 by omega]
  show _++D1 s r X (n+m) (k+1)=(_++D1 s r X n (k+1))++_
  rw [a66,List.append_assoc,show k+1+(n:Int)=k+((n+1:Nat):Int) by omega]
theorem a1p:∀ {n:Nat} {k:Int},(∀ j:Int,k<=j->j<k+n->grp s r X j=[])->D1 s r X n k=[]
 | 0,_,_=>rfl
 | n+1,k,h=>by
  unfold D1
  rw [h k (Int.le_refl _) (by omega),a1o,a1p fun j h1 h2=>h j (by omega) (by omega)]
  rfl
theorem W4 {Y:List Int}:∀ {n:Nat} {k:Int},(∀ j:Int,k<=j->j<k+n->grp s r X j=grp s r Y j)->D1 s r X n k=D1 s r Y n k
 | 0,_,_=>rfl
 | n+1,k,h=>by
  unfold D1
  rw [h k (Int.le_refl _) (by omega),W4 fun j h1 h2=>h j (by omega) (by omega)]
theorem a2l {p:Int×Int}:∀ {n:Nat} {k:Int},p∈D1 s r X n k↔∃ j:Int,k<=j/\j<k+n/\p.1∈s7 r (grp s r X j)/\p.2=j
 | 0,k=>by
  unfold D1
  constructor
  . intro h; cases h
  . rintro ⟨j,h1,h2,_⟩; omega
 | n+1,k=>by
  unfold D1
  rw [List.mem_append,a2l,List.mem_map]
  constructor
  . rintro (⟨t,ht,rfl⟩ | ⟨j,h1,h2,h3⟩)
    . exact ⟨k,Int.le_refl _,by omega,ht,rfl⟩
    . exact ⟨j,by omega,by omega,h3⟩
  . rintro ⟨j,h1,h2,h3,h4⟩
    by_cases e:j=k
    . subst e; exact .inl ⟨p.1,h3,by rw [<- h4]⟩
    . exact .inr ⟨j,by omega,by omega,h3,h4⟩
structure GrI (s:Tm) (r:Rl) (X:List Int) (w:Ws):Prop where
 a:(w.now=-1/\w.T=[]/\w.C=[]/\w.run=[]/\∀ t∈X,Z3 s r t) ∨
  ∃ j:Nat,w.now=(j:Int) * r.Interval/\w.T=(D1 s r X j 0).map (·.1)/\w.C=(D1 s r X j 0).map (·.2)/\w.run=grp s r X j/\(∀ t∈X,¬ Z3 s r t->D6 s r t<=(j:Int) * r.Interval)/\∃ t∈X,D6 s r t=(j:Int) * r.Interval
theorem a99 {a b I:Int} (hI:1<=I):a * I<b * I↔a<b:=Int.mul_lt_mul_right (by omega)
theorem b8f {a b I:Int} (hI:1<=I) (h:a * I=b * I):a=b:=Int.eq_of_mul_eq_mul_right (by omega) h
theorem b0z (hI:1<=r.Interval) {j:Int} (hj:0<=j) (e:D6 s r t=j * r.Interval):¬ Z3 s r t:=fun h=>by
 rcases h with h | h
 . have:=Int.mul_nonneg hj (show 0<=r.Interval by omega); omega
 . rw [e] at h; exact h (Int.mul_tmod_left ..)
theorem d6c (hI:1<=r.Interval) (h:¬ Z3 s r t):∃ j:Nat,D6 s r t=(j:Int) * r.Interval:=by
 have h0:0<=D6 s r t:=by
  rcases Int.lt_or_le (D6 s r t) 0 with e | e
  . exact absurd (.inl e) h
  . exact e
 have h1:(D6 s r t).tmod r.Interval=0:=Classical.not_not.1 fun e=>h (.inr e)
 have h2:=(tm0 (a:=D6 s r t) (b:=r.Interval)).1 h1
 have h3:=Int.ediv_mul_cancel (Int.dvd_of_emod_eq_zero h2)
 have hp:=Int.ediv_nonneg h0 (show 0<=r.Interval by omega)
 exact ⟨(D6 s r t / r.Interval).toNat,by rw [show (((D6 s r t / r.Interval).toNat:Nat):Int)=D6 s r t / r.Interval by omega]; exact h3.symm⟩
theorem a9l (hI:1<=r.Interval) (h:∀ t∈X,Z3 s r t) {j:Int} (hj:0<=j):grp s r X j=[]:=b88 fun t ht e=>b0z hI hj e (h t ht)
theorem b09 (hI:1<=r.Interval) {j:Nat} (h:∀ t∈X,¬ Z3 s r t->D6 s r t<=(j:Int) * r.Interval) {i:Int} (hi:(j:Int)<i):grp s r X i=[]:=b88 fun t ht e=>by
 have:=h t ht (b0z hI (by omega) e)
 have:=(a99 (a:=(j:Int)) (b:=i) hI).2 hi
 omega
theorem c08 {j d:Nat} (h:∀ i:Int,(j:Int)<i->i<(j:Int)+1+d->grp s r X i=[]):D1 s r X (j+1+d) 0=D1 s r X j 0++(s7 r (grp s r X j)).map (fun t=>(t,(j:Int))):=by
 rw [show j+1+d=j+(d+1) by omega,a66,show (0:Int)+(j:Int)=j by omega]
 show _++(_++D1 s r X d ((j:Int)+1))=_
 rw [a1p (n:=d) (k:=(j:Int)+1) fun i h1 h2=>h i (by omega) (by omega),List.append_nil]
theorem a4y {l:List Int} {k:Int}:(l.map fun t=>(t,k)).map (·.1)=l:=by
 rw [List.map_map]
 exact List.map_id' ..
theorem c0h {l:List Int} {k:Int}:(l.map fun t=>(t,k)).map (·.2)=List.replicate l.length k:=by
 rw [List.map_map]
 exact List.map_const ..
theorem GrI.step {w:Ws} (h:GrI s r X w) (hI:1<=r.Interval) (hm:∀ u∈X,D6 s r u<=D6 s r t):GrI s r (X++[t]) (stW s r w t):=by
 by_cases ho:Z3 s r t
 . have hg:∀ j:Int,0<=j->grp s r (X++[t]) j=grp s r X j:=fun j hj=>by
     rw [a7d,if_neg (fun e=>b0z hI hj e ho)]
   rw [a9v ho]
   rcases h.a with ⟨h1,h2,h3,h4,h5⟩ | ⟨j,h1,h2,h3,h4,h5,u,h6,h7⟩
   . refine ⟨.inl ⟨h1,h2,h3,h4,fun u hu=>?_⟩⟩
     rcases List.mem_append.1 hu with hu | hu
     . exact h5 u hu
     . cases List.mem_singleton.1 hu; exact ho
   . have e:D1 s r (X++[t]) j 0=D1 s r X j 0:=W4 fun i i0 _=>hg i i0
     refine ⟨.inr ⟨j,h1,by rw [e]; exact h2,by rw [e]; exact h3,by rw [hg j (by omega)]; exact h4,fun u hu hn=>?_,u,List.mem_append_left _ h6,h7⟩⟩
     rcases List.mem_append.1 hu with hu | hu
     . exact h5 u hu hn
     . cases List.mem_singleton.1 hu; exact absurd ho hn
 obtain ⟨j2,e2⟩:=d6c hI ho
 have h0:=Int.mul_nonneg (show (0:Int)<=(j2:Int) by omega) (show 0<=r.Interval by omega)
 have hg:∀ j:Int,j≠j2->grp s r (X++[t]) j=grp s r X j:=fun j hj=>by
  rw [a7d,if_neg (fun e=>hj (b8f hI (e.symm.trans e2)))]
 have hg2:grp s r (X++[t]) j2=grp s r X j2++[t]:=by rw [a7d,if_pos e2]
 by_cases hn:D6 s r t≠w.now
 . rw [b0q ho hn]
   refine ⟨.inr ⟨j2,e2,?_⟩⟩
   rcases h.a with ⟨h1,h2,h3,h4,h5⟩ | ⟨j,h1,h2,h3,h4,h5,u,h6,h7⟩
   . have e:D1 s r (X++[t]) j2 0=[]:=a1p fun i i0 i1=>by
       rw [hg i (by omega)]; exact a9l hI h5 i0
     refine ⟨?_,?_,?_,fun u hu hn=>?_,t,by simp,e2⟩
     . rw [e]; show w.T++s7 r w.run=[]; rw [h2,h4,a1o]; rfl
     . rw [e]; show w.C++List.replicate (s7 r w.run).length _=[]; rw [h3,h4,a1o]; rfl
     . rw [hg2,a9l hI h5 (by omega)]; rfl
     . rcases List.mem_append.1 hu with hu | hu
       . exact absurd (h5 u hu) hn
       . cases List.mem_singleton.1 hu; omega
   . have hj:j<j2:=by
       have a:=hm u h6
       rw [h7,e2] at a
       rcases Int.lt_trichotomy (j:Int) j2 with q | q | q
       . omega
       . exact absurd (by rw [e2,h1,q]) hn
       . have:=(a99 (a:=(j2:Int)) (b:=j) hI).2 q; omega
     have e:D1 s r (X++[t]) j2 0=D1 s r X j 0++(s7 r (grp s r X j)).map (fun t=>(t,(j:Int))):=by
      have q:=c08 (s:=s) (r:=r) (X:=X++[t]) (j:=j) (d:=j2-(j+1)) fun i i0 i1=>by
       rw [hg i (by omega)]; exact b09 hI h5 i0
      rw [show j+1+(j2-(j+1))=j2 by omega] at q
      rw [q,hg j (by omega),W4 fun i i0 i1=>hg i (by omega)]
     refine ⟨?_,?_,?_,fun u hu hn=>?_,t,by simp,e2⟩
     . rw [e,List.map_append,a4y]
       show w.T++s7 r w.run=_
       rw [h2,h4]
     . rw [e,List.map_append,c0h]
       show w.C++List.replicate (s7 r w.run).length (w.now.tdiv r.Interval)=_
       rw [h3,h4,h1,Int.mul_tdiv_cancel _ (show r.Interval≠0 by omega)]
     . rw [hg2,b09 hI h5 (by omega)]; rfl
     . rcases List.mem_append.1 hu with hu | hu
       . have:=h5 u hu hn
         have:=(a99 (a:=(j:Int)) (b:=j2) hI).2 (by omega)
         omega
       . cases List.mem_singleton.1 hu; omega
 . rw [b8b ho hn]
   have hn:=Classical.not_not.1 hn
   rcases h.a with ⟨h1,h2,h3,h4,h5⟩ | ⟨j,h1,h2,h3,h4,h5,u,h6,h7⟩
   . omega
   . have ej:j=j2:=by
       have:=b8f hI (h1.symm.trans (hn.symm.trans e2)); omega
     subst ej
     have e:D1 s r (X++[t]) j 0=D1 s r X j 0:=W4 fun i i0 i1=>hg i (by omega)
     refine ⟨.inr ⟨j,h1,by rw [e]; exact h2,by rw [e]; exact h3,by rw [hg2]; show w.run++[t]=_; rw [h4],fun u hu hn=>?_,u,List.mem_append_left _ h6,h7⟩⟩
     rcases List.mem_append.1 hu with hu | hu
     . exact h5 u hu hn
     . cases List.mem_singleton.1 hu; omega
theorem GrI.all (hI:1<=r.Interval):∀ {m X:List Int} {w:Ws},GrI s r X w->(X++m).Pairwise (fun a b=>D6 s r a<=D6 s r b)->GrI s r (X++m) (m.foldl (stW s r) w)
 | [],X,w,h,_=>by rw [List.append_nil]; exact h
 | t::m,X,w,h,hp=>by
  have e:X++t::m=(X++[t])++m:=by simp
  have hm:∀ u∈X,D6 s r u<=D6 s r t:=fun u hu=>(List.pairwise_append.1 hp).2.2 u hu t (List.mem_cons_self ..)
  rw [e] at hp ⊢
  exact GrI.all hI (h.step hI hm) hp
theorem GrI.fin {w:Ws} {N:Nat} (h:GrI s r X w) (hI:1<=r.Interval) (hN:∀ t∈X,D6 s r t<(N:Int) * r.Interval):(flW r w).T=(D1 s r X N 0).map (·.1)/\(flW r w).C=(D1 s r X N 0).map (·.2):=by
 rcases h.a with ⟨h1,h2,h3,h4,h5⟩ | ⟨j,h1,h2,h3,h4,h5,u,h6,h7⟩
 . have e:D1 s r X N 0=[]:=a1p fun i i0 i1=>a9l hI h5 i0
   rw [e]
   unfold flW
   rw [h2,h3,h4,a1o]
   exact ⟨rfl,rfl⟩
 . have hj:j<N:=by
     have a:=hN u h6
     rw [h7] at a
     have:=(a99 (a:=(j:Int)) (b:=N) hI).1 a
     omega
   have e:=c08 (s:=s) (r:=r) (X:=X) (j:=j) (d:=N-(j+1)) fun i i0 i1=>b09 hI h5 i0
   rw [show j+1+(N-(j+1))=N by omega] at e
   rw [e,List.map_append,List.map_append,a4y,c0h]
   unfold flW
   rw [h2,h3,h4,h1,Int.mul_tdiv_cancel _ (show r.Interval≠0 by omega)]
   exact ⟨rfl,rfl⟩
end
end Go.Re
end
section
namespace Go.Re
open Go Go.Wk Go.Wl Go.Rx
section
variable {s:Tm} {r:Rl} {t u to k:Int}
theorem c01 {h m:Int}:∀ {k:Nat},Up (P9 s r h m k)
 | 0=>List.Pairwise.nil
 | k+1=>by
  unfold P9
  refine List.pairwise_append.2 ⟨c01,by split; exact List.pairwise_singleton ..; exact List.Pairwise.nil,fun t ht u hu=>?_⟩
  obtain ⟨x,hx,_,e⟩:=M6.1 ht
  split at hu
  . cases List.mem_singleton.1 hu; omega
  . cases hu
theorem b9p {h:Int}:∀ {k:Nat},Up (O4 s r h k)
 | 0=>List.Pairwise.nil
 | k+1=>by
  unfold O4
  refine List.pairwise_append.2 ⟨b9p,by split; exact c01; exact List.Pairwise.nil,fun t ht u hu=>?_⟩
  obtain ⟨m,hm,_,h1⟩:=U4.1 ht
  obtain ⟨x,hx,_,e⟩:=M6.1 h1
  split at hu
  . obtain ⟨y,hy,_,e2⟩:=M6.1 hu; omega
  . cases hu
theorem b8n:∀ {k:Nat},Up (S9 s r k)
 | 0=>List.Pairwise.nil
 | k+1=>by
  unfold S9
  refine List.pairwise_append.2 ⟨b8n,by split; exact b9p; exact List.Pairwise.nil,fun t ht u hu=>?_⟩
  obtain ⟨h,hh,_,h1⟩:=a6w.1 ht
  obtain ⟨m,hm,_,h1⟩:=U4.1 h1
  obtain ⟨x,hx,_,e⟩:=M6.1 h1
  split at hu
  . obtain ⟨m2,hm2,_,h2⟩:=U4.1 hu
    obtain ⟨y,hy,_,e2⟩:=M6.1 h2
    omega
  . cases hu
theorem b9a {n:Int}:t∈dyW s r n↔b4c s r (j9 s.Day) t/\t / 86400+1=n:=by
 unfold dyW b4c
 constructor
 . intro h
   split at h
   . rename_i hd
     obtain ⟨c,hc,rfl⟩:=List.mem_map.1 h
     have:=b92 hc
     have e1:(86400 * (n-1)+c) / 86400+1=n:=by omega
     have e2:(86400 * (n-1)+c) % 86400=c:=by omega
     rw [e1,e2]
     exact ⟨⟨hd,hc⟩,rfl⟩
   . cases h
 . rintro ⟨⟨h1,h2⟩,rfl⟩
   rw [if_pos h1]
   exact List.mem_map.2 ⟨t % 86400,h2,by omega⟩
theorem d4r {n:Int}:Up (dyW s r n):=by
 unfold dyW
 split
 . exact List.pairwise_map.2 ((b8n (k:=24)).imp fun h=>by omega)
 . exact List.Pairwise.nil
theorem a2a {a:Int}:∀ {k:Nat},t∈spW s r a k↔b4c s r (j9 s.Day) t/\a<=t / 86400+1/\t / 86400+1<a+k
 | 0=>by
  unfold spW
  constructor
  . intro h; cases h
  . rintro ⟨_,h1,h2⟩; omega
 | k+1=>by
  unfold spW
  rw [List.mem_append,a2a,b9a]
  constructor
  . rintro (⟨p,q⟩ | ⟨p,q⟩)
    . exact ⟨p,by omega⟩
    . exact ⟨p,by omega⟩
  . rintro ⟨p,q⟩
    by_cases e:t / 86400+1<a+k
    . exact .inl ⟨p,q.1,e⟩
    . exact .inr ⟨p,by omega⟩
theorem b0i {a:Int}:∀ {k:Nat},Up (spW s r a k)
 | 0=>List.Pairwise.nil
 | k+1=>by
  unfold spW
  refine List.pairwise_append.2 ⟨b0i,d4r,fun t ht u hu=>?_⟩
  have:=(a2a.1 ht).2
  have:=(b9a.1 hu).2
  omega
theorem a2i:D6 s r t=j8 r t-j8 r (b8 s):=by unfold D6 j8; omega
theorem c1g (hF:p9 s r):b8 s / 86400+1=j9 s.Day:=by
 have hr:=u7.1 hF.rt
 have e:b8 s=N4 s:=if_pos hr
 obtain ⟨hd,hh,hm,hs,_⟩:=hr
 have e2:j9 s.Day=D7 s.Day:=if_pos hd
 rw [e,e2]
 unfold N4
 omega
theorem c7b (t0:0<=t) (h:t<=u) (u1:u<315537897600) (he:j8 r t=j8 r u):u-t<86400 * a2m r:=by
 obtain ⟨hd,hn⟩:=Q5 (n:=t / 86400+1) (by omega) (by omega)
 obtain ⟨hd2,hn2⟩:=Q5 (n:=u / 86400+1) (by omega) (by omega)
 obtain ⟨c0,c1,c2,c3,c4,c5⟩:=hd.ym
 obtain ⟨d0,d1,d2,d3,d4,d5⟩:=hd2.ym
 unfold j8 s5 at he
 unfold a2m
 generalize ofS (t / 86400+1)=D at *
 generalize ofS (u / 86400+1)=D2 at *
 by_cases f0:r.Freq=0
 . rw [if_pos f0,if_pos f0] at he
   rw [if_neg (by omega),if_neg (by omega),if_pos f0]
   have a:=K9 hd
   have b:=K9 hd2
   have st:=I7 D.Year
   rw [show D2.Year=D.Year by omega] at b
   split at st <;> omega
 rw [if_neg f0,if_neg f0] at he
 by_cases f1:r.Freq=1
 . rw [if_pos f1,if_pos f1,if_pos f1] at he
   rw [if_neg (by omega),if_pos f1]
   have ey:D2.Year=D.Year:=by omega
   have em:D2.Month=D.Month:=by omega
   have e1:D7 D=j4 D.Year+F9 D.Year D.Month+D.Date:=rfl
   have e2:D7 D2=j4 D.Year+F9 D.Year D.Month+D2.Date:=by unfold D7; rw [ey,em]
   omega
 rw [if_neg f1,if_neg f1,if_neg f1] at he
 by_cases f2:r.Freq=2
 . rw [if_pos f2,if_pos f2] at he
   rw [if_neg (by omega),if_neg f1,if_neg f0]
   omega
 rw [if_neg f2,if_neg f2] at he
 by_cases f3:r.Freq=3
 . rw [if_pos f3,if_pos f3] at he
   rw [if_pos (by omega)]
   omega
 rw [if_neg f3,if_neg f3] at he
 by_cases f4:r.Freq=4
 . rw [if_pos f4,if_pos f4] at he
   rw [if_pos (by omega)]
   omega
 rw [if_neg f4,if_neg f4] at he
 by_cases f5:r.Freq=5
 . rw [if_pos f5,if_pos f5] at he
   rw [if_pos (by omega)]
   omega
 rw [if_neg f5,if_neg f5] at he
 by_cases f6:3<=r.Freq
 . rw [if_pos f6]; omega
 . rw [if_neg f6,if_neg f1,if_neg f0]; omega
theorem a1e {d:Dy} (h:A9 d):j9 ⟨d.Year,1,1⟩=j4 d.Year+1:=by
 have hr:=R1 (y:=d.Year) (m:=1) h.ym.1 h.ym.2.1 (by decide) (by decide)
 unfold j9
 rw [if_pos hr]
 show j4 d.Year+F9 d.Year 1+1=_
 have:F9 d.Year 1=0:=by unfold F9; rw [if_pos (by decide)]
 omega
theorem c9b (hF:p9 s r):G9 s r<=j9 s.Day:=by
 have hr:=u7.1 hF.rt
 have e2:j9 s.Day=D7 s.Day:=if_pos hr.1
 have a:=K9 hr.1
 have b:=a1e hr.1
 have c:=H6 hr.1
 unfold G9
 dsimp only
 (repeat' split) <;> omega
theorem c8k (hF:p9 s r) (t0:0<=t) (t1:t<315537897600) (h:j8 r (b8 s)<=j8 r t):G9 s r<=t / 86400+1:=by
 have hr:=u7.1 hF.rt
 obtain ⟨s0,s1⟩:=v6 hF.rt
 obtain ⟨w0,w1⟩:=M3 hF
 have fl:=c9b hF
 have fd:=c1g hF
 by_cases hlt:b8 s<=t
 . omega
 have hm:=P1 (r:=r) (t:=t) (u:=b8 s) t0 (by omega) s1 w0 w1
 have he:j8 r t=j8 r (b8 s):=by omega
 have e2:j9 s.Day=D7 s.Day:=if_pos hr.1
 have a:=K9 hr.1
 have b:=a1e hr.1
 have c:=H6 hr.1
 obtain ⟨hd,hn⟩:=Q5 (n:=t / 86400+1) (by omega) (by omega)
 obtain ⟨c0,c1,c2,c3,c4,c5⟩:=hd.ym
 obtain ⟨d0,d1,d2,d3,d4,d5⟩:=hr.1.ym
 have es:ofS (b8 s / 86400+1)=s.Day:=by rw [fd,e2,c3n hr.1]
 unfold j8 s5 at he
 rw [es,fd] at he
 generalize ofS (t / 86400+1)=D at *
 have a2:=K9 hd
 unfold G9
 dsimp only
 by_cases f0:r.Freq=0
 . rw [if_pos f0,if_pos f0] at he
   rw [show D.Year=s.Day.Year by omega] at a2
   rw [if_neg (by omega),if_neg (by omega)]
   split <;> omega
 rw [if_neg f0,if_neg f0] at he
 by_cases f1:r.Freq=1
 . rw [if_pos f1,if_pos f1,if_pos f1] at he
   have ey:D.Year=s.Day.Year:=by omega
   have em:D.Month=s.Day.Month:=by omega
   have e3:D7 D=j4 s.Day.Year+F9 s.Day.Year s.Day.Month+D.Date:=by unfold D7; rw [ey,em]
   have e4:D7 s.Day=j4 s.Day.Year+F9 s.Day.Year s.Day.Month+s.Day.Date:=rfl
   rw [ey] at a2
   rw [if_neg (by omega)]
   (repeat' split) <;> omega
 rw [if_neg f1,if_neg f1,if_neg f1] at he
 by_cases f2:r.Freq=2
 . rw [if_pos f2,if_pos f2] at he
   rw [if_neg (by omega)]
   (repeat' split) <;> omega
 rw [if_neg f2,if_neg f2] at he
 have hq:=(m8.1 hF.rr).head.1
 rw [if_pos (by omega)]
 by_cases f3:r.Freq=3
 . rw [if_pos f3,if_pos f3] at he
   omega
 rw [if_neg f3,if_neg f3] at he
 by_cases f4:r.Freq=4
 . rw [if_pos f4,if_pos f4] at he
   omega
 rw [if_neg f4,if_neg f4] at he
 by_cases f5:r.Freq=5
 . rw [if_pos f5,if_pos f5] at he
   omega
 rw [if_neg f5,if_neg f5] at he
 omega
abbrev G6 (s:Tm) (r:Rl) (to:Int):List Int:=spW s r (G9 s r) (S3 s r to)
theorem a2q (hF:p9 s r) (h:t∈G6 s r to):0<=t/\t<315537897600:=by
 have h1:=(a2a.1 h).2
 have hr:=u7.1 hF.rt
 have b:=a1e hr.1
 have c:=H6 hr.1
 have e2:j9 s.Day=D7 s.Day:=if_pos hr.1
 have f:=(c0c (s:=s) (r:=r) (G3 _) (G3 _) (by omega)).1
 unfold S3 at h1
 omega
theorem c3i (hF:p9 s r) (k0:0<=k) (h:p4 r (j8 r (b8 s)+k * r.Interval)<to) :
  grp s r (G6 s r to) k=a7r s r (j9 s.Day) (p4 r (j8 r (b8 s)+k * r.Interval)) (p4 r (j8 r (b8 s)+k * r.Interval+1)):=by
 obtain ⟨s0,s1⟩:=v6 hF.rt
 obtain ⟨w0,w1⟩:=M3 hF
 have hI:=C7 hF
 have hk:=Int.mul_nonneg k0 (show 0<=r.Interval by omega)
 have lo:LoP r (j8 r (b8 s)+k * r.Interval):=(G2 (r:=r) s0 s1 w0 w1).up (by omega)
 have lo1:=lo.up (j:=j8 r (b8 s)+k * r.Interval+1) (by omega)
 have b0:=(I3 (r:=r) lo.a).1
 have b1:=(I3 (r:=r) lo1.a).2
 refine c3f (b0i.filter _) (b9m hF) fun t=>?_
 rw [b9u,b2n hF,a2i]
 constructor
 . rintro ⟨h1,h2⟩
   obtain ⟨t0,t1⟩:=a2q hF h1
   refine ⟨(a2a.1 h1).1,(H4 lo t0 t1).2 (by omega),?_⟩
   rcases Int.lt_or_le t (p4 r (j8 r (b8 s)+k * r.Interval+1)) with q | q
   . exact q
   . have:=(H4 lo1 t0 t1).1 q; omega
 . rintro ⟨h1,h2,h3⟩
   have t0:0<=t:=by omega
   have t1:t<315537897600:=by omega
   have i1:=(H4 lo t0 t1).1 h2
   have i2:¬ j8 r (b8 s)+k * r.Interval+1<=j8 r t:=fun e=>by
    have:=(H4 lo1 t0 t1).2 e; omega
   have i3:=(H4 lo b0 (by omega)).1 (Int.le_refl _)
   have i4:=P1 (r:=r) (t:=p4 r (j8 r (b8 s)+k * r.Interval)) (u:=t) b0 h2 t1 w0 w1
   have nr:=c7b (r:=r) b0 h2 t1 (by omega)
   have fi:=c8k (t:=t) hF t0 t1 (by omega)
   refine ⟨a2a.2 ⟨h1,fi,?_⟩,by omega⟩
   unfold S3
   unfold a2m at nr ⊢
   (repeat' split at nr) <;> simp only [*, if_true,if_false] <;> omega
end
end Go.Re
end
section
namespace Go.Re
open Go Go.Wk Go.Wl Go.Rx
section
variable {s:Tm} {r:Rl} {t u to b k:Int}
theorem b6q (hF:p9 s r) (k0:0<=k) (h:t∈grp s r (G6 s r to) k):p4 r (j8 r (b8 s)+k * r.Interval)<=t/\t<p4 r (j8 r (b8 s)+k * r.Interval+1)/\t<315537897600:=by
 obtain ⟨s0,s1⟩:=v6 hF.rt
 obtain ⟨w0,w1⟩:=M3 hF
 have hk:=Int.mul_nonneg k0 (show 0<=r.Interval by have:=C7 hF; omega)
 have lo:LoP r (j8 r (b8 s)+k * r.Interval):=(G2 (r:=r) s0 s1 w0 w1).up (by omega)
 obtain ⟨h1,h2⟩:=b9u.1 h
 rw [a2i] at h2
 obtain ⟨t0,t1⟩:=a2q hF h1
 refine ⟨(H4 lo t0 t1).2 (by omega),?_,t1⟩
 rcases Int.lt_or_le t (p4 r (j8 r (b8 s)+k * r.Interval+1)) with q | q
 . exact q
 . have:=(H4 (lo.up (j:=j8 r (b8 s)+k * r.Interval+1) (by omega)) t0 t1).1 q; omega
theorem b70 (hF:p9 s r) {n:Nat} (k0:0<=k) (h:t∈(D1 s r (G6 s r to) n k).map (·.1)):p4 r (j8 r (b8 s)+k * r.Interval)<=t/\t<p4 r (j8 r (b8 s)+(k+n) * r.Interval)/\t<315537897600:=by
 obtain ⟨p,hp,rfl⟩:=List.mem_map.1 h
 obtain ⟨j,j0,j1,hj,_⟩:=a2l.1 hp
 obtain ⟨s0,s1⟩:=v6 hF.rt
 obtain ⟨w0,w1⟩:=M3 hF
 have hI:=C7 hF
 have lo:∀ j:Int,0<=j->LoP r (j8 r (b8 s)+j * r.Interval):=fun j hj=>(G2 (r:=r) s0 s1 w0 w1).up (by have:=Int.mul_nonneg hj (show 0<=r.Interval by omega); omega)
 obtain ⟨g1,g2,g3⟩:=b6q hF (show 0<=j by omega) (U7.subset hj)
 have a:=T6 hI j0
 have c:=T6 hI (show j+1<=k+n by omega)
 rw [mul_succ] at c
 have d:=H9 (lo k k0) (show j8 r (b8 s)+k * r.Interval<=j8 r (b8 s)+j * r.Interval by omega)
 have e:=H9 ((lo j (by omega)).up (j:=j8 r (b8 s)+j * r.Interval+1) (by omega)) (show j8 r (b8 s)+j * r.Interval+1<=j8 r (b8 s)+(k+n) * r.Interval by omega)
 exact ⟨by omega,by omega,g3⟩
theorem c60 (hF:p9 s r):∀ {n:Nat} {k:Int},0<=k->Up ((D1 s r (G6 s r to) n k).map (·.1))
 | 0,_,_=>List.Pairwise.nil
 | n+1,k,k0=>by
  show Up ((((s7 r (grp s r (G6 s r to) k)).map fun t=>(t,k))++D1 s r (G6 s r to) n (k+1)).map (·.1))
  rw [List.map_append,a4y]
  refine List.pairwise_append.2 ⟨(b0i.filter _).sublist U7,c60 hF (by omega),fun t ht u hu=>?_⟩
  obtain ⟨s0,s1⟩:=v6 hF.rt
  obtain ⟨w0,w1⟩:=M3 hF
  have hI:=C7 hF
  have hk:=Int.mul_nonneg k0 (show 0<=r.Interval by omega)
  have a:=b6q hF k0 (U7.subset ht)
  have c:=b70 hF (show 0<=k+1 by omega) hu
  have lo:LoP r (j8 r (b8 s)+k * r.Interval+1):=(G2 (r:=r) s0 s1 w0 w1).up (by omega)
  have d:=H9 lo (show j8 r (b8 s)+k * r.Interval+1<=j8 r (b8 s)+(k+1) * r.Interval by rw [mul_succ]; omega)
  omega
theorem a64 {first til:Int} (hF:p9 s r) (hb:b<=to):∀ {n:Nat} {k:Int},0<=k->((D1 s r (G6 s r to) n k).map (·.1)).filter (PT first b til)=(H5 s r (j9 s.Day) (j8 r (b8 s)) n k).filter (PT first b til)
 | 0,_,_=>rfl
 | n+1,k,k0=>by
  show (((((s7 r (grp s r (G6 s r to) k)).map fun t=>(t,k))++D1 s r (G6 s r to) n (k+1)).map (·.1))).filter _=(u4 s r (j9 s.Day) (j8 r (b8 s)+k * r.Interval)++H5 s r (j9 s.Day) (j8 r (b8 s)) n (k+1)).filter _
  rw [List.map_append,a4y,List.filter_append,List.filter_append,a64 hF hb (by omega)]
  congr 1
  by_cases h:p4 r (j8 r (b8 s)+k * r.Interval)<b
  . rw [c3i hF k0 (by omega)]; rfl
  . rw [filter_nil,filter_nil]
    . intro t ht e
      have:=(N9 hF ht).2.1
      have:=L6.1 e
      omega
    . intro t ht e
      have:=(b6q hF k0 (U7.subset ht)).1
      have:=L6.1 e
      omega
def F8 (s:Tm) (r:Rl):Int->List (Int×Int)->List (Int×Int)
 | _,[]=>[]
 | n,p::Z=>if a5d s r n p.1 then F8 s r n Z else p::F8 s r (n+1) Z
def a7f (p:Int×Int):Bool:=decide (p.2<40000)
def PU (s:Tm) (r:Rl) (t:Int):Bool:=decide (b8 s<t/\¬ (0<(r.Until.length:Int)/\b8 (ix r.Until 0)<t))
def alF (s:Tm) (r:Rl) (to:Int) (w:Al) (Z:List (Int×Int)):Al:=Z.foldl (fun w p=>stA s r to w p.1 p.2) w
theorem b8a {Z:List (Int×Int)}:∀ i,i<=Z.length->alA s r to (Z.map (·.1)) (Z.map (·.2)) i=alF s r to ⟨1,1,if b8 s<to then [b8 s] else []⟩ (Z.take i)
 | 0,_=>rfl
 | i+1,h=>by
  have hi:i<Z.length:=by omega
  show stA s r to (alA s r to (Z.map (·.1)) (Z.map (·.2)) i) (ix (Z.map (·.1)) i) (ix (Z.map (·.2)) i)=_
  rw [b8a i (by omega),List.take_succ_eq_append_getElem hi,A8 (by rw [List.length_map]; omega),A8 (by rw [List.length_map]; omega),List.getElem_map,List.getElem_map]
  unfold alF
  rw [List.foldl_append]
  rfl
theorem b0n:∀ {Z:List (Int×Int)} {n k:Int} {out:List Int},alF s r to ⟨n,k,out⟩ Z=⟨n+(F8 s r n Z).length,k+((F8 s r n Z).filter a7f).length,out++((F8 s r n Z).map (·.1)).filter (ltB to)⟩
 | [],n,k,out=>by unfold alF F8; simp
 | p::Z,n,k,out=>by
  show alF s r to (stA s r to ⟨n,k,out⟩ p.1 p.2) Z=_
  unfold stA F8
  dsimp only
  by_cases h:a5d s r n p.1
  . rw [if_pos h,if_pos h]
    exact b0n
  . rw [if_neg h,if_neg h,b0n,List.map_cons]
    have e1:n+1+((F8 s r (n+1) Z).length:Int)=n+((p::F8 s r (n+1) Z).length:Int):=by rw [List.length_cons]; omega
    have e2:(if p.2<40000 then k+1 else k)+(((F8 s r (n+1) Z).filter a7f).length:Int)=k+(((p::F8 s r (n+1) Z).filter a7f).length:Int):=by
     by_cases hp:p.2<40000
     . rw [if_pos hp,List.filter_cons_of_pos (show a7f p=true from decide_eq_true hp),List.length_cons]; omega
     . rw [if_neg hp,List.filter_cons_of_neg (show ¬ a7f p=true from fun e=>hp (of_decide_eq_true e))]
    have e3:(if p.1<to then out++[p.1] else out)++((F8 s r (n+1) Z).map (·.1)).filter (ltB to)=out++(p.1::(F8 s r (n+1) Z).map (·.1)).filter (ltB to):=by
     by_cases hp:p.1<to
     . rw [if_pos hp,List.filter_cons_of_pos (lt_iff.2 hp),List.append_assoc]; rfl
     . rw [if_neg hp,List.filter_cons_of_neg (fun e=>hp (lt_iff.1 e))]
    rw [e1,e2,e3]
theorem b1x {p:Int×Int} {Z:List (Int×Int)} {n:Int}:F8 s r n (p::Z)=if a5d s r n p.1 then F8 s r n Z else p::F8 s r (n+1) Z:=rfl
theorem a9j:∀ {Z Y:List (Int×Int)} {n:Int},F8 s r n (Z++Y)=F8 s r n Z++F8 s r (n+(F8 s r n Z).length) Y
 | [],Y,n=>by
  show F8 s r n Y=[]++F8 s r (n+((0:Nat):Int)) Y
  rw [List.nil_append,show n+((0:Nat):Int)=n by omega]
 | p::Z,Y,n=>by
  rw [List.cons_append,b1x (Z:=Z++Y),b1x (Z:=Z)]
  by_cases h:a5d s r n p.1
  . rw [if_pos h,if_pos h]; exact a9j
  . rw [if_neg h,if_neg h,a9j,List.cons_append,List.length_cons,show n+1+((F8 s r (n+1) Z).length:Int)=n+(((F8 s r (n+1) Z).length+1:Nat):Int) by omega]
theorem a1x:∀ {Z:List (Int×Int)} {n:Int},(F8 s r n Z).map (·.1)=G8 r n ((Z.map (·.1)).filter (PU s r))
 | [],n=>by
  show []=G8 r n ([].filter _)
  rw [List.filter_nil,a0s]
 | p::Z,n=>by
  rw [List.map_cons]
  unfold F8
  by_cases h1:p.1<=b8 s ∨ 0<(r.Until.length:Int)/\b8 (ix r.Until 0)<p.1
  . have hp:¬ PU s r p.1=true:=fun e=>by
      have e:=of_decide_eq_true e
      rcases h1 with h | h
      . omega
      . exact e.2 h
    rw [if_pos (show a5d s r n p.1 from .inl h1),List.filter_cons_of_neg hp,a1x]
  . have hp:PU s r p.1=true:=decide_eq_true ⟨by
      rcases Int.lt_or_le (b8 s) p.1 with q | q
      . exact q
      . exact absurd (.inl q) h1,fun e=>h1 (.inr e)⟩
    rw [List.filter_cons_of_pos hp]
    by_cases h2:0<r.Count/\r.Count<=n
    . rw [if_pos (show a5d s r n p.1 from .inr h2),a1x,b22 h2.1 h2.2,b22 h2.1 h2.2]
    . rw [if_neg (show ¬ a5d s r n p.1 from fun e=>e.elim h1 h2),List.map_cons,a1x,b3e h2]
theorem d2d {L:List Int} (h:∀ t∈L,t<315537897600):(L.filter (PU s r)).filter (ltB b)=L.filter (PT (b8 s) b (G0 r)):=by
 rw [List.filter_filter]
 refine List.filter_congr fun t ht=>?_
 have:=h t ht
 rw [Bool.eq_iff_iff,Bool.and_eq_true,lt_iff,L6]
 unfold PU G0
 rw [decide_eq_true_iff]
 by_cases hl:0<(r.Until.length:Int)
 . rw [if_pos hl]; constructor
   . rintro ⟨h1,h2,h3⟩; exact ⟨h2,h1,by
       rcases Int.lt_or_le (b8 (ix r.Until 0)) t with q | q
       . exact absurd ⟨hl,q⟩ h3
       . exact q⟩
   . rintro ⟨h1,h2,h3⟩; exact ⟨h2,h1,fun e=>by omega⟩
 . rw [if_neg hl]; constructor
   . rintro ⟨h1,h2,h3⟩; exact ⟨h2,h1,by omega⟩
   . rintro ⟨h1,h2,h3⟩; exact ⟨h2,h1,fun e=>hl e.1⟩
theorem b1t {day i0:Int}:∀ {n m:Nat} {k:Int},H5 s r day i0 (n+m) k=H5 s r day i0 n k++H5 s r day i0 m (k+n)
 | 0,m,k=>by
  rw [Nat.zero_add,show k+((0:Nat):Int)=k by omega]; rfl
 | n+1,m,k=>by
  rw [show n+1+m=(n+m)+1 by omega]
  show _++H5 s r day i0 (n+m) (k+1)=(_++H5 s r day i0 n (k+1))++_
  rw [b1t,List.append_assoc,show k+1+(n:Int)=k+((n+1:Nat):Int) by omega]
def NN:Nat:=40000+400000000000
theorem c3v (hF:p9 s r):L0 s r to=((D1 s r (G6 s r to) NN 0).map (·.1),(D1 s r (G6 s r to) NN 0).map (·.2)):=by
 obtain ⟨s0,s1⟩:=v6 hF.rt
 obtain ⟨w0,w1⟩:=M3 hF
 have hI:=C7 hF
 have hG:GrI s r [] ⟨[],[],[],-1⟩:=⟨.inl ⟨rfl,rfl,rfl,rfl,fun t ht=>by cases ht⟩⟩
 have hA:=GrI.all hI (m:=G6 s r to) hG (by
  rw [List.nil_append]
  refine (b0i (s:=s) (r:=r) (a:=G9 s r) (k:=S3 s r to)).imp_of_mem fun {t u} ht hu h=>?_
  have a:=a2q hF ht
  have b:=a2q hF hu
  have:=P1 (r:=r) (t:=t) (u:=u) a.1 (by omega) b.2 w0 w1
  rw [a2i,a2i]
  omega)
 rw [List.nil_append] at hA
 have hf:=hA.fin (N:=NN) hI fun t ht=>by
  obtain ⟨t0,t1⟩:=a2q hF ht
  have a:=W0 (r:=r) t0 t1 w0 w1
  have b:=W0 (r:=r) s0 s1 w0 w1
  have c:=Int.mul_le_mul_of_nonneg_left hI (show (0:Int)<=(NN:Int) by omega)
  have e:((NN:Nat):Int)=400000040000:=rfl
  rw [a2i]
  omega
 unfold L0
 exact Prod.ext hf.1 hf.2
theorem c6e (hF:p9 s r):alS s r to=alF s r to ⟨1,1,if b8 s<to then [b8 s] else []⟩ (D1 s r (G6 s r to) NN 0):=by
 unfold alS
 rw [c3v hF]
 dsimp only
 rw [List.length_map,b8a _ (Nat.le_refl _),List.take_length]
theorem d6m (hF:p9 s r):(alS s r to).out=(if b8 s<to then [b8 s] else [])++G8 r 1 ((H5 s r (j9 s.Day) (j8 r (b8 s)) NN 0).filter (PT (b8 s) to (G0 r))):=by
 rw [c6e hF,b0n]
 dsimp only
 have hU:=c60 (to:=to) hF (n:=NN) (k:=0) (Int.le_refl 0)
 rw [a1x,d6d (hU.filter _),d2d fun t ht=>(b70 hF (Int.le_refl 0) ht).2.2,a64 hF (Int.le_refl to) (Int.le_refl 0)]
theorem d4v (hF:p9 s r) (hb:p4 r (j8 r (b8 s)+40000 * r.Interval)<=to):(alS s r to).k=1+(G8 r 1 ((H5 s r (j9 s.Day) (j8 r (b8 s)) 40000 0).filter (PT (b8 s) (p4 r (j8 r (b8 s)+40000 * r.Interval)) (G0 r)))).length:=by
 have e1:D1 s r (G6 s r to) NN 0=D1 s r (G6 s r to) 40000 0++D1 s r (G6 s r to) 400000000000 40000:=a66 (n:=40000) (m:=400000000000) (k:=0)
 have n1:∀ p∈F8 s r 1 (D1 s r (G6 s r to) 40000 0),a7f p=true:=fun p hp=>by
  have:p∈D1 s r (G6 s r to) 40000 0:=by
   have sub:∀ (Z:List (Int×Int)) (n:Int),(F8 s r n Z).Sublist Z:=fun Z=>by
    induction Z with
    | nil=>intro n; exact List.Sublist.slnil
    | cons p Z ih =>
     intro n
     unfold F8
     split
     . exact List.Sublist.cons _ (ih n)
     . exact List.Sublist.cons_cons _ (ih _)
   exact (sub _ _).subset hp
  obtain ⟨j,_,j1,_,e⟩:=a2l.1 this
  exact decide_eq_true (by omega)
 have n2:∀ n:Int,(F8 s r n (D1 s r (G6 s r to) 400000000000 40000)).filter a7f=[]:=fun n=>List.filter_eq_nil_iff.2 fun p hp e=>by
  have:p∈D1 s r (G6 s r to) 400000000000 40000:=by
   have sub:∀ (Z:List (Int×Int)) (n:Int),(F8 s r n Z).Sublist Z:=fun Z=>by
    induction Z with
    | nil=>intro n; exact List.Sublist.slnil
    | cons p Z ih =>
     intro n
     unfold F8
     split
     . exact List.Sublist.cons _ (ih n)
     . exact List.Sublist.cons_cons _ (ih _)
   exact (sub _ _).subset hp
  obtain ⟨j,j0,_,_,e2⟩:=a2l.1 this
  have:=of_decide_eq_true e
  omega
 rw [c6e hF,b0n]
 dsimp only
 rw [e1,a9j,List.filter_append,n2,List.append_nil,List.filter_eq_self.2 n1]
 have e2:=congrArg List.length (a1x (s:=s) (r:=r) (Z:=D1 s r (G6 s r to) 40000 0) (n:=1))
 rw [List.length_map] at e2
 rw [e2]
 have hin:=fun t ht=>b70 (t:=t) (to:=to) hF (n:=40000) (Int.le_refl 0) ht
 rw [show (0:Int)+((40000:Nat):Int)=40000 by omega] at hin
 have e3:((D1 s r (G6 s r to) 40000 0).map (·.1)).filter (PU s r)=(((D1 s r (G6 s r to) 40000 0).map (·.1)).filter (PU s r)).filter (ltB (p4 r (j8 r (b8 s)+40000 * r.Interval))) :=
  (List.filter_eq_self.2 fun t ht=>lt_iff.2 (hin t (List.mem_filter.1 ht).1).2.1).symm
 rw [e3,d2d fun t ht=>(hin t ht).2.2,a64 hF hb (Int.le_refl 0)]
theorem d0e (hF:p9 s r):a0c s r 40000=p4 r (j8 r (b8 s)+40000 * r.Interval):=by
 obtain ⟨s0,s1⟩:=v6 hF.rt
 obtain ⟨w0,w1⟩:=M3 hF
 have hI:=C7 hF
 have hl:=G2 (r:=r) s0 s1 w0 w1
 have l0:=hl.a
 obtain ⟨hq,_⟩:=(m8.1 hF.rr).head
 unfold a0c d6i p4
 have e:s5 r (b8 s)=j8 r (b8 s)+if r.Freq=1 then 1 else 0:=by unfold j8; omega
 rw [e]
 have nb:∀ n:Int,0<=n->(n=0->r.Freq<2)->nbR r n=nbP n:=fun n h h2=>by
  unfold nbR nbP E5
  by_cases h3:n=0 ∨ 3652059<n
  . rw [if_pos h3,if_pos (by omega)]
  . rw [if_neg h3,if_neg (by omega),if_neg (by omega)]; omega
 by_cases f0:r.Freq=0
 . rw [if_pos f0,if_pos f0,if_neg (by omega),show j8 r (b8 s)+0+40000 * r.Interval=j8 r (b8 s)+40000 * r.Interval by omega]
   exact nb _ (G3 _).1 fun _=>by omega
 rw [if_neg f0,if_neg f0]
 by_cases f1:r.Freq=1
 . rw [if_pos f1,if_pos f1,if_pos f1,show j8 r (b8 s)+1+40000 * r.Interval-1=j8 r (b8 s)+40000 * r.Interval by omega]
   exact nb _ (G3 _).1 fun _=>by omega
 rw [if_neg f1,if_neg f1,if_neg f1,show j8 r (b8 s)+0+40000 * r.Interval=j8 r (b8 s)+40000 * r.Interval by omega]
 by_cases f2:r.Freq=2
 . rw [if_pos f2,if_pos f2,Int.max_eq_right (by omega)]
   exact nb _ (by omega) fun _=>by omega
 rw [if_neg f2,if_neg f2]
 by_cases f3:r.Freq=3
 . rw [if_pos f3,if_neg (by omega),if_neg (by omega),if_neg (by omega)]
   exact nb _ (by omega) fun _=>by omega
 rw [if_neg f3]
 by_cases f4:r.Freq=4
 . rw [if_pos f4,if_pos f4]; unfold E5; split <;> omega
 rw [if_neg f4,if_neg f4]
 by_cases f5:r.Freq=5
 . rw [if_pos f5,if_pos f5]; unfold E5; split <;> omega
 rw [if_neg f5,if_neg f5,if_pos (by omega)]
 unfold E5
 split <;> omega
theorem b9o:∀ {T y:List Int},(y.length:Int)<r.Count->(V8 (a1m r) y T false).2=false/\(r.Count<=((V8 (a1m r) y T false).1.length:Int)↔r.Count<=((y.length+T.length:Nat):Int))
 | [],y,h=>by unfold V8; exact ⟨rfl,by simp⟩
 | t::T,y,h=>by
  have e:(y++[t]).length=y.length+1:=by simp
  unfold V8
  by_cases hr:(y.length:Int)+1<r.Count
  . rw [show a1m r y t=true from decide_eq_true hr,cond_true]
    have:=b9o (T:=T) (y:=y++[t]) (by omega)
    rw [e] at this
    rw [List.length_cons,show y.length+(T.length+1)=y.length+1+T.length by omega]
    exact this
  . rw [show a1m r y t=false from decide_eq_false hr,cond_false]
    refine ⟨rfl,?_⟩
    show r.Count<=(((y++[t]).length:Nat):Int)↔_
    rw [e,List.length_cons]
    constructor <;> intro _ <;> omega
theorem c8t (hF:p9 s r) (ht:to<=315537897600):(allS s r to).2=J3 s r (j9 s.Day) to:=by
 obtain ⟨s0,s1⟩:=v6 hF.rt
 obtain ⟨w0,w1⟩:=M3 hF
 have hI:=C7 hF
 have lo:∀ j:Int,0<=j->LoP r (j8 r (b8 s)+j * r.Interval):=fun j hj=>(G2 (r:=r) s0 s1 w0 w1).up (by have:=Int.mul_nonneg hj (show 0<=r.Interval by omega); omega)
 have h40:=lo 40000 (by decide)
 have b1:=(I3 (r:=r) h40.a).2
 have hnum:=d4v (s:=s) (r:=r) (to:=to) hF
 have hbf:b8 s<p4 r (j8 r (b8 s)+40000 * r.Interval):=by
  rcases Int.lt_or_le (b8 s) (p4 r (j8 r (b8 s)+40000 * r.Interval)) with q | q
  . exact q
  . have:=(H4 h40 s0 s1).1 q; omega
 show a5o s r to (alS s r to).k=_
 unfold a5o J3
 rw [d0e hF]
 have hins:0<r.Count->(D8 s r (j9 s.Day) 0 (p4 r (j8 r (b8 s)+40000 * r.Interval))).1=(if b8 s<p4 r (j8 r (b8 s)+40000 * r.Interval) then [b8 s] else [])++G8 r 1 ((H5 s r (j9 s.Day) (j8 r (b8 s)) 40000 0).filter (PT (b8 s) (p4 r (j8 r (b8 s)+40000 * r.Interval)) (G0 r)))/\(D8 s r (j9 s.Day) 0 (p4 r (j8 r (b8 s)+40000 * r.Interval))).2=false:=fun h3=>by
  have q:=R5 (s:=s) (r:=r) (day:=j9 s.Day) (fr:=0) (to:=p4 r (j8 r (b8 s)+40000 * r.Interval)) hF
  have hk:k0S s r 0=0:=(R3 hF (Int.le_refl 0)).2.resolve_right (by omega)
  rw [hk] at q
  obtain ⟨i1,i2⟩:=q (by decide)
  have en:(40000-(0:Int)).toNat=40000:=by omega
  rw [en] at i1 i2
  refine ⟨i1,?_⟩
  rw [<- Bool.not_eq_true,i2,Classical.not_not,show (0:Int)+((40000:Nat):Int)=40000 by omega]
  exact .inl (.inl (.inl (Int.le_refl _)))
 generalize p4 r (j8 r (b8 s)+40000 * r.Interval)=b4 at *
 by_cases h1:to<=b4 ∨ 315537897600<=b4
 . rw [if_pos h1]
   split
   . rfl
   . exact decide_eq_false fun e=>by omega
 rw [if_neg h1]
 by_cases h2:0<(r.Until.length:Int)/\b8 (ix r.Until 0)<b4
 . rw [if_pos h2]
   split
   . rfl
   . exact decide_eq_false fun e=>by omega
 rw [if_neg h2]
 by_cases h3:0<r.Count
 . rw [if_pos h3]
   obtain ⟨i1,hfl⟩:=hins h3
   obtain ⟨q1,q2⟩:=b9o (r:=r) (T:=(D8 s r (j9 s.Day) 0 b4).1) (y:=[]) h3
   rw [hfl]
   have hl:r.Count<=(((([]:List Int).length+(D8 s r (j9 s.Day) 0 b4).1.length:Nat)):Int)↔r.Count<=(alS s r to).k:=by
    rw [hnum (by omega),i1,if_pos hbf,List.length_append]
    show r.Count<=((0+(1+_):Nat):Int)↔_
    constructor <;> intro _ <;> omega
   unfold c3e
   by_cases hc:r.Count<=(alS s r to).k
   . rw [if_pos ⟨h3,hc⟩,if_pos (.inl (q2.2 (hl.2 hc))),q1]
   . rw [if_neg fun e=>hc e.2,if_neg fun e=>?_]
     . exact decide_eq_true ⟨by omega,by
         by_cases hu:(r.Until.length:Int)=0
         . exact .inl hu
         . right
           rcases Int.lt_or_le (b8 (ix r.Until 0)) b4 with q | q
           . exact absurd ⟨by omega,q⟩ h2
           . exact q⟩
     . rcases e with e | e
       . exact hc (hl.1 (q2.1 e))
       . rw [q1] at e; cases e
 . rw [if_neg h3,if_neg fun e=>h3 e.1]
   exact decide_eq_true ⟨by omega,by
    by_cases hu:(r.Until.length:Int)=0
    . exact .inl hu
    . right
      rcases Int.lt_or_le (b8 (ix r.Until 0)) b4 with q | q
      . exact absurd ⟨by omega,q⟩ h2
      . exact q⟩
theorem all_eq (hF:p9 s r) (h:J3 s r (j9 s.Day) to=false):(allS s r to).1=(D8 s r (j9 s.Day) 0 to).1:=by
 obtain ⟨s0,s1⟩:=v6 hF.rt
 obtain ⟨w0,w1⟩:=M3 hF
 have hI:=C7 hF
 have lo:∀ j:Int,0<=j->LoP r (j8 r (b8 s)+j * r.Interval):=fun j hj=>(G2 (r:=r) s0 s1 w0 w1).up (by have:=Int.mul_nonneg hj (show 0<=r.Interval by omega); omega)
 have hfl:=b4e (day:=j9 s.Day) (fr:=0) hF (Int.le_refl 0) h
 have hk:k0S s r 0=0:=(R3 hF (Int.le_refl 0)).2.resolve_right (by omega)
 have hins:=R5 (s:=s) (r:=r) (day:=j9 s.Day) (fr:=0) (to:=to) hF
 rw [hk] at hins
 obtain ⟨i1,i2⟩:=hins (by decide)
 rw [<- Bool.not_eq_true,i2,Classical.not_not] at hfl
 have en:(40000-(0:Int)).toNat=40000:=by omega
 rw [en] at hfl i1
 show (alS s r to).out=_
 have e:H5 s r (j9 s.Day) (j8 r (b8 s)) NN 0=H5 s r (j9 s.Day) (j8 r (b8 s)) 40000 0++H5 s r (j9 s.Day) (j8 r (b8 s)) 400000000000 40000:=b1t (n:=40000) (m:=400000000000) (k:=0)
 rw [d6m hF,i1,e,List.filter_append,c0m]
 have hge:=fun t ht=>a4e (t:=t) (day:=j9 s.Day) (n:=400000000000) hF (lo 40000 (by decide)) ht
 rw [show (0:Int)+((40000:Nat):Int)=40000 by omega] at hfl
 generalize H5 s r (j9 s.Day) (j8 r (b8 s)) 400000000000 40000=B at *
 generalize H5 s r (j9 s.Day) (j8 r (b8 s)) 40000 0=A at *
 generalize p4 r (j8 r (b8 s)+40000 * r.Interval)=b4 at *
 rw [show G8 r (1+((G8 r 1 (A.filter (PT (b8 s) to (G0 r)))).length:Int)) (B.filter (PT (b8 s) to (G0 r)))=[] from ?_,List.append_nil]
 by_cases hc:0<r.Count/\r.Count<=1+((G8 r 1 (A.filter (PT (b8 s) to (G0 r)))).length:Int)
 . exact b22 hc.1 hc.2
 . have hB:B.filter (PT (b8 s) to (G0 r))=[]:=filter_nil fun t ht e=>by
     have:=hge t ht
     have:=L6.1 e
     unfold X5 at hfl
     omega
   rw [hB,a0s]
end
theorem b3p {s a:Tm} {r:Rl}:(B9 s r a).1=(C9 s r a).1/\(B9 s r a).2.1=(C9 s r a).2.1/\(B9 s r a).2.2.nr=(C9 s r a).2.2:=by
 by_cases hb:¬ A0 s r=true ∨ ¬ n7 a=true
 . have e1:C9 s r a=(a30,false,2):=if_pos hb
   have e2:B9 s r a=(a30,false,.no 2):=if_pos hb
   rw [e1,e2]; exact ⟨rfl,rfl,nr2⟩
 have hF:=G7.1 (Classical.not_not.1 fun e=>hb (.inl e))
 have ha:n7 a=true:=Classical.not_not.1 fun e=>hb (.inr e)
 have b1:=v6 ha
 have hm:=c8t (s:=s) (r:=r) (to:=b8 a+1) hF (by omega)
 cases hf:J3 s r (j9 s.Day) (b8 a+1) with
 | true =>
  have e2:B9 s r a=(a30,false,.no 5):=by unfold B9; rw [if_neg hb,if_pos hf]
  have e1:C9 s r a=(a30,false,5):=by unfold C9; rw [if_neg hb,if_pos (hm.trans hf)]
  rw [e1,e2]; exact ⟨rfl,rfl,nr5⟩
 | false =>
  have hA:=all_eq hF hf
  have hU:=b5z (day:=j9 s.Day) (fr:=0) (to:=b8 a+1) hF (Int.le_refl 0)
  have hT:=fun t=>e0l (t:=t) (day:=j9 s.Day) (fr:=0) (to:=b8 a+1) hF (Int.le_refl 0)
  have e1:C9 s r a=if ((D8 s r (j9 s.Day) 0 (b8 a+1)).1.length:Int)=0 then (a30,false,0) else (atS (ix (D8 s r (j9 s.Day) 0 (b8 a+1)).1 (((D8 s r (j9 s.Day) 0 (b8 a+1)).1.length:Int)-1)) s,true,0):=by
   unfold C9
   rw [if_neg hb,if_neg (by rw [hm,hf]; exact Bool.false_ne_true),hA]
  have e2:B9 s r a=if b8 a+1<=b8 s then (a30,false,.nil) else (atS (R7 (b8 s) (D8 s r (j9 s.Day) 0 (b8 a+1)).1) s,true,.nil):=by
   unfold B9
   rw [if_neg hb,hf,if_neg Bool.false_ne_true]
  have hz:=(R3 hF (Int.le_refl 0)).1
  have hs:=(R5 (s:=s) (r:=r) (day:=j9 s.Day) (fr:=0) (to:=b8 a+1) hF hz).1
  have hk:b8 s<b8 a+1->0<(D8 s r (j9 s.Day) 0 (b8 a+1)).1.length:=fun h=>by
   rw [hs,if_pos h,List.length_append,List.length_singleton]; omega
  generalize (D8 s r (j9 s.Day) 0 (b8 a+1)).1=L at *
  have n0:Err.nil.nr=0:=by decide
  rw [e1,e2]
  by_cases hle:b8 a+1<=b8 s
  . have hl:L=[]:=by
      cases L with
      | nil=>rfl
      | cons t L =>
       have q:=hT t (List.mem_cons_self ..)
       have:=q.b
       have:=q.ge
       omega
    rw [if_pos hle,hl,if_pos (by rfl)]
    exact ⟨rfl,rfl,n0⟩
  . have h1:=hk (by omega)
    rw [if_neg hle,if_neg (by omega)]
    have e3:R7 (b8 s) L=ix L ((L.length:Int)-1):=by
     have h2:((L.length:Int)-1).toNat=L.length-1:=by omega
     rw [A8 (by omega)]
     unfold R7
     rw [List.getLast?_eq_getElem?,List.getElem?_eq_getElem (by omega)]
     simp only [h2,Option.getD_some]
    rw [e3]
    exact ⟨rfl,rfl,n0⟩
theorem c7p {s a:Tm} {r:Rl}:(isP s r a).1=(isS s r a).1/\(isP s r a).2.nr=(isS s r a).2:=by
 obtain ⟨h1,h2,h3⟩:=b3p (s:=s) (r:=r) (a:=a)
 unfold isP isS
 by_cases he:(B9 s r a).2.2=.nil
 . rw [if_pos he]
   dsimp only
   rw [<- h3,he,h1,h2]
   exact ⟨decide_eq_decide.2 Iff.rfl,rfl⟩
 . rw [if_neg he]
   dsimp only
   rw [<- h3,<- h1,<- h2]
   refine ⟨?_,rfl⟩
   have hn:(B9 s r a).2.1=false:=by
    unfold B9 at he ⊢
    (repeat' split) <;> first | rfl | skip
    exfalso
    apply he
    rw [if_neg (by assumption),if_neg (by assumption),if_neg (by assumption)]
   rw [hn]
   exact (decide_eq_false fun e=>by cases e.1).symm
end Go.Re
end
section
namespace Go.Proofs.YtdjfeninmbpflaaGreat
open Go Go.Wk Go.Wl Go.Rx Go.Re 
attribute [local irreducible] m7
def d9c:Nat->Ann:=fun | 8=>⟨86,nn,nn⟩ | _=>⟨0,nn,nn⟩
def VlL (s:Tm) (r:Rl) (a:Tm) (Q:Bool->Prop):Prop :=
(¬w4 (etR r)=true ∨ ¬b2l (etT s) (etR r) (etT a)=true->Q (decide (true=true)))/\(¬(¬w4 (etR r)=true ∨ ¬b2l (etT s) (etR r) (etT a)=true)->w4 (etR r)=true/\w4 (etR r)=true/\w4 (etR r)=true/\w4 (etR r)=true/\Q (decide ((((((((B9 (etT s) (etR r) (etT a)).fst.Day.Year=(C9 (etT s) (etR r) (etT a)).fst.Day.Year/\(B9 (etT s) (etR r) (etT a)).fst.Day.Month=(C9 (etT s) (etR r) (etT a)).fst.Day.Month/\(B9 (etT s) (etR r) (etT a)).fst.Day.Date=(C9 (etT s) (etR r) (etT a)).fst.Day.Date/\True)/\(B9 (etT s) (etR r) (etT a)).fst.Hour=(C9 (etT s) (etR r) (etT a)).fst.Hour/\(B9 (etT s) (etR r) (etT a)).fst.Min=(C9 (etT s) (etR r) (etT a)).fst.Min/\(B9 (etT s) (etR r) (etT a)).fst.Sec=(C9 (etT s) (etR r) (etT a)).fst.Sec/\((B9 (etT s) (etR r) (etT a)).fst.Bare=true↔(C9 (etT s) (etR r) (etT a)).fst.Bare=true)/\((B9 (etT s) (etR r) (etT a)).fst.UTC=true↔(C9 (etT s) (etR r) (etT a)).fst.UTC=true)/\True)/\((B9 (etT s) (etR r) (etT a)).snd.fst=true↔(C9 (etT s) (etR r) (etT a)).snd.fst=true))/\(B9 (etT s) (etR r) (etT a)).snd.snd.nr=(C9 (etT s) (etR r) (etT a)).snd.snd)/\((isP (etT s) (etR r) (etT a)).fst=true↔(isS (etT s) (etR r) (etT a)).fst=true))/\(isP (etT s) (etR r) (etT a)).snd.nr=(isS (etT s) (etR r) (etT a)).snd)/\true=true)))
theorem plL (s:Tm) (r:Rl) (a:Tm)  : VlL s r a (fun y0=>y0=true):=by
 unfold VlL
 simp only [P2,V9,c6v]
 refine ⟨fun _=>rfl,fun h=>?_⟩
 have hfw:w4 r=true:=Classical.not_not.1 fun e=>h (.inl e)
 obtain ⟨e1,e2,e3⟩:=b3p (s:=s) (r:=r) (a:=a)
 obtain ⟨e4,e5⟩:=c7p (s:=s) (r:=r) (a:=a)
 refine ⟨hfw,hfw,hfw,hfw,?_⟩
 rw [e1,e2,e3,e4,e5]
 exact decide_eq_true ⟨⟨⟨⟨⟨rfl,Iff.rfl⟩,rfl⟩,Iff.rfl⟩,rfl⟩,trivial⟩
end Go.Proofs.YtdjfeninmbpflaaGreat
end
section
namespace Go.Proofs.YtdjfeninmbpflaaGreat
open Go Go.Wk Go.Wl Go.Rx Go.RowKit Go.ChangeShapes Go.WideShapes Go.Re
theorem e05:laidOutB Tryz.prog=true:=by kernel_rfl
theorem e2k:ownKnob Tryz.prog.godebug=none:=by kernel_rfl
theorem d9o {P:Program} {ts:List TypeId} (h:(ts.all fun t=>P.readableRec t && decide (t<P.types.size))=true):∀ t∈ts,P.readableRec t=true/\t<P.types.size:=fun t ht=>by
 have:=List.all_eq_true.1 h t ht
 rw [Bool.and_eq_true,decide_eq_true_eq] at this
 exact this
theorem c21:a05 Tryz.prog 23 dDy:=fun {H enc fuel w sp cs x} h=>by
 obtain ⟨xs,n,_,_,hlen,hxl,hget⟩:=DataW.trod_struct Tryz.underlying23 h
 have hz:Tryz.prog.cellsOf 23=3:=by kernel_rfl
 rw [hz] at hlen
 have z3:Tryz.prog.cellsOf 3=1:=by kernel_rfl
 have g0:DataW.trod enc Tryz.prog w 0 sp true n 3 ((cs.drop 0).take (Tryz.prog.cellsOf 3))=xs[0]? := hget 0 _ rfl
 rw [List.getElem?_eq_getElem (by rw [hxl]; decide),z3] at g0
 obtain ⟨y0,k0⟩:=(u6 Tryz.underlying3) g0
 have g1:DataW.trod enc Tryz.prog w 0 sp true n 3 ((cs.drop 1).take (Tryz.prog.cellsOf 3))=xs[1]? := hget 1 _ rfl
 rw [List.getElem?_eq_getElem (by rw [hxl]; decide),z3] at g1
 obtain ⟨y1,k1⟩:=(u6 Tryz.underlying3) g1
 have g2:DataW.trod enc Tryz.prog w 0 sp true n 3 ((cs.drop 2).take (Tryz.prog.cellsOf 3))=xs[2]? := hget 2 _ rfl
 rw [List.getElem?_eq_getElem (by rw [hxl]; decide),z3] at g2
 obtain ⟨y2,k2⟩:=(u6 Tryz.underlying3) g2
 have q:cs=(cs.drop 0).take (1+(1+(1))):=b06 hlen
 exact ⟨⟨y0,y1,y2⟩,_,_,_,q.trans (J6.trans (congrArg _ J6)),k0,k1,k2⟩
theorem a8u:a05 Tryz.prog 25 dTm:=fun {H enc fuel w sp cs x} h=>by
 obtain ⟨xs,n,_,_,hlen,hxl,hget⟩:=DataW.trod_struct Tryz.underlying25 h
 have hz:Tryz.prog.cellsOf 25=8:=by kernel_rfl
 rw [hz] at hlen
 have z3:Tryz.prog.cellsOf 3=1:=by kernel_rfl
 have z4:Tryz.prog.cellsOf 4=1:=by kernel_rfl
 have z23:Tryz.prog.cellsOf 23=3:=by kernel_rfl
 have g0:DataW.trod enc Tryz.prog w 0 sp true n 23 ((cs.drop 0).take (Tryz.prog.cellsOf 23))=xs[0]? := hget 0 _ rfl
 rw [List.getElem?_eq_getElem (by rw [hxl]; decide),z23] at g0
 obtain ⟨y0,k0⟩:=c21 g0
 have g1:DataW.trod enc Tryz.prog w 0 sp true n 3 ((cs.drop 3).take (Tryz.prog.cellsOf 3))=xs[1]? := hget 1 _ rfl
 rw [List.getElem?_eq_getElem (by rw [hxl]; decide),z3] at g1
 obtain ⟨y1,k1⟩:=(u6 Tryz.underlying3) g1
 have g2:DataW.trod enc Tryz.prog w 0 sp true n 3 ((cs.drop 4).take (Tryz.prog.cellsOf 3))=xs[2]? := hget 2 _ rfl
 rw [List.getElem?_eq_getElem (by rw [hxl]; decide),z3] at g2
 obtain ⟨y2,k2⟩:=(u6 Tryz.underlying3) g2
 have g3:DataW.trod enc Tryz.prog w 0 sp true n 3 ((cs.drop 5).take (Tryz.prog.cellsOf 3))=xs[3]? := hget 3 _ rfl
 rw [List.getElem?_eq_getElem (by rw [hxl]; decide),z3] at g3
 obtain ⟨y3,k3⟩:=(u6 Tryz.underlying3) g3
 have g4:DataW.trod enc Tryz.prog w 0 sp true n 4 ((cs.drop 6).take (Tryz.prog.cellsOf 4))=xs[4]? := hget 4 _ rfl
 rw [List.getElem?_eq_getElem (by rw [hxl]; decide),z4] at g4
 obtain ⟨y4,k4⟩:=(a3w Tryz.underlying4) g4
 have g5:DataW.trod enc Tryz.prog w 0 sp true n 4 ((cs.drop 7).take (Tryz.prog.cellsOf 4))=xs[5]? := hget 5 _ rfl
 rw [List.getElem?_eq_getElem (by rw [hxl]; decide),z4] at g5
 obtain ⟨y5,k5⟩:=(a3w Tryz.underlying4) g5
 have q:cs=(cs.drop 0).take (3+(1+(1+(1+(1+(1)))))):=b06 hlen
 exact ⟨⟨y0,y1,y2,y3,y4,y5⟩,_,_,_,_,_,_,q.trans (J6.trans (congrArg _ (J6.trans (congrArg _ (J6.trans (congrArg _ (J6.trans (congrArg _ J6)))))))),k0,k1,k2,k3,k4,k5⟩
theorem c2h:a05 Tryz.prog 60 dNt:=fun {H enc fuel w sp cs x} h=>by
 obtain ⟨xs,n,_,_,hlen,hxl,hget⟩:=DataW.trod_struct Tryz.underlying60 h
 have hz:Tryz.prog.cellsOf 60=2:=by kernel_rfl
 rw [hz] at hlen
 have z3:Tryz.prog.cellsOf 3=1:=by kernel_rfl
 have g0:DataW.trod enc Tryz.prog w 0 sp true n 3 ((cs.drop 0).take (Tryz.prog.cellsOf 3))=xs[0]? := hget 0 _ rfl
 rw [List.getElem?_eq_getElem (by rw [hxl]; decide),z3] at g0
 obtain ⟨y0,k0⟩:=(u6 Tryz.underlying3) g0
 have g1:DataW.trod enc Tryz.prog w 0 sp true n 3 ((cs.drop 1).take (Tryz.prog.cellsOf 3))=xs[1]? := hget 1 _ rfl
 rw [List.getElem?_eq_getElem (by rw [hxl]; decide),z3] at g1
 obtain ⟨y1,k1⟩:=(u6 Tryz.underlying3) g1
 have q:cs=(cs.drop 0).take (1+(1)):=b06 hlen
 exact ⟨⟨y0,y1⟩,_,_,q.trans J6,k0,k1⟩
theorem c1e:a05 Tryz.prog 30 dRl:=fun {H enc fuel w sp cs x} h=>by
 obtain ⟨xs,n,_,_,hlen,hxl,hget⟩:=DataW.trod_struct Tryz.underlying30 h
 have hz:Tryz.prog.cellsOf 30=14:=by kernel_rfl
 rw [hz] at hlen
 have z3:Tryz.prog.cellsOf 3=1:=by kernel_rfl
 have z26:Tryz.prog.cellsOf 26=1:=by kernel_rfl
 have z27:Tryz.prog.cellsOf 27=1:=by kernel_rfl
 have z28:Tryz.prog.cellsOf 28=1:=by kernel_rfl
 have g0:DataW.trod enc Tryz.prog w 0 sp true n 3 ((cs.drop 0).take (Tryz.prog.cellsOf 3))=xs[0]? := hget 0 _ rfl
 rw [List.getElem?_eq_getElem (by rw [hxl]; decide),z3] at g0
 obtain ⟨y0,k0⟩:=(u6 Tryz.underlying3) g0
 have g1:DataW.trod enc Tryz.prog w 0 sp true n 3 ((cs.drop 1).take (Tryz.prog.cellsOf 3))=xs[1]? := hget 1 _ rfl
 rw [List.getElem?_eq_getElem (by rw [hxl]; decide),z3] at g1
 obtain ⟨y1,k1⟩:=(u6 Tryz.underlying3) g1
 have g2:DataW.trod enc Tryz.prog w 0 sp true n 3 ((cs.drop 2).take (Tryz.prog.cellsOf 3))=xs[2]? := hget 2 _ rfl
 rw [List.getElem?_eq_getElem (by rw [hxl]; decide),z3] at g2
 obtain ⟨y2,k2⟩:=(u6 Tryz.underlying3) g2
 have g3:DataW.trod enc Tryz.prog w 0 sp true n 26 ((cs.drop 3).take (Tryz.prog.cellsOf 26))=xs[3]? := hget 3 _ rfl
 rw [List.getElem?_eq_getElem (by rw [hxl]; decide),z26] at g3
 obtain ⟨y3,k3⟩:=(C1 Tryz.underlying26 (by kernel_rfl) (by decide) a8u) g3
 have g4:DataW.trod enc Tryz.prog w 0 sp true n 27 ((cs.drop 4).take (Tryz.prog.cellsOf 27))=xs[4]? := hget 4 _ rfl
 rw [List.getElem?_eq_getElem (by rw [hxl]; decide),z27] at g4
 obtain ⟨y4,k4⟩:=(C1 Tryz.underlying27 (by kernel_rfl) (by decide) (u6 Tryz.underlying3)) g4
 have g5:DataW.trod enc Tryz.prog w 0 sp true n 27 ((cs.drop 5).take (Tryz.prog.cellsOf 27))=xs[5]? := hget 5 _ rfl
 rw [List.getElem?_eq_getElem (by rw [hxl]; decide),z27] at g5
 obtain ⟨y5,k5⟩:=(C1 Tryz.underlying27 (by kernel_rfl) (by decide) (u6 Tryz.underlying3)) g5
 have g6:DataW.trod enc Tryz.prog w 0 sp true n 27 ((cs.drop 6).take (Tryz.prog.cellsOf 27))=xs[6]? := hget 6 _ rfl
 rw [List.getElem?_eq_getElem (by rw [hxl]; decide),z27] at g6
 obtain ⟨y6,k6⟩:=(C1 Tryz.underlying27 (by kernel_rfl) (by decide) (u6 Tryz.underlying3)) g6
 have g7:DataW.trod enc Tryz.prog w 0 sp true n 27 ((cs.drop 7).take (Tryz.prog.cellsOf 27))=xs[7]? := hget 7 _ rfl
 rw [List.getElem?_eq_getElem (by rw [hxl]; decide),z27] at g7
 obtain ⟨y7,k7⟩:=(C1 Tryz.underlying27 (by kernel_rfl) (by decide) (u6 Tryz.underlying3)) g7
 have g8:DataW.trod enc Tryz.prog w 0 sp true n 28 ((cs.drop 8).take (Tryz.prog.cellsOf 28))=xs[8]? := hget 8 _ rfl
 rw [List.getElem?_eq_getElem (by rw [hxl]; decide),z28] at g8
 obtain ⟨y8,k8⟩:=(C1 Tryz.underlying28 (by kernel_rfl) (by decide) c2h) g8
 have g9:DataW.trod enc Tryz.prog w 0 sp true n 27 ((cs.drop 9).take (Tryz.prog.cellsOf 27))=xs[9]? := hget 9 _ rfl
 rw [List.getElem?_eq_getElem (by rw [hxl]; decide),z27] at g9
 obtain ⟨y9,k9⟩:=(C1 Tryz.underlying27 (by kernel_rfl) (by decide) (u6 Tryz.underlying3)) g9
 have g10:DataW.trod enc Tryz.prog w 0 sp true n 27 ((cs.drop 10).take (Tryz.prog.cellsOf 27))=xs[10]? := hget 10 _ rfl
 rw [List.getElem?_eq_getElem (by rw [hxl]; decide),z27] at g10
 obtain ⟨y10,k10⟩:=(C1 Tryz.underlying27 (by kernel_rfl) (by decide) (u6 Tryz.underlying3)) g10
 have g11:DataW.trod enc Tryz.prog w 0 sp true n 27 ((cs.drop 11).take (Tryz.prog.cellsOf 27))=xs[11]? := hget 11 _ rfl
 rw [List.getElem?_eq_getElem (by rw [hxl]; decide),z27] at g11
 obtain ⟨y11,k11⟩:=(C1 Tryz.underlying27 (by kernel_rfl) (by decide) (u6 Tryz.underlying3)) g11
 have g12:DataW.trod enc Tryz.prog w 0 sp true n 27 ((cs.drop 12).take (Tryz.prog.cellsOf 27))=xs[12]? := hget 12 _ rfl
 rw [List.getElem?_eq_getElem (by rw [hxl]; decide),z27] at g12
 obtain ⟨y12,k12⟩:=(C1 Tryz.underlying27 (by kernel_rfl) (by decide) (u6 Tryz.underlying3)) g12
 have g13:DataW.trod enc Tryz.prog w 0 sp true n 3 ((cs.drop 13).take (Tryz.prog.cellsOf 3))=xs[13]? := hget 13 _ rfl
 rw [List.getElem?_eq_getElem (by rw [hxl]; decide),z3] at g13
 obtain ⟨y13,k13⟩:=(u6 Tryz.underlying3) g13
 have q:cs=(cs.drop 0).take (1+(1+(1+(1+(1+(1+(1+(1+(1+(1+(1+(1+(1+(1)))))))))))))):=b06 hlen
 exact ⟨⟨y0,y1,y2,y3,y4,y5,y6,y7,y8,y9,y10,y11,y12,y13⟩,_,_,_,_,_,_,_,_,_,_,_,_,_,_,q.trans (J6.trans (congrArg _ (J6.trans (congrArg _ (J6.trans (congrArg _ (J6.trans (congrArg _ (J6.trans (congrArg _ (J6.trans (congrArg _ (J6.trans (congrArg _ (J6.trans (congrArg _ (J6.trans (congrArg _ (J6.trans (congrArg _ (J6.trans (congrArg _ (J6.trans (congrArg _ J6)))))))))))))))))))))))),k0,k1,k2,k3,k4,k5,k6,k7,k8,k9,k10,k11,k12,k13⟩
theorem c1z {Z:Nat->Prop} {W:World} {v:Value} (h:Rep U eT (fun _=>none) Z W v (blB true)):v=.bool true:=by
 cases h with | bl=>rfl
theorem c50 {v:Value} {n:Nat} (h:v.cells.toList.length=n+2):∃ cs:List Value,v=.agg cs.toArray/\v.cells.toList=cs:=by
 cases v with
 | agg cs=>exact ⟨cs.toList,by simp,rfl⟩
 | _=>simp [Value.cells] at h
theorem d1s {H:Type} {enc:TypeId×Value->H} {W:World} {sp:Nat->Bool} {v:Value} {d:DataW H} {ps:List MemPlace} (h:DataW.Trod enc Tryz.prog W 0 sp true 25 v d ps):∃ y:Tm,Rep U eT (fun _=>none) (fun b=>b<W.heap.size) W v (.agg [.int .i64 y.Day.Year,.int .i64 y.Day.Month,.int .i64 y.Day.Date,.int .i64 y.Hour,.int .i64 y.Min,.int .i64 y.Sec,blB y.Bare,blB y.UTC]):=by
 obtain ⟨n,h⟩:=h
 obtain ⟨y,k⟩:=a8u h
 have k:=Rd.weak (D':=fun b=>b<W.heap.size) _ k (fun _ _ hb=>hb)
 obtain ⟨cs,e1,e2⟩:=c50 (n:=6) (Rd.len _ k)
 rw [e2] at k
 exact ⟨y,by rw [e1]; exact y25.sv_ok k⟩
theorem e17 {H:Type} {enc:TypeId×Value->H} {W:World} {sp:Nat->Bool} {v:Value} {d:DataW H} {ps:List MemPlace} (h:DataW.Trod enc Tryz.prog W 0 sp true 30 v d ps):∃ y:Rl,Rep U eT (fun _=>none) (fun b=>b<W.heap.size) W v (.agg [.int .i64 y.Freq,.int .i64 y.Interval,.int .i64 y.Count,.sl (N:=U) 25 y.Until,.sl (N:=U) 3 y.Month,.sl (N:=U) 3 y.WeekNo,.sl (N:=U) 3 y.YearDay,.sl (N:=U) 3 y.MonthDay,.sl (N:=U) 60 y.Days,.sl (N:=U) 3 y.Hour,.sl (N:=U) 3 y.Minute,.sl (N:=U) 3 y.Second,.sl (N:=U) 3 y.SetPos,.int .i64 y.Wkst]):=by
 obtain ⟨n,h⟩:=h
 obtain ⟨y,k⟩:=c1e h
 have k:=Rd.weak (D':=fun b=>b<W.heap.size) _ k (fun _ _ hb=>hb)
 obtain ⟨cs,e1,e2⟩:=c50 (n:=12) (Rd.len _ k)
 rw [e2] at k
 exact ⟨y,by rw [e1]; exact y30.sv_ok k⟩
end Go.Proofs.YtdjfeninmbpflaaGreat
end
