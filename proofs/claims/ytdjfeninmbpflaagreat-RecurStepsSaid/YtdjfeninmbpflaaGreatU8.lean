/- 14 texts, one behind the other. -/
import Derived.Test.YtdjfeninmbpflaaGreatU7
import Derived.Test.YtdjfeninmbpflaaGreatU4
import Derived.Test.YtdjfeninmbpflaaGreatRows
import Derived.Test.YtdjfeninmbpflaaGreatU1
import Derived.ChangeSame
import Derived.ChangeVars
import Derived.JoinedOf
import Derived.RowKit
import Derived.RowKit2
import Derived.Carry
import Derived.ProofKit
set_option linter.unusedVariables false
set_option linter.unusedSimpArgs false
set_option maxRecDepth 100000
section
namespace Go.Proofs.YtdjfeninmbpflaaGreat
open Go Go.Wk Go.Wl Go.Rx Go.Re 
attribute [local irreducible] i6
def c6m:Nat->Ann:=fun | 13=>⟨61,fun _=>none,fun _=>none⟩ | 34=>⟨171,fun | 16=>some ⟨[0,2,3,9,11,14],[.slot 10 (.int .i64),.slot 15 (.int .i64),.own 2000003 [.acc 25]]⟩ | 23=>some ⟨[0,2,3,9,11,14,15,130,131],[.slot 10 (.int .i64),.slot 132 (.int .i64),.own 2000003 [.acc 25]]⟩ | 7=>some ⟨[0,1,2,3,9,10,42,43],[.slot 11 (.int .i64),.slot 44 (.int .i64)]⟩ | _=>none,fun | 5=>some ⟨[0,1,2,3,9,10],[.own 2000003 [.acc 25]]⟩ | 16=>some ⟨[0,2,3,9,10,11,14],[.slot 15 (.int .i64)]⟩ | _=>none⟩ | 35=>⟨18,fun _=>none,fun _=>none⟩ | _=>⟨0,fun _=>none,fun _=>none⟩
def M5 (s:Tm) (r:Rl) (x_4:Int):=u9 (etT s) (etR r) (p6 (etD s.Day)) (l6 (etR r) (b8 (etT (etT s)))+x_4 * r.Interval)
def b99 (r:Rl) (a:Tm) (s:Tm):=l6 (etR r) (bif false then max (b8 (etT a)) (315537897599:Int) else min (b8 (etT a)) (315537897599:Int))-l6 (etR r) (b8 (etT (etT s)))
def Vex (s:Tm) (r:Rl) (a:Tm) (b:Tm) (Q:List Tm->Err->Prop):Prop :=
B9 (etR r)=true/\((¬C4 (etT s) (etR r)=true ∨ ¬l9 (etT a)=true) ∨ ¬l9 (etT b)=true->Q [] (Err.no (2:Int)))/\(¬((¬C4 (etT s) (etR r)=true ∨ ¬l9 (etT a)=true) ∨ ¬l9 (etT b)=true)->B9 (etR r)=true/\C4 (etT s) (etR r)=true/\(b1v (T8 (etT s) (etR r) (p6 (etD s.Day)) (b8 (etT b)))≠Err.nil->((b1v (T8 (etT s) (etR r) (p6 (etD s.Day)) (b8 (etT b)))).is (5:Int) ∨ b1v (T8 (etT s) (etR r) (p6 (etD s.Day)) (b8 (etT b)))=Err.nil)/\Q [] (K1 (b1v (T8 (etT s) (etR r) (p6 (etD s.Day)) (b8 (etT b))))))/\(¬b1v (T8 (etT s) (etR r) (p6 (etD s.Day)) (b8 (etT b)))≠Err.nil->∃ (J:List Tm->Prop),((b8 (etT (etT s))<b8 (etT b)/\(0:Int)<=b8 (etT (etT s))->(b8 (etT a)<=b8 (etT (etT s))->b8 (etT (etT s))<=9000000000000000000/\[etT (atS (b8 (etT (etT s))) (etT s))].length * (some (56:Nat)).getD (0:Nat)<=140737488355328/\(¬(↑[etT (atS (b8 (etT (etT s))) (etT s))].length:Int)<=1000->(Err.nil≠Err.nil->(Err.nil.is (5:Int) ∨ Err.nil=Err.nil)/\Q [] (K1 Err.nil))/\(¬Err.nil≠Err.nil->((1000:Int)<(↑[etT (atS (b8 (etT (etT s))) (etT s))].length:Int)->Q [] (Err.no (16:Int)))/\(¬(1000:Int)<(↑[etT (atS (b8 (etT (etT s))) (etT s))].length:Int)->Q [etT (atS (b8 (etT (etT s))) (etT s))] Err.nil)))/\(¬¬(↑[etT (atS (b8 (etT (etT s))) (etT s))].length:Int)<=1000->J [etT (atS (b8 (etT (etT s))) (etT s))]))/\(¬b8 (etT a)<=b8 (etT (etT s))->(¬(0:Int)<=1000->(Err.nil≠Err.nil->(Err.nil.is (5:Int) ∨ Err.nil=Err.nil)/\Q [] (K1 Err.nil))/\(¬Err.nil≠Err.nil->((1000:Int)<0->Q [] (Err.no (16:Int)))/\(¬(1000:Int)<0->Q [] Err.nil)))/\(¬¬(0:Int)<=1000->J [])))/\(¬(b8 (etT (etT s))<b8 (etT b)/\(0:Int)<=b8 (etT (etT s)))->J []))/\∀ (x:List Tm),J x->∃ (I:Int->Int->Prop),∃ (m:Int->Int->Nat),I (315537897600:Int) (0:Int)/\∀ (x_1 x_2:Int),I x_1 x_2->(x_2<(↑r.Until.length:Int)->(0:Int)<=x_2/\x_2<(↑r.Until.length:Int)/\(b9 (ix r.Until x_2).Day.Year->b9 (ix r.Until x_2).Day.Month->b9 (ix r.Until x_2).Day.Date->b9 (ix r.Until x_2).Hour->b9 (ix r.Until x_2).Min->b9 (ix r.Until x_2).Sec->b9 (x_2+1)/\I (b8 (etT (ix r.Until x_2))) (x_2+1)/\m (b8 (etT (ix r.Until x_2))) (x_2+1)<m x_1 x_2))/\(¬x_2<(↑r.Until.length:Int)->(0:Int)<=b8 (etT (etT s))/\b8 (etT (etT s))<=400000000000/\(0:Int)<=r.Wkst/\r.Wkst<=6/\∃ (J:Int->Prop),((r.Count=0/\b8 (etT (etT s))<b8 (etT a)->(((0:Int)<=bif false then max (b8 (etT a)) (315537897599:Int) else min (b8 (etT a)) (315537897599:Int))/\(bif false then max (b8 (etT a)) (315537897599:Int) else min (b8 (etT a)) (315537897599:Int))<=400000000000/\(0:Int)<=r.Wkst/\r.Wkst<=6)/\b9 (b99 r a s)/\(r.Interval≠0/\b9 ((b99 r a s).tdiv r.Interval))/\b9 ((b99 r a s).tdiv r.Interval-1)/\J (bif true then max (0:Int) ((b99 r a s).tdiv r.Interval-1) else min (0:Int) ((b99 r a s).tdiv r.Interval-1)))/\(¬(r.Count=0/\b8 (etT (etT s))<b8 (etT a))->J (0:Int)))/\∀ (x_3:Int),J x_3->∃ (I:Int->Int->List Tm->Prop),∃ (m:Int->Int->List Tm->Nat),I (1:Int) x_3 x/\∀ (x x_4:Int) (x_5:List Tm),I x x_4 x_5->b9 (x_4 * r.Interval)/\b9 (l6 (etR r) (b8 (etT (etT s)))+x_4 * r.Interval)/\(0:Int)<=l6 (etR r) (b8 (etT (etT s)))+x_4 * r.Interval/\l6 (etR r) (b8 (etT (etT s)))+x_4 * r.Interval<=1000000000000/\(0:Int)<=r.Wkst/\r.Wkst<=6/\(((b8 (etT b)<=q7 (etR r) (l6 (etR r) (b8 (etT (etT s)))+x_4 * r.Interval) ∨ x_1<q7 (etR r) (l6 (etR r) (b8 (etT (etT s)))+x_4 * r.Interval)) ∨ (0:Int)<r.Count/\r.Count<=x) ∨ (315537897600:Int)<=q7 (etR r) (l6 (etR r) (b8 (etT (etT s)))+x_4 * r.Interval)->(Err.nil≠Err.nil->(Err.nil.is (5:Int) ∨ Err.nil=Err.nil)/\Q [] (K1 Err.nil))/\(¬Err.nil≠Err.nil->((1000:Int)<(↑x_5.length:Int)->Q [] (Err.no (16:Int)))/\(¬(1000:Int)<(↑x_5.length:Int)->Q x_5 Err.nil)))/\(¬(((b8 (etT b)<=q7 (etR r) (l6 (etR r) (b8 (etT (etT s)))+x_4 * r.Interval) ∨ x_1<q7 (etR r) (l6 (etR r) (b8 (etT (etT s)))+x_4 * r.Interval)) ∨ (0:Int)<r.Count/\r.Count<=x) ∨ (315537897600:Int)<=q7 (etR r) (l6 (etR r) (b8 (etT (etT s)))+x_4 * r.Interval))->((40000:Int)<=x_4->(Err.w (87:Nat) [] (Err.no (5:Int))≠Err.nil->((Err.w (87:Nat) [] (Err.no (5:Int))).is (5:Int) ∨ Err.w (87:Nat) [] (Err.no (5:Int))=Err.nil)/\Q [] (K1 (Err.w (87:Nat) [] (Err.no (5:Int)))))/\(¬Err.w (87:Nat) [] (Err.no (5:Int))≠Err.nil->((1000:Int)<(↑x_5.length:Int)->Q [] (Err.no (16:Int)))/\(¬(1000:Int)<(↑x_5.length:Int)->Q x_5 Err.nil)))/\(¬(40000:Int)<=x_4->B9 (etR r)=true/\C4 (etT s) (etR r)=true/\(0:Int)<=l6 (etR r) (b8 (etT (etT s)))+x_4 * r.Interval/\l6 (etR r) (b8 (etT (etT s)))+x_4 * r.Interval<=999999999999/\∃ (I_1:Int->Int->List Tm->Prop),∃ (m_1:Int->Int->List Tm->Nat),I_1 x (0:Int) x_5/\∀ (x_6 x_7:Int) (x_8:List Tm),I_1 x_6 x_7 x_8->(x_7<(↑(M5 s r x_4).length:Int)->(0:Int)<=x_7/\x_7<(↑(M5 s r x_4).length:Int)/\(b9 (ix (M5 s r x_4) x_7)->(ix (M5 s r x_4) x_7<=b8 (etT (etT s))->b9 (x_7+1)/\I_1 x_6 (x_7+1) x_8/\m_1 x_6 (x_7+1) x_8<m_1 x_6 x_7 x_8)/\(¬ix (M5 s r x_4) x_7<=b8 (etT (etT s))->((b8 (etT b)<=ix (M5 s r x_4) x_7 ∨ x_1<ix (M5 s r x_4) x_7) ∨ (0:Int)<r.Count/\r.Count<=x_6->b9 (x_4+1)/\I x_6 (x_4+1) x_8/\m x_6 (x_4+1) x_8<m x x_4 x_5)/\(¬((b8 (etT b)<=ix (M5 s r x_4) x_7 ∨ x_1<ix (M5 s r x_4) x_7) ∨ (0:Int)<r.Count/\r.Count<=x_6)->b9 (x_6+1)/\(b8 (etT a)<=ix (M5 s r x_4) x_7->ix (M5 s r x_4) x_7<=9000000000000000000/\(x_8.length+[etT (atS (ix (M5 s r x_4) x_7) (etT s))].length) * (some (56:Nat)).getD (0:Nat)<=140737488355328/\(¬(↑(x_8++[etT (atS (ix (M5 s r x_4) x_7) (etT s))]).length:Int)<=1000->(Err.nil≠Err.nil->(Err.nil.is (5:Int) ∨ Err.nil=Err.nil)/\Q [] (K1 Err.nil))/\(¬Err.nil≠Err.nil->((1000:Int)<(↑(x_8++[etT (atS (ix (M5 s r x_4) x_7) (etT s))]).length:Int)->Q [] (Err.no (16:Int)))/\(¬(1000:Int)<(↑(x_8++[etT (atS (ix (M5 s r x_4) x_7) (etT s))]).length:Int)->Q (x_8++[etT (atS (ix (M5 s r x_4) x_7) (etT s))]) Err.nil)))/\(¬¬(↑(x_8++[etT (atS (ix (M5 s r x_4) x_7) (etT s))]).length:Int)<=1000->b9 (x_7+1)/\I_1 (x_6+1) (x_7+1) (x_8++[etT (atS (ix (M5 s r x_4) x_7) (etT s))])/\m_1 (x_6+1) (x_7+1) (x_8++[etT (atS (ix (M5 s r x_4) x_7) (etT s))])<m_1 x_6 x_7 x_8))/\(¬b8 (etT a)<=ix (M5 s r x_4) x_7->(¬(↑x_8.length:Int)<=1000->(Err.nil≠Err.nil->(Err.nil.is (5:Int) ∨ Err.nil=Err.nil)/\Q [] (K1 Err.nil))/\(¬Err.nil≠Err.nil->((1000:Int)<(↑x_8.length:Int)->Q [] (Err.no (16:Int)))/\(¬(1000:Int)<(↑x_8.length:Int)->Q x_8 Err.nil)))/\(¬¬(↑x_8.length:Int)<=1000->b9 (x_7+1)/\I_1 (x_6+1) (x_7+1) x_8/\m_1 (x_6+1) (x_7+1) x_8<m_1 x_6 x_7 x_8))))))/\(¬x_7<(↑(M5 s r x_4).length:Int)->b9 (x_4+1)/\I x_6 (x_4+1) x_8/\m x_6 (x_4+1) x_8<m x x_4 x_5))))))
theorem d8e {s:Tm} {r:Rl} {a:Tm} {b:Tm} {Q:List Tm->Err->Prop}:@Eq Prop (Vex s r a b Q) (i6 (E:=a2v) (j7 a2v H0 c6m 4) (c6m 13) Tryz.f13 [.agg [.int .i64 s.Day.Year,.int .i64 s.Day.Month,.int .i64 s.Day.Date,.int .i64 s.Hour,.int .i64 s.Min,.int .i64 s.Sec,blB s.Bare,blB s.UTC],.agg [.int .i64 r.Freq,.int .i64 r.Interval,.int .i64 r.Count,.sl (N:=U) 25 r.Until,.sl (N:=U) 3 r.Month,.sl (N:=U) 3 r.WeekNo,.sl (N:=U) 3 r.YearDay,.sl (N:=U) 3 r.MonthDay,.sl (N:=U) 60 r.Days,.sl (N:=U) 3 r.Hour,.sl (N:=U) 3 r.Minute,.sl (N:=U) 3 r.Second,.sl (N:=U) 3 r.SetPos,.int .i64 r.Wkst],.agg [.int .i64 a.Day.Year,.int .i64 a.Day.Month,.int .i64 a.Day.Date,.int .i64 a.Hour,.int .i64 a.Min,.int .i64 a.Sec,blB a.Bare,blB a.UTC],.agg [.int .i64 b.Day.Year,.int .i64 b.Day.Month,.int .i64 b.Day.Date,.int .i64 b.Hour,.int .i64 b.Min,.int .i64 b.Sec,blB b.Bare,blB b.UTC]] [] [] 0 (m9 a2v [.acc 25,.err] Q)):=by kernel_rfl
theorem d9i {s:Tm} {r:Rl} {a:Tm} {b:Tm} {Q:List Tm->Err->Prop} (h:Vex s r a b Q):i6 (E:=a2v) (j7 a2v H0 c6m 4) (c6m 13) Tryz.f13 [.agg [.int .i64 s.Day.Year,.int .i64 s.Day.Month,.int .i64 s.Day.Date,.int .i64 s.Hour,.int .i64 s.Min,.int .i64 s.Sec,blB s.Bare,blB s.UTC],.agg [.int .i64 r.Freq,.int .i64 r.Interval,.int .i64 r.Count,.sl (N:=U) 25 r.Until,.sl (N:=U) 3 r.Month,.sl (N:=U) 3 r.WeekNo,.sl (N:=U) 3 r.YearDay,.sl (N:=U) 3 r.MonthDay,.sl (N:=U) 60 r.Days,.sl (N:=U) 3 r.Hour,.sl (N:=U) 3 r.Minute,.sl (N:=U) 3 r.Second,.sl (N:=U) 3 r.SetPos,.int .i64 r.Wkst],.agg [.int .i64 a.Day.Year,.int .i64 a.Day.Month,.int .i64 a.Day.Date,.int .i64 a.Hour,.int .i64 a.Min,.int .i64 a.Sec,blB a.Bare,blB a.UTC],.agg [.int .i64 b.Day.Year,.int .i64 b.Day.Month,.int .i64 b.Day.Date,.int .i64 b.Hour,.int .i64 b.Min,.int .i64 b.Sec,blB b.Bare,blB b.UTC]] [] [] 0 (m9 a2v [.acc 25,.err] Q):=by rw [<- d8e]; exact h
set_option maxHeartbeats 2000000 in
theorem pex (s:Tm) (r:Rl) (a:Tm) (b:Tm) (hfw:B9 r=true):Vex s r a b (fun y0 y1=>y0=(C7 s r a b).1/\y1=(C7 s r a b).2):=by
 unfold Vex b99 M5
 simp only [a4d,c5m,c0s]
 refine ⟨hfw,fun h=>?_,fun h=>?_⟩
 . unfold C7
   rw [if_pos (show c4r s r a b from h)]; exact ⟨rfl,rfl⟩
 have hnb:¬ c4r s r a b:=h
 have hf:C4 s r=true:=Classical.not_not.1 fun e=>h (.inl (.inl e))
 have ha:l9 a=true:=Classical.not_not.1 fun e=>h (.inl (.inr e))
 have hb:l9 b=true:=Classical.not_not.1 fun e=>h (.inr e)
 have hF:=F1.1 hf
 obtain ⟨px,hpx⟩:∃ p,C7 s r a b=p:=⟨_,rfl⟩
 rw [hpx]
 unfold C7 at hpx
 rw [if_neg hnb] at hpx
 obtain ⟨fb,hfb⟩:∃ fb,T8 s r (p6 s.Day) (b8 b)=fb:=⟨_,rfl⟩
 rw [hfb] at hpx ⊢
 refine ⟨hfw,hf,fun he=>?_,fun he=>?_⟩
 . cases fb with
   | false=>exact absurd rfl he
   | true =>
    rw [if_pos rfl] at hpx
    rw [<- hpx]
    exact ⟨.inl a8f,rfl,a7m⟩
 cases fb with
 | true=>exact absurd (fun e=>by cases e) he
 | false =>
 rw [if_neg Bool.false_ne_true] at hpx
 obtain ⟨s0,s1⟩:=s8 hF.rt
 obtain ⟨g0,g1⟩:=s8 ha
 obtain ⟨d0,d1⟩:=s8 hb
 obtain ⟨_,_,v0,v1,n0,n1,w0,w1⟩:=(n9.1 hF.rr).head
 obtain ⟨u1,u2⟩:=(n9.1 hF.rr).til
 have hix:∀ x,0<=x->x<315537897600->0<=l6 r x/\l6 r x<=315537897600:=fun x x0 x1=>a3a x0 x1 w0 w1
 obtain ⟨z0,z1,z2⟩:=d0c (s:=s) v0 hix g0 ⟨s0,s1⟩
 obtain ⟨a0,a1⟩:=hix _ s0 s1
 obtain ⟨b0,b1⟩:=hix (min (b8 a) 315537897599) (by omega) (by omega)
 have lt:∀ n i:Int,i<n->(n-(i+1)).toNat<(n-i).toNat:=fun n i h=>by omega
 generalize hg:c0i s r a b=g at hpx
 unfold c0i at hg
 have R0:a1k (a9r s a) g [] (E4 s r (p6 s.Day) (b8 a) (b8 b)).1 (E4 s r (p6 s.Day) (b8 a) (b8 b)).2:=⟨hg⟩
 clear hg
 unfold E4 at R0
 have e1:∀ x y:Int,(bif false then max x y else min x y)=min x y:=fun _ _=>rfl
 have e2:∀ x y:Int,(bif true then max x y else min x y)=max x y:=fun _ _=>rfl
 simp only [e1,e2]
 have hk0:∀ p:Prop,(r.Count=0/\b8 s<b8 a->k0S s r (b8 a)=max 0 ((l6 r (min (b8 a) 315537897599)-l6 r (b8 s)).tdiv r.Interval-1))/\(¬ (r.Count=0/\b8 s<b8 a)->k0S s r (b8 a)=0):=fun _=>⟨fun hh=>if_pos hh,fun hh=>if_neg hh⟩
 have hk0:=hk0 True
 generalize k0S s r (b8 a)=kz at *
 obtain ⟨t0,t1⟩:=c24 (d:=l6 r (min (b8 a) 315537897599)-l6 r (b8 s)) (n:=r.Interval)
 generalize (l6 r (min (b8 a) 315537897599)-l6 r (b8 s)).tdiv r.Interval=td at *
 generalize l6 r (min (b8 a) 315537897599)=ia at *
 generalize hfi:b8 s=fi at *
 generalize l6 r fi=i0 at *
 generalize b8 b=to at *
 have yes:∀ (y:List Int) (t:Int),((frA s a (y++[t])).length:Int)<=1000->a9r s a y t=true:=fun y t hh=>decide_eq_true hh
 have no:∀ (y:List Int) (t:Int),¬ ((frA s a (y++[t])).length:Int)<=1000->¬ a9r s a y t=true:=fun y t hh e=>hh (of_decide_eq_true e)
 refine ⟨fun out=>∃ y,out=frA s a y/\(out.length:Int)<=1/\a2y (a9r s a) g s r (p6 s.Day) fi to (T7 r) i0 kz 1 y,⟨fun hfst=>⟨fun hs=>⟨by omega,by show 1 * 56<=140737488355328; decide,fun hst=>absurd (show ((1:Nat):Int)<=1000 by decide) hst,fun _=>?_⟩,fun hs=>⟨fun hst=>absurd (by decide) hst,fun _=>?_⟩⟩,fun hnf=>?_⟩,fun out hn=>⟨fun til x=>0<=x/\x<=(r.Until.length:Int)/\til=if 0<x then b8 (ix r.Until 0) else 315537897600,fun _ x=>((r.Until.length:Int)-x).toNat,⟨Int.le_refl 0,by omega,rfl⟩,fun til x hx=>⟨fun hlt=>⟨hx.1,hlt,fun _ _ _ _ _ _=>⟨⟨by omega,by omega⟩,⟨by omega,by omega,?_⟩,lt _ _ hlt⟩⟩,fun hge=>?_⟩⟩⟩
 . rw [if_pos hfst.1,List.cons_append,List.nil_append] at R0
   have e:=b77 (s:=s) (y:=[]) hs
   exact ⟨[fi],e.symm,(show ((1:Nat):Int)<=1 by decide),⟨R0.go (yes [] fi (by rw [e]; show ((1:Nat):Int)<=1000; decide))⟩⟩
 . rw [if_pos hfst.1,List.cons_append,List.nil_append] at R0
   have e:=c1k (s:=s) (y:=[]) hs
   exact ⟨[fi],e.symm,(show ((0:Nat):Int)<=1 by decide),⟨R0.go (yes [] fi (by rw [e]; show ((0:Nat):Int)<=1000; decide))⟩⟩
 . rw [if_neg (fun hh=>hnf ⟨hh,s0⟩),List.nil_append] at R0
   exact ⟨[],rfl,by decide,⟨R0⟩⟩
 . have e:x=0:=by omega
   subst e; rfl
 . have etil:til=T7 r:=by
     rw [hx.2.2]
     unfold T7
     by_cases hl:0<(r.Until.length:Int)
     . rw [if_pos hl,if_pos (by omega)]
     . rw [if_neg hl,if_neg (by omega)]
   rw [etil]
   generalize T7 r=til at *
   refine ⟨s0,by omega,w0,w1,fun k=>k=kz,⟨fun hh=>⟨⟨by omega,by omega,w0,w1⟩,⟨by omega,by omega⟩,⟨by omega,by omega,by omega⟩,⟨by omega,by omega⟩,(hk0.1 hh).symm⟩,fun hh=>(hk0.2 hh).symm⟩,fun k hk=>⟨fun c k out=>∃ y,out=frA s a y/\(out.length:Int)<=1000/\1<=c/\c<=1+k * 1000000000000/\0<=k/\0<=k * r.Interval/\k * r.Interval<=400000000000/\a2y (a9r s a) g s r (p6 s.Day) fi to til i0 k c y,fun _ k _=>(40001-k).toNat,?_,fun c k out hI=>?_⟩⟩
   . obtain ⟨y,h1,h2,h3⟩:=hn
     subst hk
     exact ⟨y,h1,by omega,by decide,by omega,z0,z1,by omega,h3⟩
   . obtain ⟨y,hy,ol,c0,c1,k0,k1,k2,ho⟩:=hI
     refine ⟨⟨by omega,by omega⟩,⟨by omega,by omega⟩,by omega,by omega,w0,w1,fun he=>?_,fun he=>⟨fun h4=>?_,fun h4=>⟨hfw,hf,by omega,by omega,fun c' j out'=>∃ y,out'=frA s a y/\(out'.length:Int)<=1000/\1<=c'/\c'<=1+k * 1000000000000+j/\0<=j/\j<=((u9 s r (p6 s.Day) (i0+k * r.Interval)).length:Int)/\a1z (a9r s a) g s r (p6 s.Day) fi to til i0 k c' ((u9 s r (p6 s.Day) (i0+k * r.Interval)).drop j.toNat) y,fun _ j _=>(((u9 s r (p6 s.Day) (i0+k * r.Interval)).length:Int)-j).toNat,⟨y,hy,ol,c0,by omega,Int.le_refl 0,by omega,by simpa using ho.enter he h4⟩,fun c' j out' hI'=>?_⟩⟩⟩
     . have q:=(a83 hpx (ho.fin he)).2 rfl
       refine ⟨fun hh=>absurd rfl hh,fun _=>⟨fun hl=>absurd hl (by omega),fun hl=>?_⟩⟩
       rw [q.2 (by rw [<- hy]; omega),hy]; exact ⟨rfl,rfl⟩
     . have q:=(a83 hpx (ho.many he h4)).1 rfl
       rw [q]
       exact ⟨fun _=>⟨.inl a8f,rfl,a7m⟩,fun hh=>absurd (fun e=>by cases e) hh⟩
     . have hcl:=a6k (day:=p6 s.Day) (i:=i0+k * r.Interval) hF (by omega)
       obtain ⟨q0,q1⟩:=d05 hF.rr (k:=k+1) (by omega) (by omega)
       obtain ⟨y,hy,ol,c0,c1,j0,j1,hi⟩:=hI'
       generalize u9 s r (p6 s.Day) (i0+k * r.Interval)=L at *
       refine ⟨fun hj=>⟨j0,hj,fun _=>?_⟩,fun hj=>⟨⟨by omega,by omega⟩,⟨y,hy,ol,c0,by omega,by omega,q0,by omega,?_⟩,by show (_:Int).toNat<(_:Int).toNat; omega⟩⟩
       . rw [H3 j0 hj] at hi
         refine ⟨fun hs=>⟨⟨by omega,by omega⟩,⟨y,hy,ol,c0,by omega,by omega,by omega,hi.skip hs⟩,lt _ _ hj⟩,fun hs=>⟨fun hb=>⟨⟨by omega,by omega⟩,⟨y,hy,ol,c0,by omega,by omega,q0,by omega,hi.leave hs hb⟩,by show (_:Int).toNat<(_:Int).toNat; omega⟩,fun hb=>?_⟩⟩
         have hbt:ix L j<to:=by
          rcases Int.lt_or_le (ix L j) to with hh | hh
          . exact hh
          . exact absurd (.inl (.inl hh)) hb
         refine ⟨⟨by omega,by omega⟩,fun hsa=>?_,fun hsa=>?_⟩
         . have e:=b77 (s:=s) (y:=y) hsa
           rw [<- hy] at e
           refine ⟨by omega,?_,fun hst=>?_,fun hgo=>⟨⟨by omega,by omega⟩,⟨y++[ix L j],e.symm,by omega,by omega,by omega,by omega,by omega,(hi.one hs hb).1 (yes y _ (by rw [e]; omega))⟩,lt _ _ hj⟩⟩
           . show (out'.length+1) * 56<=140737488355328
             omega
           . have q:=(a83 hpx ((hi.one hs hb).2 (no y _ (by rw [e]; exact hst)))).2 rfl
             rw [e] at q
             refine ⟨fun hh=>absurd rfl hh,fun _=>⟨fun hl=>?_,fun hl=>?_⟩⟩
             . rw [q.1 hl]; exact ⟨rfl,rfl⟩
             . rw [q.2 hl]; exact ⟨rfl,rfl⟩
         . have e:=c1k (s:=s) (y:=y) hsa
           rw [<- hy] at e
           exact ⟨fun hst=>absurd ol hst,fun hgo=>⟨⟨by omega,by omega⟩,⟨y++[ix L j],e.symm,ol,by omega,by omega,by omega,by omega,(hi.one hs hb).1 (yes y _ (by rw [e]; exact ol))⟩,lt _ _ hj⟩⟩
       . rw [List.drop_eq_nil_of_le (by omega)] at hi
         exact hi.nil
noncomputable def e4j (s:Tm) (r:Rl) (a:Tm) (b:Tm) (nx:Nat):CR U:=⟨[B9 r=true],[],.tup [.acc nx,.err ((C7 s r a b).2)],[.ac 25 ((C7 s r a b).1)]⟩
noncomputable def cex (a:List (SV U)) (nx:Nat):Option (CR U):=match a with | [.agg l_s,.agg l_r,.agg l_a,.agg l_b]=>(y25.bk (.agg l_s)).bind fun s=>(y30.bk (.agg l_r)).bind fun r=>(y25.bk (.agg l_a)).bind fun a=>(y25.bk (.agg l_b)).bind fun b=>some (e4j s r a b nx) | _=>none
theorem d3r (args:List (SV U)) (nx:Nat) (c:CR U) (h:cex args nx=some c) (hp:args.all w7=true) (ho:l7 c.ob):D6 a2v.P a2v.N a2v.T a2v.G 13 args nx c:=by
 unfold cex at h
 split at h
 . rename_i l_s l_r l_a l_b
   obtain ⟨s,hb_s,h⟩:=Option.bind_eq_some_iff.1 h
   obtain ⟨r,hb_r,h⟩:=Option.bind_eq_some_iff.1 h
   obtain ⟨a,hb_a,h⟩:=Option.bind_eq_some_iff.1 h
   obtain ⟨b,hb_b,h⟩:=Option.bind_eq_some_iff.1 h
   cases h
   exact D6.weak (b:=[.agg [.int .i64 s.Day.Year,.int .i64 s.Day.Month,.int .i64 s.Day.Date,.int .i64 s.Hour,.int .i64 s.Min,.int .i64 s.Sec,blB s.Bare,blB s.UTC],.agg [.int .i64 r.Freq,.int .i64 r.Interval,.int .i64 r.Count,.sl (N:=U) 25 r.Until,.sl (N:=U) 3 r.Month,.sl (N:=U) 3 r.WeekNo,.sl (N:=U) 3 r.YearDay,.sl (N:=U) 3 r.MonthDay,.sl (N:=U) 60 r.Days,.sl (N:=U) 3 r.Hour,.sl (N:=U) 3 r.Minute,.sl (N:=U) 3 r.Second,.sl (N:=U) 3 r.SetPos,.int .i64 r.Wkst],.agg [.int .i64 a.Day.Year,.int .i64 a.Day.Month,.int .i64 a.Day.Date,.int .i64 a.Hour,.int .i64 a.Min,.int .i64 a.Sec,blB a.Bare,blB a.UTC],.agg [.int .i64 b.Day.Year,.int .i64 b.Day.Month,.int .i64 b.Day.Date,.int .i64 b.Hour,.int .i64 b.Min,.int .i64 b.Sec,blB b.Bare,blB b.UTC]]) (e48 a8c (j8 a8c p8 c6m 4) Tryz.func13 (k1:=.acc 25) (k2:=.err) rfl rfl (d9i (pex s r a b ho.1))) fun ρ Z w v hr=>w5 [.agg l_s,.agg l_r,.agg l_a,.agg l_b] [.agg [.int .i64 s.Day.Year,.int .i64 s.Day.Month,.int .i64 s.Day.Date,.int .i64 s.Hour,.int .i64 s.Min,.int .i64 s.Sec,blB s.Bare,blB s.UTC],.agg [.int .i64 r.Freq,.int .i64 r.Interval,.int .i64 r.Count,.sl (N:=U) 25 r.Until,.sl (N:=U) 3 r.Month,.sl (N:=U) 3 r.WeekNo,.sl (N:=U) 3 r.YearDay,.sl (N:=U) 3 r.MonthDay,.sl (N:=U) 60 r.Days,.sl (N:=U) 3 r.Hour,.sl (N:=U) 3 r.Minute,.sl (N:=U) 3 r.Second,.sl (N:=U) 3 r.SetPos,.int .i64 r.Wkst],.agg [.int .i64 a.Day.Year,.int .i64 a.Day.Month,.int .i64 a.Day.Date,.int .i64 a.Hour,.int .i64 a.Min,.int .i64 a.Sec,blB a.Bare,blB a.UTC],.agg [.int .i64 b.Day.Year,.int .i64 b.Day.Month,.int .i64 b.Day.Date,.int .i64 b.Hour,.int .i64 b.Min,.int .i64 b.Sec,blB b.Bare,blB b.UTC]] _ ⟨fun _ h=>v6 hb_s h,fun _ h=>A5 hb_r h,fun _ h=>v6 hb_a h,fun _ h=>v6 hb_b h,trivial⟩ hr
 . cases h
noncomputable def Nex:Env:=a2v.addC 13 cex
theorem b49:k8 Nex:=a8c.addC Tryz.call13 d3r
end Go.Proofs.YtdjfeninmbpflaaGreat
end
section
namespace Go.Proofs.YtdjfeninmbpflaaGreat
open Go Go.Wk Go.Wl Go.Rx Go.Re 
attribute [local irreducible] i6
def c45:Nat->Ann:=fun | 16=>⟨15,fun | 4=>some ⟨[0],[.slot 3 (.int .i64)]⟩ | _=>none,fun _=>none⟩ | _=>⟨0,fun _=>none,fun _=>none⟩
def Vno (e:Err) (Q:Int->Prop):Prop :=
(e=Err.nil->Q (0:Int))/\(¬e=Err.nil->∃ (I:Int->Prop),∃ (m:Int->Nat),I (1:Int)/\∀ (x:Int),I x->(x<=16->(e.is x->Q x)/\(¬e.is x->b9 (x+1)/\I (x+1)/\m (x+1)<m x))/\(¬x<=16->Q (-1:Int)))
theorem d7h {e:Err} {Q:Int->Prop}:@Eq Prop (Vno e Q) (i6 (E:=Nex) (j7 Nex H0 c45 2) (c45 16) Tryz.f16 [.err e] [] [] 0 (m9 Nex [.int .i64] Q)):=by kernel_rfl
theorem d7e {e:Err} {Q:Int->Prop} (h:Vno e Q):i6 (E:=Nex) (j7 Nex H0 c45 2) (c45 16) Tryz.f16 [.err e] [] [] 0 (m9 Nex [.int .i64] Q):=by rw [<- d7h]; exact h
theorem b0s {e:Err} {n:Int} (h:¬ e=.nil) (hn:e.num=some n):e.nr=if 1<=n/\n<=16 then n else -1:=by
 cases e with
 | nil=>exact absurd rfl h
 | _=>unfold Err.nr; simp only [hn]
theorem c2z {e:Err} (h:¬ e=.nil) (hn:e.num=none):e.nr=-1:=by
 cases e with
 | nil=>exact absurd rfl h
 | _=>unfold Err.nr; simp only [hn]
theorem pno (e:Err)  : Vno e (fun y0=>y0=e.nr):=by
 unfold Vno
 refine ⟨fun h=>by subst h; rfl,fun h=>⟨fun x=>1<=x/\x<=17/\∀ j:Int,1<=j->j<x->¬ e.is j,fun x=>(17-x).toNat,⟨by omega,by omega,fun j _ _=>by omega⟩,?_⟩⟩
 rintro x ⟨h0,h1,h2⟩
 refine ⟨fun hx=>⟨fun hi=>?_,fun hi=>⟨⟨by omega,by omega⟩,⟨by omega,by omega,fun j j0 j1=>?_⟩,by dsimp only; omega⟩⟩,fun hx=>?_⟩
 . have hi:e.num=some x:=hi
   rw [b0s h hi,if_pos ⟨h0,hx⟩]
 . by_cases e1:j=x
   . subst e1; exact hi
   . exact h2 j j0 (by omega)
 . cases hn:e.num with
   | none=>rw [c2z h hn]
   | some n=>rw [b0s h hn,if_neg (fun hh=>h2 n hh.1 (by omega) hn)]
def cno (a:List (SV U)):Option (Q1 U):=match a with | [.err e]=>some ⟨[],[],.int .i64 e.nr⟩ | _=>none
theorem d1k (args:List (SV U)) (q:Q1 U) (h:cno args=some q) (ho:l7 q.ob):l4 Nex 16 args ⟨q.ob,q.hy,q.v,[]⟩:=by
 unfold cno at h
 split at h
 . rename_i e
   cases h
   exact q8 b49 (j8 b49 p8 c45 2) Tryz.func16 (k:=.int .i64) (x:=e.nr) trivial (d7e (pno e )) 0
 . cases h
noncomputable def Nno:Env:=Nex.addL 16 cno
theorem b51:k8 Nno:=b49.addL Tryz.call16 d1k
end Go.Proofs.YtdjfeninmbpflaaGreat
end
section
namespace Go.Re
open Go Go.Wk Go.Wl Go.Rx
def dyS (y m d:Int):Tm:=⟨⟨y,m,d⟩,0,0,0,true,false⟩
instance (r:Rl):Decidable (b21 r):=by unfold b21; infer_instance
instance (r:Rl):Decidable (b1i r):=by unfold b1i; infer_instance
instance (r:Rl):Decidable (b7q r):=by unfold b7q; infer_instance
instance (m:Int) (d:Nt):Decidable (c0u m d):=by unfold c0u; infer_instance
instance (a b:Nt):Decidable (Z4 a b):=by unfold Z4; infer_instance
def a6e:Rl:=Rl.mk 1 1 0 [] [] [] [] [] [Nt.mk (-1) 4] [] [] [] [] 0
def T6 (w:Int):Rl:=Rl.mk 2 2 0 [] [] [] [] [] [Nt.mk 0 1,Nt.mk 0 6] [] [] [] [] w
theorem J0 {lo hi:Int} {b:Bool}:I8 [] lo hi b:=⟨fun i h0 h1=>absurd h1 (by simp; omega),fun i h0 h1=>absurd h1 (by simp; omega),by decide⟩
theorem a2a {f i c:Int} {u:List Tm} {d:List Nt} {w:Int}:a7v (Rl.mk f i c u [] [] [] [] d [] [] [] [] w):=⟨J0,J0,J0,J0,J0,J0,J0,J0⟩
theorem c8a:s4 (dyS 1997 1 31) a6e:=by
 refine ⟨by decide,n9.2 ⟨by decide,⟨by decide,fun h=>absurd h (by decide)⟩,a2a,by decide,⟨fun i h0 h1=>?_,fun i h0 h1=>?_⟩,by decide,by decide⟩,fun h=>absurd h (by decide),fun _=>by decide⟩
 . have h1:i<1:=h1
   have:i=0:=by omega
   subst this; decide
 . have h1:i<1:=h1
   omega
theorem b88 {w:Int} (hw:w=0 ∨ w=6):s4 (dyS 1997 8 5) (T6 w):=by
 have h2:A2 (T6 w)=true:=by
  refine n9.2 ⟨?_,⟨by show (0:Int)<=1; decide,fun h=>absurd h (by show ¬ (0:Int)=1; decide)⟩,a2a,by show (2:Int)<=24; decide,⟨fun i h0 h1=>?_,fun i h0 h1=>?_⟩,?_,?_⟩
  . rcases hw with rfl | rfl <;> decide
  . have h1:i<2:=h1
    have:i=0 ∨ i=1:=by omega
    rcases this with rfl | rfl <;> (rcases hw with rfl | rfl <;> decide)
  . have h1:i<2:=h1
    have:i=1:=by omega
    subst this
    rcases hw with rfl | rfl <;> decide
  . rcases hw with rfl | rfl <;> decide
  . rcases hw with rfl | rfl <;> decide
 exact ⟨by decide,h2,fun h=>absurd h (by show ¬ (0:Int)<0; decide),fun _=>⟨by show (2:Int)<=3; decide,rfl,rfl,rfl⟩⟩
theorem a8y {s a b:Tm} {r:Rl} {l:List Tm} (hF:s4 s r) (ha:l9 a=true) (hb:l9 b=true) (hf:T8 s r (p6 s.Day) (b8 b)=false) (hg:c1f s a (c0i s r a b)=(l,.nil)):C7 s r a b=(l,.nil):=by
 unfold C7
 rw [if_neg (fun h=>h.elim (fun h=>h.elim (fun h=>h (F1.2 hF)) fun h=>h ha) fun h=>h hb),if_neg (by rw [hf]; exact Bool.false_ne_true),hg]
theorem d9n:C7 (dyS 1997 1 31) a6e (dyS 1997 1 1) (dyS 1997 4 1)=([dyS 1997 1 31,dyS 1997 2 28,dyS 1997 3 28],.nil) :=
 a8y c8a (by decide) (by decide) (by kernel_rfl) (by kernel_rfl)
theorem d5x:C7 (dyS 1997 8 5) (T6 0) (dyS 1997 8 1) (dyS 1997 8 25)=([dyS 1997 8 5,dyS 1997 8 10,dyS 1997 8 19,dyS 1997 8 24],.nil) :=
 a8y (b88 (.inl rfl)) (by decide) (by decide) (by kernel_rfl) (by kernel_rfl)
theorem c0t:C7 (dyS 1997 8 5) (T6 6) (dyS 1997 8 1) (dyS 1997 9 1)=([dyS 1997 8 5,dyS 1997 8 17,dyS 1997 8 19,dyS 1997 8 31],.nil) :=
 a8y (b88 (.inr rfl)) (by decide) (by decide) (by kernel_rfl) (by kernel_rfl)
end Go.Re
end
section
namespace Go.Proofs.YtdjfeninmbpflaaGreat
open Go Go.Wk Go.Wl Go.Rx Go.Re 
attribute [local irreducible] i6
def c4j:Nat->Ann:=fun | 28=>⟨12,fun _=>none,fun _=>none⟩ | _=>⟨0,fun _=>none,fun _=>none⟩
def Vld (y:Int) (m:Int) (d:Int) (Q:Tm->Prop):Prop :=
Q (Tm.mk (Dy.mk y m d) (0:Int) (0:Int) (0:Int) true false)
theorem d1x {y:Int} {m:Int} {d:Int} {Q:Tm->Prop}:@Eq Prop (Vld y m d Q) (i6 (E:=Nno) (j7 Nno H0 c4j 2) (c4j 28) Tryz.f28 [.int .i64 y,.int .i64 m,.int .i64 d] [] [] 0 (m9 Nno [.val 25] Q)):=by kernel_rfl
theorem d0z {y:Int} {m:Int} {d:Int} {Q:Tm->Prop} (h:Vld y m d Q):i6 (E:=Nno) (j7 Nno H0 c4j 2) (c4j 28) Tryz.f28 [.int .i64 y,.int .i64 m,.int .i64 d] [] [] 0 (m9 Nno [.val 25] Q):=by rw [<- d1x]; exact h
theorem pld (y:Int) (m:Int) (d:Int)  : Vld y m d (fun y0=>y0=dyS y m d):=by
 unfold Vld dyS
 rfl
def cld (a:List (SV U)):Option (Q1 U):=match a with | [.int .i64 y,.int .i64 m,.int .i64 d]=>some ⟨[],[],.agg [.int .i64 (dyS y m d).Day.Year,.int .i64 (dyS y m d).Day.Month,.int .i64 (dyS y m d).Day.Date,.int .i64 (dyS y m d).Hour,.int .i64 (dyS y m d).Min,.int .i64 (dyS y m d).Sec,blB (dyS y m d).Bare,blB (dyS y m d).UTC]⟩ | _=>none
theorem d5a (args:List (SV U)) (q:Q1 U) (h:cld args=some q) (ho:l7 q.ob):l4 Nno 28 args ⟨q.ob,q.hy,q.v,[]⟩:=by
 unfold cld at h
 split at h
 . rename_i y m d
   cases h
   exact q8 b51 (j8 b51 p8 c4j 2) Tryz.func28 (k:=.val 25) (x:=dyS y m d) ⟨_,_,rfl,rfl,rfl⟩ (d0z (pld y m d )) 0
 . cases h
noncomputable def Nld:Env:=Nno.addL 28 cld
theorem b5i:k8 Nld:=b51.addL Tryz.call28 d5a
end Go.Proofs.YtdjfeninmbpflaaGreat
end
section
namespace Go.Proofs.YtdjfeninmbpflaaGreat
open Go Go.Wk Go.Wl Go.Rx Go.Re 
attribute [local irreducible] i6
def c6h:Nat->Ann:=fun | 12=>⟨74,fun _=>none,fun _=>none⟩ | _=>⟨0,fun _=>none,fun _=>none⟩
def Val  (Q:Bool->Prop):Prop :=
B9 (a6e)=true/\B9 (T6 (0:Int))=true/\B9 (T6 (6:Int))=true/\b9 ((C7 (etT (dyS (1997:Int) (1:Int) (31:Int))) (a6e) (etT (dyS (1997:Int) (1:Int) (1:Int))) (etT (dyS (1997:Int) (4:Int) (1:Int)))).snd.nr+(C7 (etT (dyS (1997:Int) (8:Int) (5:Int))) (T6 (0:Int)) (etT (dyS (1997:Int) (8:Int) (1:Int))) (etT (dyS (1997:Int) (8:Int) (25:Int)))).snd.nr)/\b9 ((C7 (etT (dyS (1997:Int) (1:Int) (31:Int))) (a6e) (etT (dyS (1997:Int) (1:Int) (1:Int))) (etT (dyS (1997:Int) (4:Int) (1:Int)))).snd.nr+(C7 (etT (dyS (1997:Int) (8:Int) (5:Int))) (T6 (0:Int)) (etT (dyS (1997:Int) (8:Int) (1:Int))) (etT (dyS (1997:Int) (8:Int) (25:Int)))).snd.nr+(C7 (etT (dyS (1997:Int) (8:Int) (5:Int))) (T6 (6:Int)) (etT (dyS (1997:Int) (8:Int) (1:Int))) (etT (dyS (1997:Int) (9:Int) (1:Int)))).snd.nr)/\((C7 (etT (dyS (1997:Int) (1:Int) (31:Int))) (a6e) (etT (dyS (1997:Int) (1:Int) (1:Int))) (etT (dyS (1997:Int) (4:Int) (1:Int)))).snd.nr+(C7 (etT (dyS (1997:Int) (8:Int) (5:Int))) (T6 (0:Int)) (etT (dyS (1997:Int) (8:Int) (1:Int))) (etT (dyS (1997:Int) (8:Int) (25:Int)))).snd.nr+(C7 (etT (dyS (1997:Int) (8:Int) (5:Int))) (T6 (6:Int)) (etT (dyS (1997:Int) (8:Int) (1:Int))) (etT (dyS (1997:Int) (9:Int) (1:Int)))).snd.nr=(0:Int)->(C7 (etT (dyS (1997:Int) (1:Int) (31:Int))) (a6e) (etT (dyS (1997:Int) (1:Int) (1:Int))) (etT (dyS (1997:Int) (4:Int) (1:Int)))).fst.length<=(10000000:Nat)/\(W3 (C7 (etT (dyS (1997:Int) (1:Int) (31:Int))) (a6e) (etT (dyS (1997:Int) (1:Int) (1:Int))) (etT (dyS (1997:Int) (4:Int) (1:Int)))).fst [etT (dyS (1997:Int) (1:Int) (31:Int)),etT (dyS (1997:Int) (2:Int) (28:Int)),etT (dyS (1997:Int) (3:Int) (28:Int))]=true->(C7 (etT (dyS (1997:Int) (8:Int) (5:Int))) (T6 (0:Int)) (etT (dyS (1997:Int) (8:Int) (1:Int))) (etT (dyS (1997:Int) (8:Int) (25:Int)))).fst.length<=(10000000:Nat)/\(W3 (C7 (etT (dyS (1997:Int) (8:Int) (5:Int))) (T6 (0:Int)) (etT (dyS (1997:Int) (8:Int) (1:Int))) (etT (dyS (1997:Int) (8:Int) (25:Int)))).fst [etT (dyS (1997:Int) (8:Int) (5:Int)),etT (dyS (1997:Int) (8:Int) (10:Int)),etT (dyS (1997:Int) (8:Int) (19:Int)),etT (dyS (1997:Int) (8:Int) (24:Int))]=true->(C7 (etT (dyS (1997:Int) (8:Int) (5:Int))) (T6 (6:Int)) (etT (dyS (1997:Int) (8:Int) (1:Int))) (etT (dyS (1997:Int) (9:Int) (1:Int)))).fst.length<=(10000000:Nat)/\Q (decide (W3 (C7 (etT (dyS (1997:Int) (8:Int) (5:Int))) (T6 (6:Int)) (etT (dyS (1997:Int) (8:Int) (1:Int))) (etT (dyS (1997:Int) (9:Int) (1:Int)))).fst [etT (dyS (1997:Int) (8:Int) (5:Int)),etT (dyS (1997:Int) (8:Int) (17:Int)),etT (dyS (1997:Int) (8:Int) (19:Int)),etT (dyS (1997:Int) (8:Int) (31:Int))]=true)))/\(¬W3 (C7 (etT (dyS (1997:Int) (8:Int) (5:Int))) (T6 (0:Int)) (etT (dyS (1997:Int) (8:Int) (1:Int))) (etT (dyS (1997:Int) (8:Int) (25:Int)))).fst [etT (dyS (1997:Int) (8:Int) (5:Int)),etT (dyS (1997:Int) (8:Int) (10:Int)),etT (dyS (1997:Int) (8:Int) (19:Int)),etT (dyS (1997:Int) (8:Int) (24:Int))]=true->Q false))/\(¬W3 (C7 (etT (dyS (1997:Int) (1:Int) (31:Int))) (a6e) (etT (dyS (1997:Int) (1:Int) (1:Int))) (etT (dyS (1997:Int) (4:Int) (1:Int)))).fst [etT (dyS (1997:Int) (1:Int) (31:Int)),etT (dyS (1997:Int) (2:Int) (28:Int)),etT (dyS (1997:Int) (3:Int) (28:Int))]=true->Q false))/\(¬(C7 (etT (dyS (1997:Int) (1:Int) (31:Int))) (a6e) (etT (dyS (1997:Int) (1:Int) (1:Int))) (etT (dyS (1997:Int) (4:Int) (1:Int)))).snd.nr+(C7 (etT (dyS (1997:Int) (8:Int) (5:Int))) (T6 (0:Int)) (etT (dyS (1997:Int) (8:Int) (1:Int))) (etT (dyS (1997:Int) (8:Int) (25:Int)))).snd.nr+(C7 (etT (dyS (1997:Int) (8:Int) (5:Int))) (T6 (6:Int)) (etT (dyS (1997:Int) (8:Int) (1:Int))) (etT (dyS (1997:Int) (9:Int) (1:Int)))).snd.nr=(0:Int)->Q false)
theorem d1g  {Q:Bool->Prop}:@Eq Prop (Val  Q) (i6 (E:=Nld) (j7 Nld H0 c6h 3) (c6h 12) Tryz.f12 [] [] [] 0 (m9 Nld [.bool] Q)):=by kernel_rfl
theorem d3n  {Q:Bool->Prop} (h:Val  Q):i6 (E:=Nld) (j7 Nld H0 c6h 3) (c6h 12) Tryz.f12 [] [] [] 0 (m9 Nld [.bool] Q):=by rw [<- d1g]; exact h
theorem pal   : Val  (fun y0=>y0=true):=by
 unfold Val
 simp only [a4d]
 rw [d9n,d5x,c0t]
 have st:∀ l:List Tm,W3 l l=true:=fun l=>decide_eq_true rfl
 exact ⟨by decide,by decide,by decide,⟨by decide,by decide⟩,⟨by decide,by decide⟩,fun _=>⟨by decide,fun _=>⟨by decide,fun _=>⟨by decide,decide_eq_true (st _)⟩,fun h=>absurd (st _) h⟩,fun h=>absurd (st _) h⟩,fun h=>absurd rfl h⟩
def cal (a:List (SV U)):Option (Q1 U):=match a with | []=>some ⟨[],[],blB true⟩ | _=>none
theorem d5e (args:List (SV U)) (q:Q1 U) (h:cal args=some q) (ho:l7 q.ob):l4 Nld 12 args ⟨q.ob,q.hy,q.v,[]⟩:=by
 unfold cal at h
 split at h
 . cases h
   exact q8 b5i (j8 b5i p8 c6h 3) Tryz.func12 (k:=.bool) (x:=true) trivial (d3n (pal  )) 0
 . cases h
noncomputable def Nal:Env:=Nld.addL 12 cal
theorem b4i:k8 Nal:=b5i.addL Tryz.call12 d5e
end Go.Proofs.YtdjfeninmbpflaaGreat
end
section
namespace Go.Proofs.YtdjfeninmbpflaaGreat
open Go Go.Wk Go.Wl Go.Rx Go.Re 
attribute [local irreducible] i6
def c38:Nat->Ann:=fun | 11=>⟨31,fun _=>none,fun _=>none⟩ | _=>⟨0,fun _=>none,fun _=>none⟩
def Vln (s:Tm) (r:Rl) (t:Tm) (Q:Bool->Prop):Prop :=
(¬l9 (Tm.mk (Dy.mk s.Day.Year s.Day.Month s.Day.Date) s.Hour s.Min s.Sec (decide (s.Bare=true)) (decide (s.UTC=true)))=true ∨ ¬l9 (Tm.mk (Dy.mk t.Day.Year t.Day.Month t.Day.Date) t.Hour t.Min t.Sec (decide (t.Bare=true)) (decide (t.UTC=true)))=true->Q true)/\(¬(¬l9 (Tm.mk (Dy.mk s.Day.Year s.Day.Month s.Day.Date) s.Hour s.Min s.Sec (decide (s.Bare=true)) (decide (s.UTC=true)))=true ∨ ¬l9 (Tm.mk (Dy.mk t.Day.Year t.Day.Month t.Day.Date) t.Hour t.Min t.Sec (decide (t.Bare=true)) (decide (t.UTC=true)))=true)->((0:Int)<=bif true then max (0:Int) (bif false then max r.Freq (6:Int) else min r.Freq (6:Int)) else min (0:Int) (bif false then max r.Freq (6:Int) else min r.Freq (6:Int)))/\(bif true then max (0:Int) (bif false then max r.Freq (6:Int) else min r.Freq (6:Int)) else min (0:Int) (bif false then max r.Freq (6:Int) else min r.Freq (6:Int)))<(↑[(3000:Int),(3000:Int),(1500:Int),(700:Int),(60:Int),(4:Int),(1:Int)].length:Int)/\(b9 (ix [(3000:Int),(3000:Int),(1500:Int),(700:Int),(60:Int),(4:Int),(1:Int)] (bif true then max (0:Int) (bif false then max r.Freq (6:Int) else min r.Freq (6:Int)) else min (0:Int) (bif false then max r.Freq (6:Int) else min r.Freq (6:Int))))->b9 (b8 (Tm.mk (Dy.mk t.Day.Year t.Day.Month t.Day.Date) t.Hour t.Min t.Sec (decide (t.Bare=true)) (decide (t.UTC=true)))-b8 (Tm.mk (Dy.mk s.Day.Year s.Day.Month s.Day.Date) s.Hour s.Min s.Sec (decide (s.Bare=true)) (decide (s.UTC=true))))/\b9 ((86400:Int) * ix [(3000:Int),(3000:Int),(1500:Int),(700:Int),(60:Int),(4:Int),(1:Int)] (bif true then max (0:Int) (bif false then max r.Freq (6:Int) else min r.Freq (6:Int)) else min (0:Int) (bif false then max r.Freq (6:Int) else min r.Freq (6:Int))))/\Q (decide (b8 (Tm.mk (Dy.mk t.Day.Year t.Day.Month t.Day.Date) t.Hour t.Min t.Sec (decide (t.Bare=true)) (decide (t.UTC=true)))-b8 (Tm.mk (Dy.mk s.Day.Year s.Day.Month s.Day.Date) s.Hour s.Min s.Sec (decide (s.Bare=true)) (decide (s.UTC=true)))<=(86400:Int) * ix [(3000:Int),(3000:Int),(1500:Int),(700:Int),(60:Int),(4:Int),(1:Int)] (bif true then max (0:Int) (bif false then max r.Freq (6:Int) else min r.Freq (6:Int)) else min (0:Int) (bif false then max r.Freq (6:Int) else min r.Freq (6:Int)))))))
theorem d0x {s:Tm} {r:Rl} {t:Tm} {Q:Bool->Prop}:@Eq Prop (Vln s r t Q) (i6 (E:=Nal) (j7 Nal H0 c38 2) (c38 11) Tryz.f11 [.agg [.int .i64 s.Day.Year,.int .i64 s.Day.Month,.int .i64 s.Day.Date,.int .i64 s.Hour,.int .i64 s.Min,.int .i64 s.Sec,blB s.Bare,blB s.UTC],.agg [.int .i64 r.Freq,.int .i64 r.Interval,.int .i64 r.Count,.sl (N:=U) 25 r.Until,.sl (N:=U) 3 r.Month,.sl (N:=U) 3 r.WeekNo,.sl (N:=U) 3 r.YearDay,.sl (N:=U) 3 r.MonthDay,.sl (N:=U) 60 r.Days,.sl (N:=U) 3 r.Hour,.sl (N:=U) 3 r.Minute,.sl (N:=U) 3 r.Second,.sl (N:=U) 3 r.SetPos,.int .i64 r.Wkst],.agg [.int .i64 t.Day.Year,.int .i64 t.Day.Month,.int .i64 t.Day.Date,.int .i64 t.Hour,.int .i64 t.Min,.int .i64 t.Sec,blB t.Bare,blB t.UTC]] [] [] 0 (m9 Nal [.bool] Q)):=by kernel_rfl
theorem d1f {s:Tm} {r:Rl} {t:Tm} {Q:Bool->Prop} (h:Vln s r t Q):i6 (E:=Nal) (j7 Nal H0 c38 2) (c38 11) Tryz.f11 [.agg [.int .i64 s.Day.Year,.int .i64 s.Day.Month,.int .i64 s.Day.Date,.int .i64 s.Hour,.int .i64 s.Min,.int .i64 s.Sec,blB s.Bare,blB s.UTC],.agg [.int .i64 r.Freq,.int .i64 r.Interval,.int .i64 r.Count,.sl (N:=U) 25 r.Until,.sl (N:=U) 3 r.Month,.sl (N:=U) 3 r.WeekNo,.sl (N:=U) 3 r.YearDay,.sl (N:=U) 3 r.MonthDay,.sl (N:=U) 60 r.Days,.sl (N:=U) 3 r.Hour,.sl (N:=U) 3 r.Minute,.sl (N:=U) 3 r.Second,.sl (N:=U) 3 r.SetPos,.int .i64 r.Wkst],.agg [.int .i64 t.Day.Year,.int .i64 t.Day.Month,.int .i64 t.Day.Date,.int .i64 t.Hour,.int .i64 t.Min,.int .i64 t.Sec,blB t.Bare,blB t.UTC]] [] [] 0 (m9 Nal [.bool] Q):=by rw [<- d0x]; exact h
theorem pln (s:Tm) (r:Rl) (t:Tm)  : Vln s r t (fun y0=>y0=c1p s r t):=by
 unfold Vln c1p
 simp only [Bool.decide_eq_true]
 rw [show (Tm.mk (Dy.mk s.Day.Year s.Day.Month s.Day.Date) s.Hour s.Min s.Sec s.Bare s.UTC)=s from rfl,show (Tm.mk (Dy.mk t.Day.Year t.Day.Month t.Day.Date) t.Hour t.Min t.Sec t.Bare t.UTC)=t from rfl]
 have b0:∀ a b:Int,(bif false then max a b else min a b)=min a b:=fun _ _=>rfl
 have b1:∀ a b:Int,(bif true then max a b else min a b)=max a b:=fun _ _=>rfl
 simp only [b0,b1]
 rw [show ([3000,3000,1500,700,60,4,1]:List Int)=c3u from rfl]
 refine ⟨fun h=>by rw [if_pos h],fun h=>?_⟩
 have hs:l9 s=true:=Classical.not_not.1 fun hn=>h (.inl hn)
 have ht:l9 t=true:=Classical.not_not.1 fun hn=>h (.inr hn)
 have a:=s8 hs
 have b:=s8 ht
 have c:=d4q (i:=max 0 (min r.Freq 6)) (by omega) (by omega)
 have el:(c3u.length:Int)=7:=rfl
 refine ⟨by omega,by rw [el]; omega,fun _=>⟨⟨by omega,by omega⟩,⟨by omega,by omega⟩,by rw [if_neg h]⟩⟩
noncomputable def e4u (s:Tm) (r:Rl) (t:Tm):Q1 U:=⟨[],[],blB (c1p s r t)⟩
noncomputable def cln (a:List (SV U)):Option (Q1 U):=match a with | [.agg l_s,.agg l_r,.agg l_t]=>(y25.bk (.agg l_s)).bind fun s=>(y30.bk (.agg l_r)).bind fun r=>(y25.bk (.agg l_t)).bind fun t=>some (e4u s r t) | _=>none
theorem d5r (args:List (SV U)) (q:Q1 U) (h:cln args=some q) (ho:l7 q.ob):l4 Nal 11 args ⟨q.ob,q.hy,q.v,[]⟩:=by
 unfold cln at h
 split at h
 . rename_i l_s l_r l_t
   obtain ⟨s,hb_s,h⟩:=Option.bind_eq_some_iff.1 h
   obtain ⟨r,hb_r,h⟩:=Option.bind_eq_some_iff.1 h
   obtain ⟨t,hb_t,h⟩:=Option.bind_eq_some_iff.1 h
   cases h
   refine l4.conv (E:=Nal) (args':=[.agg [.int .i64 s.Day.Year,.int .i64 s.Day.Month,.int .i64 s.Day.Date,.int .i64 s.Hour,.int .i64 s.Min,.int .i64 s.Sec,blB s.Bare,blB s.UTC],.agg [.int .i64 r.Freq,.int .i64 r.Interval,.int .i64 r.Count,.sl 25 r.Until,.sl 3 r.Month,.sl 3 r.WeekNo,.sl 3 r.YearDay,.sl 3 r.MonthDay,.sl 60 r.Days,.sl 3 r.Hour,.sl 3 r.Minute,.sl 3 r.Second,.sl 3 r.SetPos,.int .i64 r.Wkst],.agg [.int .i64 t.Day.Year,.int .i64 t.Day.Month,.int .i64 t.Day.Date,.int .i64 t.Hour,.int .i64 t.Min,.int .i64 t.Sec,blB t.Bare,blB t.UTC]]) (q8 b4i (j8 b4i p8 c38 2) Tryz.func11 (k:=.bool) trivial (d1f (pln s r t )) 0) fun D w vs hr=>w5 [.agg l_s,.agg l_r,.agg l_t] [.agg [.int .i64 s.Day.Year,.int .i64 s.Day.Month,.int .i64 s.Day.Date,.int .i64 s.Hour,.int .i64 s.Min,.int .i64 s.Sec,blB s.Bare,blB s.UTC],.agg [.int .i64 r.Freq,.int .i64 r.Interval,.int .i64 r.Count,.sl (N:=U) 25 r.Until,.sl (N:=U) 3 r.Month,.sl (N:=U) 3 r.WeekNo,.sl (N:=U) 3 r.YearDay,.sl (N:=U) 3 r.MonthDay,.sl (N:=U) 60 r.Days,.sl (N:=U) 3 r.Hour,.sl (N:=U) 3 r.Minute,.sl (N:=U) 3 r.Second,.sl (N:=U) 3 r.SetPos,.int .i64 r.Wkst],.agg [.int .i64 t.Day.Year,.int .i64 t.Day.Month,.int .i64 t.Day.Date,.int .i64 t.Hour,.int .i64 t.Min,.int .i64 t.Sec,blB t.Bare,blB t.UTC]] _ ⟨fun _ h=>v6 hb_s h,fun _ h=>A5 hb_r h,fun _ h=>v6 hb_t h,trivial⟩ hr
 . cases h
noncomputable def Nln:Env:=Nal.addL 11 cln
theorem c35:k8 Nln:=b4i.addL Tryz.call11 d5r
end Go.Proofs.YtdjfeninmbpflaaGreat
end
section
namespace Go.Re
open Go Go.Wk Go.Wl Go.Rx
abbrev Up (l:List Int):Prop:=l.Pairwise (· < ·)
theorem e20 {l:List Int} (h:UpL l):Up l:=List.pairwise_iff_getElem.2 fun i j hi hj hij=>a9z h j i hij hj
theorem d6p (n:Nat):Up (a6h n):=by
 unfold a6h
 refine List.pairwise_map.2 (List.pairwise_lt_range.imp fun h=>?_)
 show ((_:Nat):Int)<((_:Nat):Int)
 omega
theorem a5d {l:List Int} {f:Bool} {own all:Int} (h:UpL l):Up (k9 l f own all):=by
 unfold k9
 split
 . exact e20 h
 . split
   . exact d6p _
   . exact List.pairwise_singleton ..
theorem a7o {n x:Int} {l:List Int} (h:inB n l) (hx:x∈l):0<=x/\x<=n:=by
 obtain ⟨i,i0,i1,rfl⟩:=E5 hx
 exact h i i0 i1
theorem a8a {fr to b:Int}:∀ {l:List Int},Up l->Up (Y3 fr to b l)
 | [],_=>List.Pairwise.nil
 | s::r,h=>by
  obtain ⟨h1,h2⟩:=List.pairwise_cons.1 h
  unfold Y3
  split
  . refine List.pairwise_cons.2 ⟨fun t ht=>?_,a8a h2⟩
    obtain ⟨u,hu,e,_⟩:=U8.1 ht
    have:=h1 u hu
    omega
  . exact a8a h2
theorem a8b {fr to b:Int} {ss:List Int} (hs:inB 59 ss) (us:Up ss):∀ {l:List Int},Up l->Up (Q5 fr to b ss l)
 | [],_=>List.Pairwise.nil
 | m::r,h=>by
  obtain ⟨h1,h2⟩:=List.pairwise_cons.1 h
  unfold Q5
  split
  . exact a8b hs us h2
  . refine List.pairwise_append.2 ⟨a8a us,a8b hs us h2,fun t ht u hu=>?_⟩
    obtain ⟨x,hx,e,_⟩:=U8.1 ht
    obtain ⟨m2,hm2,y,hy,e2,_⟩:=(a16 hs).1 hu
    have:=h1 m2 hm2
    have:=a7o hs hx
    have:=a7o hs hy
    omega
theorem a8m {fr to:Int} {ms ss:List Int} (hm:inB 59 ms) (hs:inB 59 ss) (um:Up ms) (us:Up ss):∀ {l:List Int},Up l->Up (T9 fr to ms ss l)
 | [],_=>List.Pairwise.nil
 | m::r,h=>by
  obtain ⟨h1,h2⟩:=List.pairwise_cons.1 h
  unfold T9
  split
  . exact a8m hm hs um us h2
  . refine List.pairwise_append.2 ⟨a8b hs us um,a8m hm hs um us h2,fun t ht u hu=>?_⟩
    obtain ⟨m1,hm1,x,hx,e,_⟩:=(a16 hs).1 ht
    obtain ⟨k,hk,m2,hm2,y,hy,e2,_⟩:=(a5y hm hs).1 hu
    have:=h1 k hk
    have:=a7o hs hx
    have:=a7o hs hy
    have:=a7o hm hm1
    have:=a7o hm hm2
    omega
theorem c73 {s:Tm} {r:Rl} {fr to:Int} (hF:s4 s r):Up (H2 s r fr to):=by
 have L:=(n9.1 hF.rr).lists
 exact a8m (b3l hF) (b3d hF) (a5d L.mi.up) (a5d L.se.up) (a5d L.ho.up)
theorem c94 {s:Tm} {r:Rl} {c:Int} (h:c∈E9 s r):0<=c/\c<86400:=b7i 24 (by omega) _ h
def c1y (s:Tm) (r:Rl) (day t:Int):Prop:=M4 s r day (t / 86400+1)=true/\t % 86400∈E9 s r
theorem b27 {s:Tm} {r:Rl} {day fr to n t:Int} (hF:s4 s r):t∈a69 s r day fr to n↔(c1y s r day t/\t / 86400+1=n)/\fr<=t/\t<to:=by
 unfold a69 c1y
 constructor
 . intro h
   split at h
   . rename_i hd
     obtain ⟨c,hc,rfl⟩:=List.mem_map.1 h
     obtain ⟨h1,h2,h3⟩:=(a1e hF).1 hc
     have:=c94 h1
     have e1:((n-1) * 86400+c) / 86400+1=n:=by omega
     have e2:((n-1) * 86400+c) % 86400=c:=by omega
     rw [e1,e2]
     exact ⟨⟨⟨hd,h1⟩,rfl⟩,by omega,by omega⟩
   . cases h
 . rintro ⟨⟨⟨h1,h2⟩,rfl⟩,h3,h4⟩
   rw [if_pos h1]
   refine List.mem_map.2 ⟨t % 86400,(a1e hF).2 ⟨h2,by omega,by omega⟩,by omega⟩
theorem c7y {s:Tm} {r:Rl} {day fr to n:Int} (hF:s4 s r):Up (a69 s r day fr to n):=by
 unfold a69
 split
 . exact List.pairwise_map.2 ((c73 hF).imp fun h=>by omega)
 . exact List.Pairwise.nil
theorem a52 {s:Tm} {r:Rl} {day fr to t:Int} (hF:s4 s r):∀ {k:Nat} {n:Int},t∈a30 s r day fr to k n↔(c1y s r day t/\n<=t / 86400+1/\t / 86400+1<n+k)/\fr<=t/\t<to
 | 0,n=>by
  unfold a30
  constructor
  . intro h; cases h
  . rintro ⟨⟨_,h1,h2⟩,_⟩; omega
 | k+1,n=>by
  unfold a30
  rw [List.mem_append,b27 hF,a52 hF]
  constructor
  . rintro (⟨⟨a,b⟩,c⟩ | ⟨⟨a,b⟩,c⟩)
    . exact ⟨⟨a,by omega⟩,c⟩
    . exact ⟨⟨a,by omega⟩,c⟩
  . rintro ⟨⟨a,b⟩,c⟩
    by_cases e:t / 86400+1=n
    . exact .inl ⟨⟨a,e⟩,c⟩
    . exact .inr ⟨⟨a,by omega⟩,c⟩
theorem b7m {s:Tm} {r:Rl} {day fr to:Int} (hF:s4 s r):∀ {k:Nat} {n:Int},Up (a30 s r day fr to k n)
 | 0,_=>List.Pairwise.nil
 | k+1,n=>by
  unfold a30
  refine List.pairwise_append.2 ⟨c7y hF,b7m hF,fun t ht u hu=>?_⟩
  have:=(b27 hF).1 ht
  have:=(a52 hF).1 hu
  omega
theorem b0v {s:Tm} {r:Rl} {day fr to t:Int} (hF:s4 s r):t∈a6g s r day fr to↔c1y s r day t/\fr<=t/\t<to:=by
 unfold a6g
 rw [a52 hF]
 constructor
 . rintro ⟨⟨a,_⟩,b⟩; exact ⟨a,b⟩
 . rintro ⟨a,b⟩; exact ⟨⟨a,by omega⟩,b⟩
theorem c7g {s:Tm} {r:Rl} {day fr to:Int} (hF:s4 s r):Up (a6g s r day fr to):=b7m hF
theorem a1g {sp:List Int} {n:Int}:∀ {l:List Int} {i:Int},(J7 sp n i l).Sublist l
 | [],_=>List.Sublist.slnil
 | t::l,i=>by
  rw [Q4]
  split
  . exact List.Sublist.cons_cons _ a1g
  . exact List.Sublist.cons _ a1g
theorem b0w {r:Rl} {l:List Int}:(J8 r l).Sublist l:=by
 unfold J8
 split
 . exact List.Sublist.refl _
 . exact a1g
theorem b8e {s:Tm} {r:Rl} {day i:Int} (hF:s4 s r):Up (u9 s r day i):=(c7g hF).sublist b0w
theorem X7 {s:Tm} {r:Rl} {day i t:Int} (hF:s4 s r) (h:t∈u9 s r day i):c1y s r day t/\q7 r i<=t/\t<q7 r (i+1):=(b0v hF).1 (b0w.subset h)
structure LoP (r:Rl) (i:Int):Prop where
 a:0<=i
 y:r.Freq=0->1<=i
 m:r.Freq=1->12<=i
 d:r.Freq=3->1<=i
theorem LoP.up {r:Rl} {i j:Int} (h:LoP r i) (hj:i<=j):LoP r j:=by
 obtain ⟨a,b,c,d⟩:=h
 exact ⟨by omega,fun e=>by have:=b e; omega,fun e=>by have:=c e; omega,fun e=>by have:=d e; omega⟩
theorem V4 {y m:Int} (y0:1<=y) (y1:y<=9999) (m0:1<=m) (m1:m<=12):w8 ⟨y,m,1⟩:=by
 have:=a3f y0 y1 m0 m1
 exact ⟨Int.le_refl 1,by show (1:Int)<=s9 y m; omega⟩
theorem a48 {d:Dy} {y m:Int} (h:w8 d) (y0:1<=y) (y1:y<=9999) (m0:1<=m) (m1:m<=12):z7 ⟨y,m,1⟩<=z7 d↔12 * y+m<=12 * d.Year+d.Month:=by
 have hr:=V4 y0 y1 m0 m1
 obtain ⟨a0,a1⟩:=R5 h
 obtain ⟨b0,b1⟩:=R5 hr
 obtain ⟨c0,c1,c2,c3,c4,c5⟩:=h.ym
 have h2:=h.2
 have b0:j4 y<z7 ⟨y,m,1⟩:=b0
 have b1:z7 ⟨y,m,1⟩<=j4 (y+1):=b1
 have e1:z7 ⟨y,m,1⟩=j4 y+D2 y m+1:=rfl
 have e2:z7 d=j4 d.Year+D2 d.Year d.Month+d.Date:=rfl
 rcases Int.lt_trichotomy y d.Year with hl | hl | hl
 . have:=v7 (show y+1<=d.Year by omega)
   constructor <;> intro <;> omega
 . subst hl
   rcases Int.lt_trichotomy m d.Month with hm | hm | hm
   . have:=a0l y0 y1 m0 c3 hm
     have:=a3f y0 y1 m0 m1
     constructor <;> intro <;> omega
   . subst hm
     constructor <;> intro <;> omega
   . have:=a0l y0 y1 c2 m1 hm
     constructor <;> intro <;> omega
 . have:=v7 (show d.Year+1<=y by omega)
   constructor <;> intro <;> omega
theorem a8p {n t:Int} (h0:1<=n) (t1:t<315537897600):nbP n<=t↔n<=t / 86400+1:=by
 unfold nbP
 split <;> omega
theorem L5 {r:Rl} {i t:Int} (hi:LoP r i) (t0:0<=t) (t1:t<315537897600):q7 r i<=t↔i<=l6 r t:=by
 obtain ⟨hd,hn⟩:=N1 (n:=t / 86400+1) (by omega) (by omega)
 obtain ⟨c0,c1,c2,c3,_⟩:=hd.ym
 have a:=hi.a
 unfold q7 l6 H8
 generalize ofS (t / 86400+1)=D at *
 by_cases f0:r.Freq=0
 . have b:=hi.y f0
   rw [if_pos f0,if_pos f0,if_neg (by omega)]
   by_cases hy:i<=9999
   . have hr:=V4 b hy (by decide:(1:Int)<=1) (by decide)
     have e:p6 ⟨i,1,1⟩=z7 ⟨i,1,1⟩:=by unfold p6; rw [if_pos hr]
     rw [e,a8p (J6 hr).1 t1,<- hn,a48 hd b hy (by decide) (by decide)]
     constructor <;> intro <;> omega
   . have e:p6 ⟨i,1,1⟩=0:=by
       unfold p6
       rw [if_neg fun h=>?_]
       have:i<=9999:=h.ym.2.1
       omega
     rw [e]
     unfold nbP
     rw [if_pos (.inl rfl)]
     constructor <;> intro <;> omega
 rw [if_neg f0,if_neg f0]
 by_cases f1:r.Freq=1
 . have b:=hi.m f1
   rw [if_pos f1,if_pos f1,if_pos f1]
   by_cases hy:i / 12<=9999
   . have hr:=V4 (y:=i / 12) (m:=i % 12+1) (by omega) hy (by omega) (by omega)
     have e:p6 ⟨i / 12,i % 12+1,1⟩=z7 ⟨i / 12,i % 12+1,1⟩:=by unfold p6; rw [if_pos hr]
     rw [e,a8p (J6 hr).1 t1,<- hn,a48 hd (by omega) hy (by omega) (by omega)]
     constructor <;> intro <;> omega
   . have e:p6 ⟨i / 12,i % 12+1,1⟩=0:=by
       unfold p6
       rw [if_neg fun h=>?_]
       have:i / 12<=9999:=h.ym.2.1
       omega
     rw [e]
     unfold nbP
     rw [if_pos (.inl rfl)]
     constructor <;> intro <;> omega
 rw [if_neg f1,if_neg f1,if_neg f1]
 by_cases f2:r.Freq=2
 . rw [if_pos f2,if_pos f2,a8p (by omega) t1]
   constructor <;> intro <;> omega
 rw [if_neg f2,if_neg f2]
 by_cases f3:r.Freq=3
 . have b:=hi.d f3
   rw [if_pos f3,if_pos f3,a8p b t1]
   constructor <;> intro <;> omega
 rw [if_neg f3,if_neg f3]
 by_cases f4:r.Freq=4
 . rw [if_pos f4,if_pos f4]; constructor <;> intro <;> omega
 rw [if_neg f4,if_neg f4]
 by_cases f5:r.Freq=5
 . rw [if_pos f5,if_pos f5]; constructor <;> intro <;> omega
 rw [if_neg f5,if_neg f5]
 constructor <;> intro <;> omega
theorem L8 {r:Rl} {i j:Int} (hi:LoP r i) (hj:i<=j):q7 r i<=q7 r j:=by
 obtain ⟨a0,a1⟩:=I2 (r:=r) hi.a
 obtain ⟨b0,b1⟩:=I2 (r:=r) (i:=j) (by have:=hi.a; omega)
 by_cases h:q7 r j<315537897600
 . exact (L5 hi b0 h).2 (Int.le_trans hj ((L5 (hi.up hj) b0 h).1 (Int.le_refl _)))
 . omega
theorem V7 {r:Rl} {t:Int} (t0:0<=t) (t1:t<315537897600) (w0:0<=r.Wkst) (w1:r.Wkst<=6):LoP r (l6 r t):=by
 obtain ⟨hd,hn⟩:=N1 (n:=t / 86400+1) (by omega) (by omega)
 obtain ⟨c0,c1,c2,c3,_⟩:=hd.ym
 refine ⟨(a3a t0 t1 w0 w1).1,fun f=>?_,fun f=>?_,fun f=>?_⟩
 . unfold l6 H8; rw [if_pos f,if_neg (by omega)]; omega
 . unfold l6 H8; rw [if_neg (by omega),if_pos f,if_pos f]; omega
 . unfold l6 H8; rw [if_neg (by omega),if_neg (by omega),if_neg (by omega),if_pos f,if_neg (by omega)]; omega
theorem a0h {r:Rl} {t u:Int} (t0:0<=t) (h:t<=u) (u1:u<315537897600) (w0:0<=r.Wkst) (w1:r.Wkst<=6):l6 r t<=l6 r u:=by
 have hl:=V7 (r:=r) (t:=t) t0 (by omega) w0 w1
 have:=(L5 hl t0 (by omega)).2 (Int.le_refl _)
 exact (L5 hl (by omega) u1).1 (by omega)
end Go.Re
end
section
namespace Go.Re
open Go Go.Wk Go.Wl Go.Rx
def T4 (s:Tm) (r:Rl) (day i0:Int):Nat->Int->List Int
 | 0,_=>[]
 | n+1,k=>u9 s r day (i0+k * r.Interval)++T4 s r day i0 n (k+1)
def K2 (r:Rl) (c:Int) (l:List Int):List Int:=if 0<r.Count then l.take (r.Count-c).toNat else l
def PT (first to til t:Int):Bool:=decide (first<t/\t<to/\t<=til)
theorem S4 {first to til t:Int}:PT first to til t=true↔first<t/\t<to/\t<=til:=decide_eq_true_iff
theorem a39 {r:Rl} {c:Int}:K2 r c []=[]:=by unfold K2; split <;> simp
theorem d0j {r:Rl} {c:Int} {l:List Int} (h:0<r.Count) (h1:r.Count<=c):K2 r c l=[]:=by
 unfold K2
 rw [if_pos h,show (r.Count-c).toNat=0 by omega,List.take_zero]
theorem c2l {r:Rl} {c:Int} {l:List Int} (h:¬ 0<r.Count):K2 r c l=l:=if_neg h
theorem c4x {r:Rl} {c t:Int} {l:List Int} (h:¬ (0<r.Count/\r.Count<=c)):K2 r c (t::l)=t::K2 r (c+1) l:=by
 unfold K2
 by_cases hc:0<r.Count
 . rw [if_pos hc,if_pos hc,show (r.Count-c).toNat=(r.Count-(c+1)).toNat+1 by omega,List.take_succ_cons]
 . rw [if_neg hc,if_neg hc]
theorem c9n {r:Rl} {c:Int} {A B:List Int}:K2 r c (A++B)=K2 r c A++K2 r (c+(K2 r c A).length) B:=by
 unfold K2
 by_cases hc:0<r.Count
 . rw [if_pos hc,if_pos hc,if_pos hc,List.take_append,List.length_take]
   congr 2
   omega
 . rw [if_neg hc,if_neg hc,if_neg hc]
theorem filter_nil {p:Int->Bool} {l:List Int} (h:∀ t∈l,¬ p t=true):l.filter p=[]:=List.filter_eq_nil_iff.2 h
theorem a9j {r:Rl} {first to til:Int}:∀ {L:List Int} {c:Int},Up L ->
  a01 r first to til c L=(K2 r c (L.filter (PT first to til)),c+(K2 r c (L.filter (PT first to til))).length)
 | [],c,_=>by
  rw [List.filter_nil,a39]
  unfold a01
  simp
 | t::L,c,h=>by
  obtain ⟨h1,h2⟩:=List.pairwise_cons.1 h
  unfold a01
  by_cases hf:t<=first
  . rw [if_pos hf,List.filter_cons_of_neg (by rw [S4]; omega)]
    exact a9j h2
  rw [if_neg hf]
  by_cases hb:(to<=t ∨ til<t) ∨ (0<r.Count/\r.Count<=c)
  . have e:K2 r c ((t::L).filter (PT first to til))=[]:=by
      rcases hb with hb | hb
      . rw [filter_nil,a39]
        intro u hu
        have:t<=u:=by
         rcases List.mem_cons.1 hu with rfl | hu
         . exact Int.le_refl _
         . exact Int.le_of_lt (h1 u hu)
        rw [S4]; omega
      . exact d0j hb.1 hb.2
    rw [if_pos hb,e]
    simp
  . rw [if_neg hb,List.filter_cons_of_pos (S4.2 (by omega)),c4x (fun hh=>hb (.inr hh)),a9j h2,List.length_cons]
    refine Prod.ext rfl ?_
    show c+1+_=_
    rw [Int.natCast_add]
    omega
section
variable {s:Tm} {r:Rl} {day first to til i0 k c t:Int} {n:Nat}
theorem F3 (hF:s4 s r):1<=r.Interval:=(n9.1 hF.rr).head.2.2.1
theorem a2c (hF:s4 s r):0<=r.Wkst/\r.Wkst<=6:=(n9.1 hF.rr).head.2.2.2.2.2.2
theorem a08 {a b I:Int} (hI:1<=I) (h:a<=b):a * I<=b * I:=Int.mul_le_mul_of_nonneg_right h (by omega)
theorem mul_succ {a I:Int}:(a+1) * I=a * I+I:=by rw [Int.add_mul,Int.one_mul]
theorem LoP.at (hl:LoP r (i0+k * r.Interval)) (hI:1<=r.Interval) {j:Int} (hj:k<=j):LoP r (i0+j * r.Interval):=by
 have:=a08 hI hj
 exact hl.up (by omega)
theorem O9:∀ {n:Nat} {k:Int},t∈T4 s r day i0 n k↔∃ j:Int,k<=j/\j<k+n/\t∈u9 s r day (i0+j * r.Interval)
 | 0,k=>by
  unfold T4
  constructor
  . intro h; cases h
  . rintro ⟨j,h1,h2,_⟩; omega
 | n+1,k=>by
  unfold T4
  rw [List.mem_append,O9]
  constructor
  . rintro (h | ⟨j,h1,h2,h3⟩)
    . exact ⟨k,by omega,by omega,h⟩
    . exact ⟨j,by omega,by omega,h3⟩
  . rintro ⟨j,h1,h2,h3⟩
    by_cases e:j=k
    . subst e; exact .inl h3
    . exact .inr ⟨j,by omega,by omega,h3⟩
theorem b0l (hF:s4 s r) {i:Int} (hl:LoP r i) (h:t∈u9 s r day i):t<315537897600:=by
 have:=(X7 hF h).2.2
 have:=(I2 (r:=r) (i:=i+1) (by have:=hl.a; omega)).2
 omega
theorem a9n (hF:s4 s r) (hl:LoP r (i0+k * r.Interval)) (h:t∈T4 s r day i0 n k):q7 r (i0+k * r.Interval)<=t/\t<q7 r (i0+(k+n) * r.Interval)/\t<315537897600:=by
 obtain ⟨j,h1,h2,h3⟩:=O9.1 h
 have hI:=F3 hF
 have a:=a08 hI h1
 have b:=a08 hI (show j+1<=k+n by omega)
 rw [mul_succ] at b
 have hj:=hl.at hI h1
 have c:=X7 hF h3
 have d:=L8 hl (show i0+k * r.Interval<=i0+j * r.Interval by omega)
 have e:=L8 (hj.up (j:=i0+j * r.Interval+1) (by omega)) (show i0+j * r.Interval+1<=i0+(k+n) * r.Interval by omega)
 have f:=b0l hF hj h3
 exact ⟨by omega,by omega,f⟩
theorem b76 (hF:s4 s r):∀ {n:Nat} {k:Int},LoP r (i0+k * r.Interval)->Up (T4 s r day i0 n k)
 | 0,_,_=>List.Pairwise.nil
 | n+1,k,hl=>by
  have hI:=F3 hF
  have h2:LoP r (i0+(k+1) * r.Interval):=hl.at hI (by omega)
  unfold T4
  refine List.pairwise_append.2 ⟨b8e hF,b76 hF h2,fun t ht u hu=>?_⟩
  have a:=X7 hF ht
  have b:=a9n hF h2 hu
  have c:=L8 (hl.up (j:=i0+k * r.Interval+1) (by omega)) (show i0+k * r.Interval+1<=i0+(k+1) * r.Interval by rw [mul_succ]; omega)
  omega
theorem Q7.up {b b' c':Int} (h:Q7 r to til b c) (hb:b<=b') (hc:c<=c'):Q7 r to til b' c':=by
 unfold Q7 at h ⊢
 omega
theorem b7x (hF:s4 s r):∀ {n:Nat} {k c:Int},LoP r (i0+k * r.Interval) ->
  (Y1 s r day first to til i0 n k c).1=K2 r c ((T4 s r day i0 n k).filter (PT first to til)) /\
  ((Y1 s r day first to til i0 n k c).2=true↔¬ Q7 r to til (q7 r (i0+(k+n) * r.Interval)) (c+(K2 r c ((T4 s r day i0 n k).filter (PT first to til))).length))
 | 0,k,c,hl=>by
  have e:T4 s r day i0 0 k=[]:=rfl
  rw [e,List.filter_nil,a39,show k+((0:Nat):Int)=k by omega,show c+(([]:List Int).length:Int)=c by simp]
  unfold Y1
  by_cases he:Q7 r to til (q7 r (i0+k * r.Interval)) c
  . rw [if_pos he]; exact ⟨rfl,fun h=>absurd h Bool.false_ne_true,fun h=>absurd he h⟩
  . rw [if_neg he]; exact ⟨rfl,fun _=>he,fun _=>rfl⟩
 | n+1,k,c,hl=>by
  have hI:=F3 hF
  have h2:LoP r (i0+(k+1) * r.Interval):=hl.at hI (by omega)
  by_cases he:Q7 r to til (q7 r (i0+k * r.Interval)) c
  . have e:K2 r c ((T4 s r day i0 (n+1) k).filter (PT first to til))=[]:=by
      by_cases hc:0<r.Count/\r.Count<=c
      . exact d0j hc.1 hc.2
      . rw [filter_nil,a39]
        intro u hu
        have g:=a9n hF hl hu
        unfold Q7 at he
        rw [S4]; omega
    have a:=a08 hI (show k<=k+((n+1:Nat):Int) by omega)
    have m:=L8 hl (show i0+k * r.Interval<=i0+(k+((n+1:Nat):Int)) * r.Interval by omega)
    rw [e]
    unfold Y1
    rw [if_pos he]
    exact ⟨rfl,fun h=>absurd h Bool.false_ne_true,fun h=>absurd (he.up m (by show c<=c+((0:Nat):Int); omega)) h⟩
  . have ic:=a9j (r:=r) (first:=first) (to:=to) (til:=til) (c:=c) (b8e (day:=day) (i:=i0+k * r.Interval) hF)
    have ih:=b7x hF (n:=n) (k:=k+1) (c:=c+(K2 r c ((u9 s r day (i0+k * r.Interval)).filter (PT first to til))).length) h2
    have ep:T4 s r day i0 (n+1) k=u9 s r day (i0+k * r.Interval)++T4 s r day i0 n (k+1):=rfl
    unfold Y1
    rw [if_neg he,ic,ep,List.filter_append,c9n,List.length_append]
    dsimp only
    rw [ih.1]
    refine ⟨rfl,ih.2.trans ?_⟩
    have hn:∀ a b:Nat,c+((a+b:Nat):Int)=c+a+b:=fun a b=>by omega
    rw [show k+1+(n:Int)=k+((n+1:Nat):Int) by omega,hn]
theorem R9 {fr:Int} (hF:s4 s r) (h0:0<=k0S s r fr) :
  (E4 s r day fr to).1=(if b8 s<to then [b8 s] else [])++K2 r 1 ((T4 s r day (l6 r (b8 s)) (40000-k0S s r fr).toNat (k0S s r fr)).filter (PT (b8 s) to (T7 r))) /\
  ((E4 s r day fr to).2=true↔¬ Q7 r to (T7 r) (q7 r (l6 r (b8 s)+(k0S s r fr+(40000-k0S s r fr).toNat) * r.Interval)) (1+(K2 r 1 ((T4 s r day (l6 r (b8 s)) (40000-k0S s r fr).toNat (k0S s r fr)).filter (PT (b8 s) to (T7 r)))).length)):=by
 obtain ⟨a,b⟩:=s8 hF.rt
 have hw:=a2c hF
 have hl:=V7 (r:=r) a b hw.1 hw.2
 have hl:LoP r (l6 r (b8 s)+k0S s r fr * r.Interval):=hl.up (by have:=Int.mul_nonneg h0 (show 0<=r.Interval by have:=F3 hF; omega); omega)
 obtain ⟨h1,h2⟩:=b7x (day:=day) (first:=b8 s) (to:=to) (til:=T7 r) hF (n:=(40000-k0S s r fr).toNat) (c:=1) hl
 unfold E4
 exact ⟨by rw [h1],h2⟩
end
end Go.Re
end
section
namespace Go.Re
open Go Go.Wk Go.Wl Go.Rx
theorem b56:∀ {l m:List Int},Up l->Up m->(∀ t,t∈l↔t∈m)->l=m
 | [],[],_,_,_=>rfl
 | [],y::m,_,_,h=>absurd ((h y).2 (List.mem_cons_self ..)) (by simp)
 | x::l,[],_,_,h=>absurd ((h x).1 (List.mem_cons_self ..)) (by simp)
 | x::l,y::m,hl,hm,h=>by
  obtain ⟨a1,a2⟩:=List.pairwise_cons.1 hl
  obtain ⟨b1,b2⟩:=List.pairwise_cons.1 hm
  have e:x=y:=by
   rcases List.mem_cons.1 ((h x).1 (List.mem_cons_self ..)) with e | e
   . exact e
   . rcases List.mem_cons.1 ((h y).2 (List.mem_cons_self ..)) with e2 | e2
     . exact e2.symm
     . have:=b1 x e; have:=a1 y e2; omega
  subst e
  rw [b56 a2 b2 fun t=>⟨fun ht=>?_,fun ht=>?_⟩]
  . rcases List.mem_cons.1 ((h t).1 (List.mem_cons_of_mem _ ht)) with e | e
    . subst e; have:=a1 t ht; omega
    . exact e
  . rcases List.mem_cons.1 ((h t).2 (List.mem_cons_of_mem _ ht)) with e | e
    . subst e; have:=b1 t ht; omega
    . exact e
def geB (x t:Int):Bool:=decide (x<=t)
theorem a50 {x t:Int}:geB x t=true↔x<=t:=decide_eq_true_iff
theorem a8s {s a:Tm}:∀ {l:List Int},frA s a l=(l.filter (geB (b8 a))).map (fun t=>atS t s)
 | []=>rfl
 | t::l=>by
  show (if b8 a<=t then atS t s::frA s a l else frA s a l)=_
  by_cases h:b8 a<=t
  . rw [if_pos h,List.filter_cons_of_pos (a50.2 h),a8s]; rfl
  . rw [if_neg h,List.filter_cons_of_neg (fun e=>h (a50.1 e)),a8s]
theorem b0a {s a:Tm} {l m:List Int}:(frA s a l).length<=(frA s a (l++m)).length:=by
 rw [a8u,List.length_append]; omega
theorem b7n {s a:Tm}:∀ {T y:List Int} {e:Bool},((frA s a (y++T)).length:Int)<=1000->V1 (a9r s a) y T e=(y++T,e)
 | [],y,e,_=>by unfold V1; rw [List.append_nil]
 | t::T,y,e,h=>by
  have e1:y++t::T=(y++[t])++T:=by simp
  rw [e1] at h ⊢
  have:=b0a (s:=s) (a:=a) (l:=y++[t]) (m:=T)
  have hr:a9r s a y t=true:=decide_eq_true (by omega)
  unfold V1
  rw [hr]
  exact b7n h
abbrev b9g (s:Tm) (r:Rl) (a b:Tm):List Int×Bool:=E4 s r (p6 s.Day) (b8 a) (b8 b)
structure d0k (s:Tm) (r:Rl) (a b:Tm):Prop where
 bad:¬ c4r s r a b
 far:T8 s r (p6 s.Day) (b8 b)=false
 many:(b9g s r a b).2=false
 few:((frA s a (b9g s r a b).1).length:Int)<=1000
theorem c4f {s a b:Tm} {r:Rl} (h:d0k s r a b):C7 s r a b=(frA s a (b9g s r a b).1,.nil):=by
 unfold C7 c0i
 rw [if_neg h.bad,h.far,if_neg Bool.false_ne_true,b7n (T:=(b9g s r a b).1) (y:=[]) (e:=(b9g s r a b).2) h.few]
 unfold c1f
 rw [h.many,if_neg Bool.false_ne_true]
 exact if_neg (show ¬ 1000<((frA s a (b9g s r a b).1).length:Int) by have:=h.few; omega)
theorem e1g {s a b:Tm} {r:Rl} (h:s4 s r) (ha:l9 a=true) (hb:l9 b=true):¬ c4r s r a b:=fun e=>e.elim (fun e=>e.elim (fun e=>e (F1.2 h)) fun e=>e ha) fun e=>e hb
section
variable {s:Tm} {r:Rl} {day first to til i0 k c t m fr:Int} {n:Nat}
theorem a8z {l:List Int}:(K2 r c l).Sublist l:=by
 unfold K2
 split
 . exact List.take_sublist ..
 . exact List.Sublist.refl _
theorem M6 (hF:s4 s r) (h0:0<=fr):0<=k0S s r fr/\(k0S s r fr=0 ∨ (r.Count=0/\b8 s<fr/\q7 r (l6 r (b8 s)+k0S s r fr * r.Interval)<=fr)):=by
 obtain ⟨a,b⟩:=s8 hF.rt
 obtain ⟨w0,w1⟩:=a2c hF
 have hI:=F3 hF
 have hz:=d0c (s:=s) (r:=r) (fr:=fr) hI (fun x x0 x1=>a3a x0 x1 w0 w1) h0 ⟨a,b⟩
 refine ⟨hz.1,?_⟩
 by_cases hc:r.Count=0/\b8 s<fr
 . by_cases hk:k0S s r fr=0
   . exact .inl hk
   refine .inr ⟨hc.1,hc.2,?_⟩
   have h2:k0S s r fr=max 0 ((l6 r (min fr 315537897599)-l6 r (b8 s)).tdiv r.Interval-1):=if_pos hc
   have hm:=a0h (r:=r) (t:=b8 s) (u:=min fr 315537897599) a (by omega) (by omega) w0 w1
   rw [Int.tdiv_eq_ediv_of_nonneg (by omega)] at h2
   have h3:=Int.ediv_mul_le (l6 r (min fr 315537897599)-l6 r (b8 s)) (show r.Interval≠0 by omega)
   have h4:((l6 r (min fr 315537897599)-l6 r (b8 s)) / r.Interval-1) * r.Interval=(l6 r (min fr 315537897599)-l6 r (b8 s)) / r.Interval * r.Interval-r.Interval:=by rw [Int.sub_mul,Int.one_mul]
   have h5:k0S s r fr=(l6 r (min fr 315537897599)-l6 r (b8 s)) / r.Interval-1:=by omega
   have hl:LoP r (l6 r (b8 s)+k0S s r fr * r.Interval):=(V7 (r:=r) a b w0 w1).up (by omega)
   have:=(L5 hl (t:=min fr 315537897599) (by omega) (by omega)).2 (by rw [h5,h4]; omega)
   omega
 . exact .inl (if_neg hc)
theorem c90 (hF:s4 s r) (h0:0<=fr) (h:fr<=m):k0S s r fr<=k0S s r m:=by
 obtain ⟨a,b⟩:=s8 hF.rt
 obtain ⟨w0,w1⟩:=a2c hF
 have hI:=F3 hF
 by_cases hc:r.Count=0/\b8 s<fr
 . have h1:k0S s r fr=max 0 ((l6 r (min fr 315537897599)-l6 r (b8 s)).tdiv r.Interval-1):=if_pos hc
   have h2:k0S s r m=max 0 ((l6 r (min m 315537897599)-l6 r (b8 s)).tdiv r.Interval-1):=if_pos ⟨hc.1,by omega⟩
   have hm:=a0h (r:=r) (t:=b8 s) (u:=min fr 315537897599) a (by omega) (by omega) w0 w1
   have hm2:=a0h (r:=r) (t:=min fr 315537897599) (u:=min m 315537897599) (by omega) (by omega) (by omega) w0 w1
   rw [Int.tdiv_eq_ediv_of_nonneg (by omega)] at h1 h2
   have:=Int.ediv_le_ediv (show 0<r.Interval by omega) (show l6 r (min fr 315537897599)-l6 r (b8 s)<=l6 r (min m 315537897599)-l6 r (b8 s) by omega)
   omega
 . have h1:k0S s r fr=0:=if_neg hc
   have:=(M6 hF (show 0<=m by omega)).1
   omega
theorem a9p (hF:s4 s r) {k:Int} (h0:0<=k) {n:Nat}:Up (T4 s r day (l6 r (b8 s)) n k):=by
 obtain ⟨a,b⟩:=s8 hF.rt
 obtain ⟨w0,w1⟩:=a2c hF
 have hI:=F3 hF
 exact b76 hF ((V7 (r:=r) a b w0 w1).up (by have:=Int.mul_nonneg h0 (show 0<=r.Interval by omega); omega))
theorem d3e (hF:s4 s r) (h0:0<=fr):Up (E4 s r day fr to).1:=by
 have hk:=(M6 hF h0).1
 rw [(R9 hF hk).1]
 refine List.pairwise_append.2 ⟨by split; exact List.pairwise_singleton ..; exact List.Pairwise.nil,((a9p hF hk).filter _).sublist a8z,fun t ht u hu=>?_⟩
 have h2:=S4.1 (List.mem_filter.1 (a8z.subset hu)).2
 split at ht
 . cases List.mem_singleton.1 ht; omega
 . cases ht
theorem d9o (hF:s4 s r) (h0:0<=fr) (hm:fr<=m):(E4 s r day m to).1.filter (geB m)=(E4 s r day fr to).1.filter (geB m)/\((E4 s r day fr to).2=false->(E4 s r day m to).2=false):=by
 have hk:=(M6 hF h0).1
 obtain ⟨hk2,hk3⟩:=M6 (fr:=m) hF (by omega)
 have hkm:=c90 hF h0 hm
 obtain ⟨a1,a2⟩:=R9 (day:=day) (to:=to) hF hk2
 obtain ⟨b1,b2⟩:=R9 (day:=day) (to:=to) hF hk
 obtain ⟨a,b⟩:=s8 hF.rt
 obtain ⟨w0,w1⟩:=a2c hF
 have hI:=F3 hF
 have U1:=a9p (day:=day) (n:=(40000-k0S s r fr).toNat) hF hk
 have U2:=a9p (day:=day) (n:=(40000-k0S s r m).toNat) hF hk2
 by_cases he:k0S s r m=k0S s r fr
 . rw [he] at a1 a2
   refine ⟨by rw [a1,b1],fun h=>?_⟩
   rw [<- Bool.not_eq_true,b2] at h
   rw [<- Bool.not_eq_true,a2]
   exact h
 have hc:=hk3.resolve_left (by omega)
 have nc:¬ 0<r.Count:=by omega
 have lo:∀ j:Int,0<=j->LoP r (l6 r (b8 s)+j * r.Interval):=fun j hj=>(V7 (r:=r) a b w0 w1).up (by have:=Int.mul_nonneg hj (show 0<=r.Interval by omega); omega)
 rw [c2l nc] at a1 b1
 refine ⟨?_,fun h=>?_⟩
 . rw [a1,b1,List.filter_append,List.filter_append]
   congr 1
   refine b56 ((U2.filter _).filter _) ((U1.filter _).filter _) fun t=>?_
   rw [List.mem_filter,List.mem_filter,List.mem_filter,List.mem_filter,a50,O9,O9]
   have key:m<=t->((∃ j:Int,k0S s r m<=j/\j<k0S s r m+(40000-k0S s r m).toNat/\t∈u9 s r day (l6 r (b8 s)+j * r.Interval))↔∃ j:Int,k0S s r fr<=j/\j<k0S s r fr+(40000-k0S s r fr).toNat/\t∈u9 s r day (l6 r (b8 s)+j * r.Interval)):=fun hmt=>by
    constructor
    . rintro ⟨j,j0,j1,hj⟩
      exact ⟨j,by omega,by omega,hj⟩
    . rintro ⟨j,j0,j1,hj⟩
      have hjk:k0S s r m<=j:=by
       rcases Int.lt_or_le j (k0S s r m) with hlt | hge
       . exfalso
         have g:=(X7 hF hj).2.2
         have u:=a08 hI (show j+1<=k0S s r m by omega)
         rw [mul_succ] at u
         have:=L8 ((lo j (by omega)).up (j:=l6 r (b8 s)+j * r.Interval+1) (by omega)) (show l6 r (b8 s)+j * r.Interval+1<=l6 r (b8 s)+k0S s r m * r.Interval by omega)
         omega
       . exact hge
      exact ⟨j,hjk,by omega,hj⟩
   constructor
   . rintro ⟨⟨h1,h2⟩,h3⟩; exact ⟨⟨(key h3).1 h1,h2⟩,h3⟩
   . rintro ⟨⟨h1,h2⟩,h3⟩; exact ⟨⟨(key h3).2 h1,h2⟩,h3⟩
 . rw [<- Bool.not_eq_true,b2,Classical.not_not] at h
   rw [<- Bool.not_eq_true,a2,Classical.not_not]
   have u:=a08 hI (show k0S s r fr+(40000-k0S s r fr).toNat<=k0S s r m+(40000-k0S s r m).toNat by omega)
   have:=L8 (lo (k0S s r fr+(40000-k0S s r fr).toNat) (by omega)) (show l6 r (b8 s)+(k0S s r fr+(40000-k0S s r fr).toNat) * r.Interval<=l6 r (b8 s)+(k0S s r m+(40000-k0S s r m).toNat) * r.Interval by omega)
   unfold Q7 at h ⊢
   omega
end
end Go.Re
end
section
namespace Go.Re
open Go Go.Wk Go.Wl Go.Rx
theorem c17:∀ {T y:List Int} {e:Bool},V1 (fun _ _=>true) y T e=(y++T,e)
 | [],y,e=>by unfold V1; rw [List.append_nil]
 | t::T,y,e=>by unfold V1; rw [cond_true,c17]; simp
theorem b6y {res:List Int->Int->Bool}:∀ {T y:List Int} {e:Bool},(V1 res y T e).1.length<=y.length+T.length
 | [],y,e=>by unfold V1; simp
 | t::T,y,e=>by
  unfold V1
  cases res y t with
  | true =>
   have:=b6y (res:=res) (T:=T) (y:=y++[t]) (e:=e)
   rw [List.length_append] at this
   simp only [List.length_cons,List.length_nil] at this ⊢
   rw [cond_true]
   omega
  | false=>simp
theorem c2a {s:Tm} {r:Rl} {day to fr:Int} (hF:s4 s r) (h0:0<=fr) (h:T8 s r day to=false):(E4 s r day fr to).2=false:=by
 obtain ⟨hk,hk1⟩:=M6 hF h0
 obtain ⟨a,b⟩:=s8 hF.rt
 obtain ⟨w0,w1⟩:=a2c hF
 have hI:=F3 hF
 have lo:∀ j:Int,0<=j->LoP r (l6 r (b8 s)+j * r.Interval):=fun j hj=>(V7 (r:=r) a b w0 w1).up (by have:=Int.mul_nonneg hj (show 0<=r.Interval by omega); omega)
 rw [<- Bool.not_eq_true,(R9 (day:=day) (to:=to) hF hk).2,Classical.not_not]
 have u:=a08 hI (show 40000<=k0S s r fr+(40000-k0S s r fr).toNat by omega)
 have hb:=L8 (lo 40000 (by decide)) (show l6 r (b8 s)+40000 * r.Interval<=l6 r (b8 s)+(k0S s r fr+(40000-k0S s r fr).toNat) * r.Interval by omega)
 obtain ⟨g0,g1⟩:=I2 (r:=r) (lo 40000 (by decide)).a
 have hin:=fun t ht=>a9n (t:=t) (day:=day) (n:=40000) hF (lo 0 (by decide)) ht
 unfold T8 at h
 rw [show (0:Int)+((40000:Nat):Int)=40000 by omega] at hin
 generalize q7 r (l6 r (b8 s)+40000 * r.Interval)=b4 at *
 by_cases h1:to<=b4 ∨ 315537897600<=b4
 . unfold Q7; omega
 rw [if_neg h1] at h
 by_cases h2:0<(r.Until.length:Int)/\b8 (ix r.Until 0)<b4
 . have e:T7 r=b8 (ix r.Until 0):=if_pos h2.1
   unfold Q7; omega
 rw [if_neg h2] at h
 by_cases h3:0<r.Count
 . rw [if_pos h3] at h
   have hz:k0S s r fr=0:=hk1.resolve_right (by omega)
   have hz0:k0S s r 0=0:=(M6 hF (show (0:Int)<=0 by decide)).2.resolve_right (by omega)
   have e1:=(R9 (day:=day) (fr:=0) (to:=b4) hF (by omega)).1
   rw [hz0] at e1
   rw [hz]
   have l1:=b6y (res:=a6b r) (T:=(E4 s r day 0 b4).1) (y:=[]) (e:=(E4 s r day 0 b4).2)
   unfold c7w at h
   generalize V1 (a6b r) [] (E4 s r day 0 b4).1 (E4 s r day 0 b4).2=g at *
   have hg:r.Count<=(g.1.length:Int):=by
    by_cases hh:r.Count<=(g.1.length:Int) ∨ g.2=true
    . rw [if_pos hh] at h
      exact hh.resolve_right (by rw [h]; decide)
    . rw [if_neg hh] at h; cases h
   rw [e1,List.length_append] at l1
   have l2:(if b8 s<b4 then [b8 s] else []).length<=1:=by split <;> simp
   have e:(T4 s r day (l6 r (b8 s)) (40000-(0:Int)).toNat 0).filter (PT (b8 s) to (T7 r))=(T4 s r day (l6 r (b8 s)) (40000-(0:Int)).toNat 0).filter (PT (b8 s) b4 (T7 r)):=List.filter_congr fun t ht=>by
    have:=hin t ht
    rw [Bool.eq_iff_iff,S4,S4]
    omega
   rw [e]
   rw [List.length_nil] at l1
   unfold Q7
   omega
 . rw [if_neg h3] at h; cases h
theorem c93 {s:Tm} (h:O0 s):atS (b8 s) s=s:=by
 obtain ⟨hd,hh,hm,hs,hb⟩:=h
 have hn:=J6 hd
 have e:b8 s=E2 s:=if_pos ⟨hd,hh,hm,hs,hb⟩
 have d1:E2 s / 86400+1=z7 s.Day:=by unfold E2; omega
 have d2:E2 s % 86400=s.Hour * 3600+s.Min * 60+s.Sec:=by unfold E2; omega
 rw [e]
 unfold atS
 rw [if_neg,d1,d2,b5h hd]
 . have e1:(s.Hour * 3600+s.Min * 60+s.Sec) / 3600=s.Hour:=by omega
   have e2:(s.Hour * 3600+s.Min * 60+s.Sec) / 60 % 60=s.Min:=by omega
   have e3:(s.Hour * 3600+s.Min * 60+s.Sec) % 60=s.Sec:=by omega
   rw [e1,e2,e3]
 . rintro (h | h | h)
   . unfold E2 at h; omega
   . refine hb ⟨h.1,?_⟩
     rcases h.2 with h | h
     . exact .inr h
     . left; omega
   . rw [d1] at h; omega
theorem c8c {s:Tm} {r:Rl} {day to t:Int} (hF:s4 s r) (hc:¬ 0<r.Count):t∈(E4 s r day 0 to).1↔(t=b8 s/\b8 s<to) ∨ (b8 s<t/\t<to/\t<=T7 r)/\∃ j:Int,0<=j/\j<40000/\t∈u9 s r day (l6 r (b8 s)+j * r.Interval):=by
 have hz0:k0S s r 0=0:=(M6 hF (show (0:Int)<=0 by decide)).2.resolve_right (by have:=(s8 hF.rt).1; omega)
 have e1:=(R9 (day:=day) (fr:=0) (to:=to) hF (by omega)).1
 rw [hz0] at e1
 rw [e1,c2l hc,List.mem_append,List.mem_filter,S4,O9]
 have e2:t∈(if b8 s<to then [b8 s] else [])↔t=b8 s/\b8 s<to:=by
  split
  . rename_i h; rw [List.mem_singleton]; exact ⟨fun e=>⟨e,h⟩,fun e=>e.1⟩
  . rename_i h; exact ⟨fun e=>(by cases e),fun e=>absurd e.2 h⟩
 rw [e2]
 constructor
 . rintro (h | ⟨⟨j,j0,j1,hj⟩,h⟩)
   . exact .inl h
   . exact .inr ⟨h,j,j0,by omega,hj⟩
 . rintro (h | ⟨h,j,j0,j1,hj⟩)
   . exact .inl h
   . exact .inr ⟨⟨j,j0,by omega,hj⟩,h⟩
structure DnI (s:Tm) (r:Rl) (day tl k:Int):Prop where
 a:∀ t j:Int,0<=j->k<j->b8 s<t->t<tl->t∈u9 s r day (l6 r (b8 s)+j * r.Interval)->False
structure DcI (L:List Int) (fi tl x:Int):Prop where
 a:∀ i:Int,x<i->i<L.length->¬ (ix L i<tl/\fi<ix L i)
section
variable {s:Tm} {r:Rl} {day tl k to:Int}
theorem DnI.step (h:DnI s r day tl k) (hc:DcI (u9 s r day (l6 r (b8 s)+k * r.Interval)) (b8 s) tl (-1)):DnI s r day tl (k-1):=⟨fun t j j0 hk h2 h3 ht=>by
 by_cases e:j=k
 . subst e
   obtain ⟨i,i0,i1,rfl⟩:=E5 ht
   exact hc.a i (by omega) i1 ⟨h3,h2⟩
 . exact h.a t j j0 (by omega) h2 h3 ht⟩
end
end Go.Re
end
section
namespace Go.Re
open Go Go.Wk Go.Wl Go.Rx
structure AtP (s:Tm) (u:Int):Prop where
 a:0<=u
 b:u<315537897600
 c:s.Bare=true->s.UTC=false/\u % 86400=0
structure AtR (s t:Tm) (u:Int):Prop where
 rt:l9 t=true
 se:b8 t=u
 ba:t.Bare=s.Bare
 ut:t.UTC=s.UTC
theorem b4r {s:Tm} {u:Int} (h:AtP s u):AtR s (atS u s) u:=by
 obtain ⟨a,b,c⟩:=h
 have hb:¬ (s.Bare=true/\(s.UTC=true ∨ u % 86400≠0)):=fun ⟨h1,h2⟩=>by
  obtain ⟨c1,c2⟩:=c h1
  rcases h2 with h2 | h2
  . rw [c1] at h2; cases h2
  . exact h2 c2
 have e:atS u s=⟨ofS (u / 86400+1),u % 86400 / 3600,u % 86400 / 60 % 60,u % 86400 % 60,s.Bare,s.UTC⟩:=by
  unfold atS
  rw [if_neg]
  rintro (h | h | h)
  . omega
  . exact hb h
  . omega
 obtain ⟨d1,d2⟩:=N1 (n:=u / 86400+1) (by omega) (by omega)
 have hr:O0 ⟨ofS (u / 86400+1),u % 86400 / 3600,u % 86400 / 60 % 60,u % 86400 % 60,s.Bare,s.UTC⟩:=by
  refine ⟨d1,⟨?_,?_⟩,⟨?_,?_⟩,⟨?_,?_⟩,?_⟩
  . show 0<=u % 86400 / 3600; omega
  . show u % 86400 / 3600<=23; omega
  . show 0<=u % 86400 / 60 % 60; omega
  . show u % 86400 / 60 % 60<=59; omega
  . show 0<=u % 86400 % 60; omega
  . show u % 86400 % 60<=59; omega
  . rintro ⟨h1,h2⟩
    have h1:s.Bare=true:=h1
    obtain ⟨c1,c2⟩:=c h1
    rcases h2 with ((h2 | h2) | h2) | h2
    . have h2:u % 86400 / 3600≠0:=h2; omega
    . have h2:u % 86400 / 60 % 60≠0:=h2; omega
    . have h2:u % 86400 % 60≠0:=h2; omega
    . have h2:s.UTC=true:=h2
      rw [c1] at h2; cases h2
 rw [e]
 refine ⟨o7.2 hr,?_,rfl,rfl⟩
 have e2:b8 ⟨ofS (u / 86400+1),u % 86400 / 3600,u % 86400 / 60 % 60,u % 86400 % 60,s.Bare,s.UTC⟩=E2 ⟨ofS (u / 86400+1),u % 86400 / 3600,u % 86400 / 60 % 60,u % 86400 % 60,s.Bare,s.UTC⟩:=if_pos hr
 rw [e2]
 show (z7 (ofS (u / 86400+1))-1) * 86400+u % 86400 / 3600 * 3600+u % 86400 / 60 % 60 * 60+u % 86400 % 60=u
 rw [d2]
 omega
theorem b6a {s:Tm} {r:Rl} (hF:s4 s r) (hb:s.Bare=true):s.UTC=false/\s.Hour=0/\s.Min=0/\s.Sec=0:=by
 obtain ⟨_,_,_,_,h⟩:=o7.1 hF.rt
 have h:¬ (((s.Hour≠0 ∨ s.Min≠0) ∨ s.Sec≠0) ∨ s.UTC=true):=fun e=>h ⟨hb,e⟩
 refine ⟨?_,by omega,by omega,by omega⟩
 rw [<- Bool.not_eq_true]
 exact fun e=>h (.inr e)
theorem c3h {s:Tm} {r:Rl} {c:Int} (hF:s4 s r) (hb:s.Bare=true) (h:c∈E9 s r):c=0:=by
 obtain ⟨k,m,x,⟨_,h1⟩,⟨_,h2⟩,⟨_,h3⟩,e⟩:=a5w.1 h
 obtain ⟨_,b1,b2,b3⟩:=b6a hF hb
 obtain ⟨f,l1,l2,l3⟩:=hF.ba hb
 unfold hB at h1
 unfold mB at h2
 unfold sB at h3
 have e1:(k:Int)=0:=by
  rcases Int.lt_trichotomy (k:Int) 0 with q | q | q
  . omega
  . exact q
  . exact absurd (.inr ⟨⟨l1,by omega⟩,by omega⟩) h1
 have e2:(m:Int)=0:=by
  rcases Int.lt_trichotomy (m:Int) 0 with q | q | q
  . omega
  . exact q
  . exact absurd (.inr ⟨⟨l2,by omega⟩,by omega⟩) h2
 have e3:(x:Int)=0:=by
  rcases h3 with h3 | h3
  . omega
  . rcases h3.2 with q | q
    . omega
    . omega
 omega
section
variable {s:Tm} {r:Rl} {day t u to fr:Int}
theorem b7h (hF:s4 s r) {i:Int} (hl:LoP r i) (h:t∈u9 s r day i):AtP s t/\l6 r t=i:=by
 obtain ⟨⟨_,h2⟩,h3,h4⟩:=X7 hF h
 have h5:=b0l hF hl h
 have h0:=(I2 (r:=r) hl.a).1
 refine ⟨⟨by omega,h5,fun hb=>⟨(b6a hF hb).1,c3h hF hb h2⟩⟩,?_⟩
 have a:=(L5 hl (t:=t) (by omega) h5).1 h3
 have b:¬ i+1<=l6 r t:=fun e=>by
  have:=(L5 (hl.up (j:=i+1) (by omega)) (t:=t) (by omega) h5).2 e
  omega
 omega
theorem a4v (hF:s4 s r):AtP s (b8 s):=by
 obtain ⟨a,b⟩:=s8 hF.rt
 refine ⟨a,b,fun hb=>?_⟩
 obtain ⟨h0,h1,h2,h3⟩:=b6a hF hb
 have e:b8 s=E2 s:=if_pos (o7.1 hF.rt)
 refine ⟨h0,?_⟩
 rw [e]
 unfold E2
 rw [h1,h2,h3]
 omega
structure e1f (s:Tm) (r:Rl) (day to t:Int):Prop where
 a:AtP s t
 b:t<to
 c:t=b8 s ∨ b8 s<t/\∃ j:Int,0<=j/\t∈u9 s r day (l6 r (b8 s)+j * r.Interval)
theorem d0p (hF:s4 s r) (h0:0<=fr) (h:t∈(E4 s r day fr to).1):e1f s r day to t:=by
 obtain ⟨a,b⟩:=s8 hF.rt
 obtain ⟨w0,w1⟩:=a2c hF
 have hI:=F3 hF
 have lo:∀ j:Int,0<=j->LoP r (l6 r (b8 s)+j * r.Interval):=fun j hj=>(V7 (r:=r) a b w0 w1).up (by have:=Int.mul_nonneg hj (show 0<=r.Interval by omega); omega)
 have hk:=(M6 hF h0).1
 rw [(R9 (day:=day) (to:=to) hF hk).1] at h
 rcases List.mem_append.1 h with h | h
 . split at h
   . rename_i hlt
     cases List.mem_singleton.1 h
     exact ⟨a4v hF,hlt,.inl rfl⟩
   . cases h
 . obtain ⟨h1,h2⟩:=List.mem_filter.1 (a8z.subset h)
   have h2:=S4.1 h2
   obtain ⟨j,j0,_,hj⟩:=O9.1 h1
   exact ⟨(b7h hF (lo j (by omega)) hj).1,h2.2.1,.inr ⟨h2.1,j,by omega,hj⟩⟩
theorem e1f.ge (h:e1f s r day to t):b8 s<=t:=by
 rcases h.c with e | e <;> omega
end
end Go.Re
end
section
namespace Go.Re
open Go Go.Wk Go.Wl Go.Rx
def stP (step:Int):Int:=(1:Int)+(step.tmod (60:Int)+(60:Int)).tmod (60:Int)
def stM (n:Int):Int:=(n.tmod (501:Int)+(501:Int)).tmod (501:Int)
def stR (f p:Int):Rl:=Rl.mk f p (0:Int) [] [] [] [] [] [] [] [] [] [] (0:Int)
def stO (s:Tm) (n:Int):Tm:=atS (b8 s+(86400:Int) * stM n) s
noncomputable def stX (s:Tm) (f step n:Int):List Tm×Err:=C7 s (stR f (stP step)) s (etT (stO s n))
def stT (s:Tm) (p k:Int):Tm:=Tm.mk (Dy.mk (s.Day.Year+(s.Day.Month+k * p-(1:Int)).tdiv (12:Int)) ((s.Day.Month+k * p-(1:Int)).tmod (12:Int)+(1:Int)) s.Day.Date) s.Hour s.Min s.Sec (decide (s.Bare=true)) (decide (s.UTC=true))
theorem d1p (step:Int):1<=stP step/\stP step<=60:=by
 unfold stP
 have a:=Int.tmod_lt_of_pos step (show (0:Int)<60 by decide)
 have b:=Int.lt_tmod_of_pos step (show (0:Int)<60 by decide)
 have c:=Int.tmod_lt_of_pos (step.tmod 60+60) (show (0:Int)<60 by decide)
 have d:=Int.tmod_nonneg 60 (show 0<=step.tmod 60+60 by omega)
 omega
theorem c0g (n:Int):0<=stM n/\stM n<=500:=by
 unfold stM
 have a:=Int.tmod_lt_of_pos n (show (0:Int)<501 by decide)
 have b:=Int.lt_tmod_of_pos n (show (0:Int)<501 by decide)
 have c:=Int.tmod_lt_of_pos (n.tmod 501+501) (show (0:Int)<501 by decide)
 have d:=Int.tmod_nonneg 501 (show 0<=n.tmod 501+501 by omega)
 omega
section
variable {s:Tm} {f p t:Int}
theorem a4n (hs:l9 s=true) (f0:1<=f) (f1:f<=3) (p0:1<=p) (p1:p<=60):s4 s (stR f p):=by
 refine ⟨hs,n9.2 ⟨⟨show 0<=f by omega,show f<=6 by omega,p0,show p<=9999 by omega,by show (0:Int)<=0; decide,by show (0:Int)<=9999; decide,by show (0:Int)<=0; decide,by show (0:Int)<=6; decide⟩,⟨by show (0:Int)<=1; decide,fun h=>absurd h (by show ¬ (0:Int)=1; decide)⟩,a2a,by show (0:Int)<=24; decide,⟨fun i h0 h1=>?_,fun i h0 h1=>?_⟩,?_,?_⟩,fun h=>absurd h (by show ¬ (0:Int)<0; decide),fun _=>⟨f1,rfl,rfl,rfl⟩⟩
 . have h1:i<0:=h1; omega
 . have h1:i<0:=h1; omega
 . rintro ((h | h) | h)
   . exact absurd h.2 (by show ¬ (0:Int)<0; decide)
   . exact absurd h.2 (by show ¬ (0:Int)<0; decide)
   . exact absurd h.2 (by show ¬ (0:Int)<0; decide)
 . exact ⟨.inr rfl,by show B6 [] * B6 [] * B6 []<=48; decide⟩
theorem a8i {n dy:Int} (f0:1<=f):M4 s (stR f p) dy n=true↔(f=1->(ofS n).Date=s.Day.Date)/\(f=2->wdS n=wdS dy):=by
 have e:M4 s (stR f p) dy n=decide (L0 s (stR f p) dy n):=rfl
 rw [e,decide_eq_true_iff]
 unfold L0
 rw [if_neg (show ¬ 0<(((stR f p).WeekNo.length:Nat):Int) by show ¬ (0:Int)<0; decide)]
 show ¬ ((f<=1/\_) ∨ ((f=0/\_)/\_))/\(f≠2 ∨ _)↔_
 constructor
 . rintro ⟨h1,h2⟩
   exact ⟨fun h=>Classical.not_not.1 fun e=>h1 (.inl ⟨by omega,e⟩),fun h=>h2.resolve_left fun e=>e h⟩
 . rintro ⟨h1,h2⟩
   refine ⟨fun h=>?_,?_⟩
   . rcases h with h | h
     . exact h.2 (h1 (by omega))
     . omega
   . by_cases e:f=2
     . exact .inr (h2 e)
     . exact .inl e
theorem c0o (hs:l9 s=true):b8 s % 86400=3600 * s.Hour+60 * s.Min+s.Sec:=by
 have hr:=o7.1 hs
 have e:b8 s=E2 s:=if_pos hr
 obtain ⟨_,hh,hm,hx,_⟩:=hr
 rw [e]
 unfold E2
 omega
theorem c3x {c:Int} (hs:l9 s=true) (f1:f<=3):c∈E9 s (stR f p)↔c=b8 s % 86400:=by
 obtain ⟨_,hh,hm,hx,_⟩:=o7.1 hs
 rw [a5w,c0o hs]
 have l1:(((stR f p).Hour.length:Nat):Int)=0:=rfl
 have l2:(((stR f p).Minute.length:Nat):Int)=0:=rfl
 have l3:(((stR f p).Second.length:Nat):Int)=0:=rfl
 have e0:(stR f p).Freq=f:=rfl
 constructor
 . rintro ⟨h,m,x,⟨_,a⟩,⟨_,b⟩,⟨_,d⟩,rfl⟩
   unfold hB at a
   unfold mB at b
   unfold sB at d
   have a1:(h:Int)=s.Hour:=Classical.not_not.1 fun e=>a (.inr ⟨⟨l1,by omega⟩,e⟩)
   have b1:(m:Int)=s.Min:=Classical.not_not.1 fun e=>b (.inr ⟨⟨l2,by omega⟩,e⟩)
   have d1:(x:Int)=s.Sec:=by
    rcases d with d | d
    . omega
    . rcases d.2 with e | e <;> omega
   omega
 . rintro rfl
   refine ⟨s.Hour.toNat,s.Min.toNat,s.Sec.toNat,⟨by omega,?_⟩,⟨by omega,?_⟩,⟨by omega,?_⟩,by omega⟩
   . rintro (e | e)
     . omega
     . exact e.2 (by omega)
   . rintro (e | e)
     . omega
     . exact e.2 (by omega)
   . exact .inr ⟨l3,.inr (by omega)⟩
theorem a3c {i dy:Int} (hF:s4 s (stR f p)) (f1:f<=3) (hl:LoP (stR f p) i):t∈u9 s (stR f p) dy i↔(0<=t/\t<315537897600)/\l6 (stR f p) t=i/\t % 86400=b8 s % 86400/\M4 s (stR f p) dy (t / 86400+1)=true:=by
 constructor
 . intro h
   obtain ⟨a,b⟩:=b7h hF hl h
   obtain ⟨⟨c,d⟩,_⟩:=X7 hF h
   exact ⟨⟨a.a,a.b⟩,b,(c3x hF.rt f1).1 d,c⟩
 . rintro ⟨⟨t0,t1⟩,h1,h2,h3⟩
   show t∈a6g s (stR f p) dy (q7 (stR f p) i) (q7 (stR f p) (i+1))
   refine (b0v hF).2 ⟨⟨h3,(c3x hF.rt f1).2 h2⟩,(L5 hl t0 t1).2 (by omega),?_⟩
   rcases Int.lt_or_le t (q7 (stR f p) (i+1)) with q | q
   . exact q
   . have:=(L5 (hl.up (j:=i+1) (by omega)) t0 t1).1 q; omega
theorem b2k (hF:s4 s (stR f p)) {j:Int} (hj:0<=j):LoP (stR f p) (l6 (stR f p) (b8 s)+j * p):=by
 obtain ⟨s0,s1⟩:=s8 hF.rt
 obtain ⟨w0,w1⟩:=a2c hF
 have hI:=F3 hF
 have hI:1<=p:=hI
 exact (V7 (r:=stR f p) s0 s1 w0 w1).up (by have:=Int.mul_nonneg hj (show 0<=p by omega); omega)
theorem c0h {to:Int} (hF:s4 s (stR f p)):t∈(E4 s (stR f p) (p6 s.Day) (b8 s) to).1↔(t=b8 s/\b8 s<to) ∨ (b8 s<t/\t<to/\t<=315537897600)/\∃ j:Int,0<=j/\j<40000/\t∈u9 s (stR f p) (p6 s.Day) (l6 (stR f p) (b8 s)+j * p):=by
 have h:=(d9o (day:=p6 s.Day) (fr:=0) (m:=b8 s) (to:=to) hF (Int.le_refl 0) (s8 hF.rt).1).1
 have g:∀ fr:Int,0<=fr->(E4 s (stR f p) (p6 s.Day) fr to).1.filter (geB (b8 s))=(E4 s (stR f p) (p6 s.Day) fr to).1:=fun fr h0=>List.filter_eq_self.2 fun t ht=>a50.2 (d0p hF h0 ht).ge
 rw [g _ (Int.le_refl 0),g _ (s8 hF.rt).1] at h
 rw [h]
 exact c8c hF (by show ¬ (0:Int)<0; decide)
def stL (fi q:Int) (c:Nat):List Int:=(List.range c).map fun k:Nat=>fi+86400 * q * (k:Int)
theorem e15 {fi q:Int} {c:Nat} (hq:1<=q):Up (stL fi q c):=by
 unfold stL
 refine List.pairwise_map.2 (List.pairwise_lt_range.imp fun {a b} h=>?_)
 have:=Int.mul_lt_mul_of_pos_left (show (a:Int)<b by omega) (show 0<86400 * q by omega)
 omega
theorem ceil_lt {m q k:Int} (hq:1<=q):k<(m+q-1) / q↔q * k<m:=by
 have h:=Int.le_ediv_iff_mul_le (a:=k+1) (b:=m+q-1) (c:=q) (by omega)
 have e:(k+1) * q=q * k+q:=by rw [Int.add_mul,Int.one_mul,Int.mul_comm]
 constructor
 . intro h1
   have:=h.1 (by omega)
   omega
 . intro h1
   have:=h.2 (by omega)
   omega
theorem d9w {n:Int} (hs:l9 s=true) (hy:s.Day.Year<=9990):l9 (stO s n)=true/\b8 (stO s n)=b8 s+86400 * stM n/\b8 s+86400 * stM n<315537897600:=by
 have hr:=o7.1 hs
 obtain ⟨m0,m1⟩:=c0g n
 have hF:=a4n (f:=3) (p:=1) hs (by decide) (by decide) (by decide) (by decide)
 obtain ⟨a,b,c⟩:=a4v hF
 have lt:b8 s+86400 * stM n<315537897600:=by
  have q:=R5 hr.1
  have q2:=v7 (show s.Day.Year+1<=9991 by omega)
  have q3:j4 9991=3648772:=by decide
  have e:b8 s=E2 s:=if_pos hr
  obtain ⟨_,hh,hm,hx,_⟩:=hr
  rw [e]
  unfold E2
  omega
 have at1:AtP s (b8 s+86400 * stM n):=⟨by omega,lt,fun hb=>⟨(c hb).1,by have:=(c hb).2; omega⟩⟩
 exact ⟨(b4r at1).rt,(b4r at1).se,lt⟩
structure StI (s:Tm) (f p:Int) (o:Tm) (L:List Int):Prop where
 nr:(C7 s (stR f p) s o).2.nr=0
 ls:(C7 s (stR f p) s o).1=L.map fun t=>atS t s
theorem c3k {o:Tm} {L:List Int} (hF:s4 s (stR f p)) (ho:l9 o=true) (hb:b8 o<=q7 (stR f p) (l6 (stR f p) (b8 s)+40000 * p)) (hl:L.length<=1000) (hU:Up L)
  (hm:∀ t,t∈(E4 s (stR f p) (p6 s.Day) (b8 s) (b8 o)).1↔t∈L):StI s f p o L:=by
 have a0:=(s8 hF.rt).1
 have e:=b56 (d3e (day:=p6 s.Day) (to:=b8 o) hF a0) hU hm
 have hf:T8 s (stR f p) (p6 s.Day) (b8 o)=false:=by
  unfold T8
  exact if_pos (.inl hb)
 have ef:frA s s L=L.map fun t=>atS t s:=by
  rw [a8s]
  congr 1
  exact List.filter_eq_self.2 fun t ht=>a50.2 (d0p hF a0 ((hm t).2 ht)).ge
 have hx:d0k s (stR f p) s o:=⟨e1g hF hF.rt ho,hf,c2a hF a0 hf,by
  show ((frA s s (E4 s (stR f p) (p6 s.Day) (b8 s) (b8 o)).1).length:Int)<=1000
  rw [e,ef,List.length_map]; omega⟩
 refine ⟨by rw [c4f hx]; show Err.nil.nr=0; decide,?_⟩
 rw [c4f hx]
 show frA s s (E4 s (stR f p) (p6 s.Day) (b8 s) (b8 o)).1=_
 rw [e,ef]
theorem b6h {q M:Int} {o:Tm} (hF:s4 s (stR f p)) (f1:f<=3) (hq:1<=q) (M0:0<=M) (M1:M<=500) (ho:l9 o=true) (hso:b8 o=b8 s+86400 * M)
  (hb:b8 o<=q7 (stR f p) (l6 (stR f p) (b8 s)+40000 * p))
  (hc:∀ j t:Int,0<=t->t<315537897600->((l6 (stR f p) t=l6 (stR f p) (b8 s)+j * p/\t % 86400=b8 s % 86400/\M4 s (stR f p) (p6 s.Day) (t / 86400+1)=true)↔t=b8 s+86400 * q * j)) :
  StI s f p o (stL (b8 s) q ((M+q-1) / q).toNat):=by
 obtain ⟨s0,s1⟩:=s8 hF.rt
 have o1:=s8 ho
 have c0:=Int.ediv_nonneg (show 0<=M+q-1 by omega) (show 0<=q by omega)
 have c1:(M+q-1) / q<=500:=by
  rcases Int.lt_or_le 500 ((M+q-1) / q) with h | h
  . have:=(ceil_lt (m:=M) hq).1 h
    have:=Int.mul_le_mul_of_nonneg_right hq (show (0:Int)<=500 by decide)
    omega
  . exact h
 refine c3k hF ho hb (by unfold stL; rw [List.length_map,List.length_range]; omega) (e15 hq) fun t=>?_
 rw [c0h hF]
 unfold stL
 rw [List.mem_map]
 have lt:∀ k:Int,86400 * q * k<86400 * M↔k<(M+q-1) / q:=fun k=>by
  rw [ceil_lt hq,Int.mul_assoc]; omega
 constructor
 . rintro (⟨rfl,h⟩ | ⟨⟨h1,h2,_⟩,j,j0,_,hj⟩)
   . have:=(lt 0).1 (by omega)
     exact ⟨0,List.mem_range.2 (by omega),by simp⟩
   . obtain ⟨⟨t0,t1⟩,h3⟩:=(a3c hF f1 (b2k hF j0)).1 hj
     have e:=(hc j t t0 t1).1 h3
     have:=(lt j).1 (by omega)
     refine ⟨j.toNat,List.mem_range.2 (by omega),?_⟩
     rw [show ((j.toNat:Nat):Int)=j by omega]; exact e.symm
 . rintro ⟨k,hk,rfl⟩
   have hk:=List.mem_range.1 hk
   have h1:=(lt k).2 (by omega)
   by_cases e:k=0
   . subst e
     left
     exact ⟨by simp,by have:=h1; simp at this; omega⟩
   . right
     have h2:=Int.mul_pos (show 0<86400 * q by omega) (show (0:Int)<k by omega)
     refine ⟨⟨by omega,by omega,by omega⟩,k,by omega,by omega,(a3c hF f1 (b2k hF (by omega))).2 ⟨⟨by omega,by omega⟩,(hc k _ (by omega) (by omega)).2 rfl⟩⟩
theorem b64 {o:Tm} {M:Int} (hF:s4 s (stR f p)) (ho:l9 o=true) (hso:b8 o=b8 s+86400 * M) (M0:0<=M)
  (hi:∀ t,b8 s<=t->t<b8 o->l6 (stR f p) t<l6 (stR f p) (b8 s)+40000 * p):b8 o<=q7 (stR f p) (l6 (stR f p) (b8 s)+40000 * p):=by
 obtain ⟨s0,s1⟩:=s8 hF.rt
 have o1:=s8 ho
 have hp:1<=p:=F3 hF
 have lo:=b2k hF (show (0:Int)<=40000 by decide)
 rcases Int.lt_or_le (q7 (stR f p) (l6 (stR f p) (b8 s)+40000 * p)) (b8 o) with h | h
 . exfalso
   have b0:=(I2 (r:=stR f p) lo.a).1
   by_cases hz:M=0
   . have:q7 (stR f p) (l6 (stR f p) (b8 s)+40000 * p)<=b8 s:=by omega
     have:=(L5 lo s0 s1).1 this
     omega
   . have h1:=(L5 lo (t:=b8 o-1) (by omega) (by omega)).1 (by omega)
     have:=hi (b8 o-1) (by omega) (by omega)
     omega
 . exact h
end
theorem c9s {s:Tm} (hs:l9 s=true):b8 s / 86400+1=p6 s.Day:=by
 have hr:=o7.1 hs
 have e:b8 s=E2 s:=if_pos hr
 obtain ⟨hd,hh,hm,hx,_⟩:=hr
 have e2:p6 s.Day=z7 s.Day:=if_pos hd
 rw [e,e2]
 unfold E2
 omega
theorem c0v {s o:Tm} {p M:Int} (hs:l9 s=true) (p0:1<=p) (p1:p<=60) (M0:0<=M) (M1:M<=500) (ho:l9 o=true) (hso:b8 o=b8 s+86400 * M):StI s 3 p o (stL (b8 s) p ((M+p-1) / p).toNat):=by
 have hF:=a4n (f:=3) hs (by decide) (by decide) p0 p1
 have ei:∀ t,l6 (stR 3 p) t=t / 86400+1:=fun t=>by
  have e:(stR 3 p).Freq=3:=rfl
  unfold l6 H8
  rw [e,if_neg (by decide),if_neg (by decide),if_neg (by decide),if_pos rfl,if_neg (by decide)]
  omega
 refine b6h hF (by decide) p0 M0 M1 ho hso (b64 hF ho hso M0 fun t h1 h2=>by rw [ei,ei]; omega) fun j t t0 t1=>?_
 rw [ei,ei,a8i (by decide)]
 have e:86400 * p * j=86400 * (j * p):=by rw [Int.mul_assoc,Int.mul_comm p j]
 rw [e]
 generalize j * p=w
 constructor
 . rintro ⟨h1,h2,_⟩; omega
 . rintro rfl
   exact ⟨by omega,by omega,fun h=>absurd h (by decide),fun h=>absurd h (by decide)⟩
theorem c01 {s o:Tm} {p M:Int} (hs:l9 s=true) (p0:1<=p) (p1:p<=60) (M0:0<=M) (M1:M<=500) (ho:l9 o=true) (hso:b8 o=b8 s+86400 * M):StI s 2 p o (stL (b8 s) (7 * p) ((M+7 * p-1) / (7 * p)).toNat):=by
 have hF:=a4n (f:=2) hs (by decide) (by decide) p0 p1
 have fd:=c9s hs
 have ei:∀ t,l6 (stR 2 p) t=(t / 86400+7) / 7:=fun t=>by
  have e:(stR 2 p).Freq=2:=rfl
  have e2:(stR 2 p).Wkst=0:=rfl
  unfold l6 H8
  rw [e,e2,if_neg (by decide),if_neg (by decide),if_pos rfl,if_neg (by decide)]
  omega
 refine b6h hF (by decide) (by omega) M0 M1 ho hso (b64 hF ho hso M0 fun t h1 h2=>by rw [ei,ei]; omega) fun j t t0 t1=>?_
 rw [ei,ei,a8i (by decide),<- fd]
 unfold wdS
 have e:86400 * (7 * p) * j=604800 * (j * p):=by
  rw [show 86400 * (7 * p)=604800 * p by omega,Int.mul_assoc,Int.mul_comm p j]
 rw [e]
 generalize j * p=w
 have s0:=(s8 hs).1
 constructor
 . rintro ⟨h1,h2,_,h3⟩
   have h3:=h3 rfl
   omega
 . rintro rfl
   exact ⟨by omega,by omega,fun h=>absurd h (by decide),fun _=>by omega⟩
theorem b6i {a b I:Int} (hI:1<=I):a * I<b * I↔a<b:=Int.mul_lt_mul_right (by omega)
theorem d09 {y m:Int} (m0:1<=m) (m1:m<=12):28 * (m-1)<=D2 y m/\D2 y m<=31 * (m-1):=by
 have hm:m=1 ∨ m=2 ∨ m=3 ∨ m=4 ∨ m=5 ∨ m=6 ∨ m=7 ∨ m=8 ∨ m=9 ∨ m=10 ∨ m=11 ∨ m=12:=by omega
 unfold D2
 rcases hm with rfl | rfl | rfl | rfl | rfl | rfl | rfl | rfl | rfl | rfl | rfl | rfl <;> (by_cases hl:y % 4=0/\(y % 100≠0 ∨ y % 400=0) <;> simp [hl])
theorem b91 {y k:Int} (hk:0<=k):j4 y+365 * k<=j4 (y+k):=by
 unfold j4
 omega
theorem b53 {d e:Dy} (hd:w8 d) (he:w8 e) (h:z7 e-z7 d<=500):12 * e.Year+e.Month-(12 * d.Year+d.Month)<=20:=by
 obtain ⟨a0,a1,a2,a3,a4,a5⟩:=hd.ym
 obtain ⟨b0,b1,b2,b3,b4,b5⟩:=he.ym
 have c:=d09 (y:=d.Year) a2 a3
 have c2:=d09 (y:=e.Year) b2 b3
 have n1:z7 d=j4 d.Year+D2 d.Year d.Month+d.Date:=rfl
 have n2:z7 e=j4 e.Year+D2 e.Year e.Month+e.Date:=rfl
 rcases Int.lt_or_le 20 (12 * e.Year+e.Month-(12 * d.Year+d.Month)) with q | q
 . exfalso
   have k:=b91 (y:=d.Year) (k:=e.Year-d.Year) (by omega)
   rw [show d.Year+(e.Year-d.Year)=e.Year by omega] at k
   omega
 . exact q
structure StK (s:Tm) (p k:Int) (u:Tm):Prop where
 y:u.Day.Year=(12 * s.Day.Year+s.Day.Month+k * p-1) / 12
 m:u.Day.Month=(12 * s.Day.Year+s.Day.Month+k * p-1) % 12+1
 d:u.Day.Date=s.Day.Date
 h:u.Hour=s.Hour/\u.Min=s.Min/\u.Sec=s.Sec
 b:u.Bare=s.Bare/\u.UTC=s.UTC
theorem a4x {s:Tm} {p k:Int} (hs:l9 s=true) (p0:1<=p) (k0:0<=k):StK s p k (stT s p k):=by
 obtain ⟨hd,_⟩:=o7.1 hs
 obtain ⟨a0,a1,a2,a3,a4,a5⟩:=hd.ym
 have h:=Int.mul_nonneg k0 (show 0<=p by omega)
 have t1:(s.Day.Month+k * p-1).tdiv 12=(s.Day.Month+k * p-1) / 12:=Int.tdiv_eq_ediv_of_nonneg (by omega)
 have t2:(s.Day.Month+k * p-1).tmod 12=(s.Day.Month+k * p-1) % 12:=Int.tmod_eq_emod_of_nonneg (by omega)
 refine ⟨?_,?_,rfl,⟨rfl,rfl,rfl⟩,⟨Bool.decide_eq_true,Bool.decide_eq_true⟩⟩
 . show s.Day.Year+(s.Day.Month+k * p-1).tdiv 12=_
   rw [t1]; omega
 . show (s.Day.Month+k * p-1).tmod 12+1=_
   rw [t2]; omega
theorem a9q {s u:Tm} {p k:Int} (h:StK s p k u):12 * u.Day.Year+u.Day.Month=12 * s.Day.Year+s.Day.Month+k * p:=by
 have:=h.y
 have:=h.m
 omega
def okM (s o:Tm) (p:Int) (k:Nat):Bool:=decide (l9 (stT s p k)=true/\b8 (stT s p k)<b8 o)
def moL (s o:Tm) (p:Int) (n:Nat):List Tm:=((List.range n).filter (okM s o p)).map fun k:Nat=>stT s p k
theorem d1y {s o:Tm} {p:Int} {n:Nat} (h:l9 (stT s p n)=true/\b8 (stT s p n)<b8 o):moL s o p (n+1)=moL s o p n++[stT s p n]:=by
 unfold moL
 rw [List.range_succ,List.filter_append,List.filter_cons_of_pos (show okM s o p n=true from decide_eq_true h),List.filter_nil,List.map_append]
 rfl
theorem e28 {s o:Tm} {p:Int} {n:Nat} (h:¬ (l9 (stT s p n)=true/\b8 (stT s p n)<b8 o)):moL s o p (n+1)=moL s o p n:=by
 unfold moL
 rw [List.range_succ,List.filter_append,List.filter_cons_of_neg (show ¬ okM s o p n=true from fun e=>h (of_decide_eq_true e)),List.filter_nil,List.append_nil]
theorem b5j {s o:Tm} {p:Int} {n:Nat}:(moL s o p n).length<=n:=by
 unfold moL
 rw [List.length_map]
 have:=List.length_filter_le (okM s o p) (List.range n)
 rwa [List.length_range] at this
theorem c6r {s u:Tm} {t:Int} (h:u.Bare=s.Bare/\u.UTC=s.UTC):atS t s=atS t u:=by
 unfold atS
 rw [h.1,h.2]
theorem a0t {s u:Tm} (hs:l9 s=true) (hu:l9 u=true) (h:u.Hour=s.Hour/\u.Min=s.Min/\u.Sec=s.Sec):b8 u=(z7 u.Day-1) * 86400+b8 s % 86400:=by
 have hr:=o7.1 hu
 have e:b8 u=E2 u:=if_pos hr
 rw [c0o hs,e]
 unfold E2
 omega
theorem b4d {s o:Tm} {p M:Int} (hs:l9 s=true) (p0:1<=p) (p1:p<=60) (M0:0<=M) (M1:M<=500) (ho:l9 o=true) (hso:b8 o=b8 s+86400 * M):(C7 s (stR 1 p) s o).2.nr=0/\(C7 s (stR 1 p) s o).1=moL s o p 21:=by
 have hF:=a4n (f:=1) hs (by decide) (by decide) p0 p1
 have hr:=o7.1 hs
 obtain ⟨s0,s1⟩:=s8 hs
 have o1:=s8 ho
 have fd:=c9s hs
 have en:p6 s.Day=z7 s.Day:=if_pos hr.1
 have es:ofS (b8 s / 86400+1)=s.Day:=by rw [fd,en,b5h hr.1]
 have ei:∀ t,l6 (stR 1 p) t=12 * (ofS (t / 86400+1)).Year+(ofS (t / 86400+1)).Month-1:=fun t=>by
  have e:(stR 1 p).Freq=1:=rfl
  unfold l6 H8
  rw [e,if_neg (by decide),if_pos rfl,if_pos rfl]
 have near:∀ t,b8 s<=t->t<b8 o->12 * (ofS (t / 86400+1)).Year+(ofS (t / 86400+1)).Month-(12 * s.Day.Year+s.Day.Month)<=20:=fun t h1 h2=>by
  obtain ⟨d1,d2⟩:=N1 (n:=t / 86400+1) (by omega) (by omega)
  exact b53 hr.1 d1 (by omega)
 have hfar:=b64 hF ho hso M0 fun t h1 h2=>by
  have:=near t h1 h2
  rw [ei,ei,es]; omega
 -- what such a time is
 have sec:∀ k:Int,0<=k->∀ u,StK s p k u->l9 u=true->b8 u % 86400=b8 s % 86400/\b8 u / 86400+1=z7 u.Day/\l6 (stR 1 p) (b8 u)=l6 (stR 1 p) (b8 s)+k * p/\ofS (b8 u / 86400+1)=u.Day:=fun k k0 u hu h=>by
  have e:=a0t hs h hu.h
  have hd:=(o7.1 h).1
  have e1:b8 u / 86400+1=z7 u.Day:=by omega
  have e2:ofS (b8 u / 86400+1)=u.Day:=by rw [e1,b5h hd]
  have e3:=a9q hu
  refine ⟨by omega,e1,?_,e2⟩
  rw [ei,ei,e2,es]; omega
 have up:Up ((moL s o p 21).map b8):=by
  unfold moL
  rw [List.map_map]
  refine List.pairwise_map.2 ((List.pairwise_lt_range.filter _).imp_of_mem fun {a b} ha hb hab=>?_)
  have ga:=(of_decide_eq_true (List.mem_filter.1 ha).2).1
  have gb:=(of_decide_eq_true (List.mem_filter.1 hb).2).1
  have ka:=a4x (k:=a) hs p0 (by omega)
  have kb:=a4x (k:=b) hs p0 (by omega)
  have xa:=a9q ka
  have xb:=a9q kb
  have da:=(o7.1 ga).1
  have db:=(o7.1 gb).1
  have sa:=a0t hs ga ka.h
  have sb:=a0t hs gb kb.h
  have lt:=(b6i (a:=(a:Int)) (b:=b) p0).2 (by omega)
  obtain ⟨y0,y1,m0,m1,d0,d1⟩:=db.ym
  have g:=a48 (d:=(stT s p a).Day) (y:=(stT s p b).Day.Year) (m:=(stT s p b).Day.Month) da y0 y1 m0 m1
  have g2:z7 ⟨(stT s p b).Day.Year,(stT s p b).Day.Month,1⟩<=z7 (stT s p b).Day:=by
   have e1:z7 ⟨(stT s p b).Day.Year,(stT s p b).Day.Month,1⟩=j4 (stT s p b).Day.Year+D2 (stT s p b).Day.Year (stT s p b).Day.Month+1:=rfl
   have e2:z7 (stT s p b).Day=j4 (stT s p b).Day.Year+D2 (stT s p b).Day.Year (stT s p b).Day.Month+(stT s p b).Day.Date:=rfl
   omega
  have g3:¬ z7 ⟨(stT s p b).Day.Year,(stT s p b).Day.Month,1⟩<=z7 (stT s p a).Day:=fun e=>by
   have:=g.1 e; omega
  show b8 (stT s p a)<b8 (stT s p b)
  omega
 have hl:=b5j (s:=s) (o:=o) (p:=p) (n:=21)
 have St:=c3k (L:=(moL s o p 21).map b8) hF ho hfar (by rw [List.length_map]; omega) up fun t=>by
  rw [c0h hF,List.mem_map]
  constructor
  . intro h
    have hk:∃ k:Nat,k<21/\∃ u,StK s p k u/\l9 u=true/\t=b8 u/\t<b8 o:=by
     rcases h with ⟨rfl,h⟩ | ⟨⟨h1,h2,_⟩,j,j0,_,hj⟩
     . obtain ⟨a0,a1,a2,a3,a4,a5⟩:=hr.1.ym
       exact ⟨0,by decide,s,⟨by omega,by omega,rfl,⟨rfl,rfl,rfl⟩,⟨rfl,rfl⟩⟩,hs,rfl,h⟩
     . obtain ⟨⟨t0,t1⟩,h3,h4,h5⟩:=(a3c hF (by decide) (b2k hF j0)).1 hj
       have h5:=((a8i (by decide)).1 h5).1 rfl
       have nt:=near t (by omega) h2
       rw [ei,ei,es] at h3
       obtain ⟨d1,d2⟩:=N1 (n:=t / 86400+1) (by omega) (by omega)
       generalize ofS (t / 86400+1)=D at *
       have jp:=Int.mul_le_mul_of_nonneg_left p0 j0
       obtain ⟨b0,b1,b2,b3,b4,b5⟩:=d1.ym
       obtain ⟨_,q1,q2,q3,q4⟩:=hr
       have rt:O0 ⟨D,s.Hour,s.Min,s.Sec,s.Bare,s.UTC⟩:=⟨d1,q1,q2,q3,q4⟩
       refine ⟨j.toNat,by omega,⟨D,s.Hour,s.Min,s.Sec,s.Bare,s.UTC⟩,⟨?_,?_,h5,⟨rfl,rfl,rfl⟩,⟨rfl,rfl⟩⟩,o7.2 rt,?_,h2⟩
       . rw [show ((j.toNat:Nat):Int)=j by omega]; show D.Year=_; omega
       . rw [show ((j.toNat:Nat):Int)=j by omega]; show D.Month=_; omega
       . have:=a0t (u:=⟨D,s.Hour,s.Min,s.Sec,s.Bare,s.UTC⟩) hs (o7.2 rt) ⟨rfl,rfl,rfl⟩
         have e:z7 (⟨D,s.Hour,s.Min,s.Sec,s.Bare,s.UTC⟩:Tm).Day=z7 D:=rfl
         omega
    obtain ⟨k,k1,u,hu,h3,h4,h5⟩:=hk
    have kt:=a4x (k:=k) hs p0 (by omega)
    have e:stT s p k=u:=b55 ⟨⟨by rw [kt.y,hu.y],by rw [kt.m,hu.m],by rw [kt.d,hu.d],trivial⟩,by rw [kt.h.1,hu.h.1],by rw [kt.h.2.1,hu.h.2.1],by rw [kt.h.2.2,hu.h.2.2],by rw [kt.b.1,hu.b.1],by rw [kt.b.2,hu.b.2],trivial⟩
    subst e
    exact ⟨stT s p k,List.mem_map.2 ⟨k,List.mem_filter.2 ⟨List.mem_range.2 k1,decide_eq_true ⟨h3,by omega⟩⟩,rfl⟩,h4.symm⟩
  . rintro ⟨u,hu,rfl⟩
    obtain ⟨k,hk,rfl⟩:=List.mem_map.1 hu
    obtain ⟨h1,h2⟩:=List.mem_filter.1 hk
    obtain ⟨g1,g2⟩:=of_decide_eq_true h2
    have kt:=a4x (k:=k) hs p0 (by omega)
    obtain ⟨c1,c2,c3,c4⟩:=sec k (by omega) _ kt g1
    have r1:=s8 g1
    by_cases e:k=0
    . subst e
      left
      have e3:b8 (stT s p (0:Nat))=b8 s:=by
       have z:stT s p ((0:Nat):Int)=s:=b55 ⟨⟨by rw [kt.y]; have:=hr.1.ym; omega,by rw [kt.m]; have:=hr.1.ym; omega,kt.d,trivial⟩,kt.h.1,kt.h.2.1,kt.h.2.2,by rw [kt.b.1],by rw [kt.b.2],trivial⟩
       rw [z]
      rw [e3] at g2 ⊢
      exact ⟨rfl,g2⟩
    . right
      have kp:=(b6i (a:=0) (b:=(k:Int)) p0).2 (by omega)
      have hlt:b8 s<b8 (stT s p k):=by
       rcases Int.lt_or_le (b8 s) (b8 (stT s p k)) with q | q
       . exact q
       . have:=a0h (r:=stR 1 p) r1.1 q s1 (by show (0:Int)<=0; decide) (by show (0:Int)<=6; decide); omega
      exact ⟨⟨hlt,g2,by omega⟩,k,by omega,by have:=List.mem_range.1 h1; omega,(a3c hF (by decide) (b2k hF (by omega))).2 ⟨r1,c3,c1,(a8i (by decide)).2 ⟨fun _=>by rw [c4]; exact kt.d,fun h=>absurd h (by decide)⟩⟩⟩
 refine ⟨St.nr,?_⟩
 rw [St.ls,List.map_map]
 have id:∀ u∈moL s o p 21,((fun t=>atS t s) ∘ b8) u=u:=fun u hu=>by
  obtain ⟨k,hk,rfl⟩:=List.mem_map.1 hu
  have g1:=(of_decide_eq_true (List.mem_filter.1 hk).2).1
  have kt:=a4x (k:=k) hs p0 (by omega)
  show atS (b8 (stT s p k)) s=_
  rw [c6r kt.b,c93 (o7.1 g1)]
 rw [List.map_congr_left id]
 exact List.map_id' ..
end Go.Re
end
section
namespace Go.Proofs.YtdjfeninmbpflaaGreat
open Go Go.Wk Go.Wl Go.Rx Go.Re 
attribute [local irreducible] i6
def c41:Nat->Ann:=fun | 6=>⟨195,fun | 25=>some ⟨[1,3,7,12],[.slot 18 (.acc 25),.slot 19 (.int .i64)]⟩ | 18=>some ⟨[1,3,7,12,125,126],[.slot 127 (.int .i64)]⟩ | 12=>some ⟨[1,3,7,10,12,107,108],[.slot 109 (.int .i64)]⟩ | _=>none,fun _=>none⟩ | _=>⟨0,fun _=>none,fun _=>none⟩
def VlS (s:Tm) (step:Int) (n:Int) (Q:Bool->Prop):Prop :=
(60:Int)≠0/\b9 (step.tmod (60:Int)+60)/\(60:Int)≠0/\b9 (stP step)/\(501:Int)≠0/\b9 (n.tmod (501:Int)+501)/\(501:Int)≠0/\(¬l9 (etT s)=true ∨ (9990:Int)<s.Day.Year->Q (decide (true=true)))/\(¬(¬l9 (etT s)=true ∨ (9990:Int)<s.Day.Year)->b9 ((86400:Int) * stM n)/\b9 (b8 (etT s)+86400 * stM n)/\B9 (stR (3:Int) (stP step))=true/\B9 (stR (2:Int) (stP step))=true/\B9 (stR (1:Int) (stP step))=true/\b9 ((stX (etT s) (3:Int) step n).snd.nr+(stX (etT s) (2:Int) step n).snd.nr)/\b9 ((stX (etT s) (3:Int) step n).snd.nr+(stX (etT s) (2:Int) step n).snd.nr+(stX (etT s) (1:Int) step n).snd.nr)/\(¬(stX (etT s) (3:Int) step n).snd.nr+(stX (etT s) (2:Int) step n).snd.nr+(stX (etT s) (1:Int) step n).snd.nr≠0->b9 (stM n+(stP step)))/\(¬(stX (etT s) (3:Int) step n).snd.nr+(stX (etT s) (2:Int) step n).snd.nr+(stX (etT s) (1:Int) step n).snd.nr≠0->b9 (stM n+(stP step)-1))/\(¬(stX (etT s) (3:Int) step n).snd.nr+(stX (etT s) (2:Int) step n).snd.nr+(stX (etT s) (1:Int) step n).snd.nr≠0->stP step≠0)/\(¬(stX (etT s) (3:Int) step n).snd.nr+(stX (etT s) (2:Int) step n).snd.nr+(stX (etT s) (1:Int) step n).snd.nr≠0->b9 ((stM n+(stP step)-1).tdiv (stP step)))/\(¬((stX (etT s) (3:Int) step n).snd.nr+(stX (etT s) (2:Int) step n).snd.nr+(stX (etT s) (1:Int) step n).snd.nr≠0 ∨ (↑(stX (etT s) (3:Int) step n).fst.length:Int)≠(stM n+(stP step)-1).tdiv (stP step))->b9 ((7:Int) * (stP step)))/\(¬((stX (etT s) (3:Int) step n).snd.nr+(stX (etT s) (2:Int) step n).snd.nr+(stX (etT s) (1:Int) step n).snd.nr≠0 ∨ (↑(stX (etT s) (3:Int) step n).fst.length:Int)≠(stM n+(stP step)-1).tdiv (stP step))->b9 (stM n+7 * (stP step)))/\(¬((stX (etT s) (3:Int) step n).snd.nr+(stX (etT s) (2:Int) step n).snd.nr+(stX (etT s) (1:Int) step n).snd.nr≠0 ∨ (↑(stX (etT s) (3:Int) step n).fst.length:Int)≠(stM n+(stP step)-1).tdiv (stP step))->b9 (stM n+7 * (stP step)-1))/\(¬((stX (etT s) (3:Int) step n).snd.nr+(stX (etT s) (2:Int) step n).snd.nr+(stX (etT s) (1:Int) step n).snd.nr≠0 ∨ (↑(stX (etT s) (3:Int) step n).fst.length:Int)≠(stM n+(stP step)-1).tdiv (stP step))->b9 ((7:Int) * (stP step)))/\(¬((stX (etT s) (3:Int) step n).snd.nr+(stX (etT s) (2:Int) step n).snd.nr+(stX (etT s) (1:Int) step n).snd.nr≠0 ∨ (↑(stX (etT s) (3:Int) step n).fst.length:Int)≠(stM n+(stP step)-1).tdiv (stP step))->(7:Int) * (stP step)≠0)/\(¬((stX (etT s) (3:Int) step n).snd.nr+(stX (etT s) (2:Int) step n).snd.nr+(stX (etT s) (1:Int) step n).snd.nr≠0 ∨ (↑(stX (etT s) (3:Int) step n).fst.length:Int)≠(stM n+(stP step)-1).tdiv (stP step))->b9 ((stM n+7 * (stP step)-1).tdiv ((7:Int) * (stP step))))/\(((stX (etT s) (3:Int) step n).snd.nr+(stX (etT s) (2:Int) step n).snd.nr+(stX (etT s) (1:Int) step n).snd.nr≠0 ∨ (↑(stX (etT s) (3:Int) step n).fst.length:Int)≠(stM n+(stP step)-1).tdiv (stP step)) ∨ (↑(stX (etT s) (2:Int) step n).fst.length:Int)≠(stM n+7 * (stP step)-1).tdiv ((7:Int) * (stP step))->Q false)/\(¬(((stX (etT s) (3:Int) step n).snd.nr+(stX (etT s) (2:Int) step n).snd.nr+(stX (etT s) (1:Int) step n).snd.nr≠0 ∨ (↑(stX (etT s) (3:Int) step n).fst.length:Int)≠(stM n+(stP step)-1).tdiv (stP step)) ∨ (↑(stX (etT s) (2:Int) step n).fst.length:Int)≠(stM n+7 * (stP step)-1).tdiv ((7:Int) * (stP step)))->∃ (I:Int->Prop),∃ (m:Int->Nat),I (0:Int)/\∀ (x:Int),I x->(x<(↑(stX (etT s) (3:Int) step n).fst.length:Int)->(0:Int)<=x/\x<(↑(stX (etT s) (3:Int) step n).fst.length:Int)/\(b9 (ix (stX (etT s) (3:Int) step n).fst x).Day.Year->b9 (ix (stX (etT s) (3:Int) step n).fst x).Day.Month->b9 (ix (stX (etT s) (3:Int) step n).fst x).Day.Date->b9 (ix (stX (etT s) (3:Int) step n).fst x).Hour->b9 (ix (stX (etT s) (3:Int) step n).fst x).Min->b9 (ix (stX (etT s) (3:Int) step n).fst x).Sec->b9 ((86400:Int) * (stP step))/\b9 ((86400:Int) * (stP step) * x)/\b9 (b8 (etT s)+86400 * (stP step) * x)/\(b8 (etT (ix (stX (etT s) (3:Int) step n).fst x))≠b8 (etT s)+86400 * (stP step) * x->Q false)/\(¬b8 (etT (ix (stX (etT s) (3:Int) step n).fst x))≠b8 (etT s)+86400 * (stP step) * x->b9 (x+1)/\I (x+1)/\m (x+1)<m x)))/\(¬x<(↑(stX (etT s) (3:Int) step n).fst.length:Int)->∃ (I:Int->Prop),∃ (m:Int->Nat),I (0:Int)/\∀ (x:Int),I x->(x<(↑(stX (etT s) (2:Int) step n).fst.length:Int)->(0:Int)<=x/\x<(↑(stX (etT s) (2:Int) step n).fst.length:Int)/\(b9 (ix (stX (etT s) (2:Int) step n).fst x).Day.Year->b9 (ix (stX (etT s) (2:Int) step n).fst x).Day.Month->b9 (ix (stX (etT s) (2:Int) step n).fst x).Day.Date->b9 (ix (stX (etT s) (2:Int) step n).fst x).Hour->b9 (ix (stX (etT s) (2:Int) step n).fst x).Min->b9 (ix (stX (etT s) (2:Int) step n).fst x).Sec->b9 ((604800:Int) * (stP step))/\b9 ((604800:Int) * (stP step) * x)/\b9 (b8 (etT s)+604800 * (stP step) * x)/\(b8 (etT (ix (stX (etT s) (2:Int) step n).fst x))≠b8 (etT s)+604800 * (stP step) * x->Q false)/\(¬b8 (etT (ix (stX (etT s) (2:Int) step n).fst x))≠b8 (etT s)+604800 * (stP step) * x->b9 (x+1)/\I (x+1)/\m (x+1)<m x)))/\(¬x<(↑(stX (etT s) (2:Int) step n).fst.length:Int)->∃ (I:List Tm->Int->Prop),∃ (m:List Tm->Int->Nat),I [] (0:Int)/\∀ (x:List Tm) (x_1:Int),I x x_1->(x_1<=20->b9 (x_1 * (stP step))/\b9 (s.Day.Month+x_1 * (stP step))/\b9 (s.Day.Month+x_1 * (stP step)-1)/\(12:Int)≠0/\b9 ((s.Day.Month+x_1 * (stP step)-1).tdiv (12:Int))/\b9 (s.Day.Year+(s.Day.Month+x_1 * (stP step)-1).tdiv (12:Int))/\b9 (s.Day.Month+x_1 * (stP step)-1)/\(12:Int)≠0/\b9 ((s.Day.Month+x_1 * (stP step)-1).tmod (12:Int)+1)/\(l9 (stT s (stP step) x_1)=true/\b8 (stT s (stP step) x_1)<b8 (etT (stO (etT s) n))->(x.length+[stT s (stP step) x_1].length) * (some (56:Nat)).getD (0:Nat)<=140737488355328/\b9 (x_1+1)/\I (x++[stT s (stP step) x_1]) (x_1+1)/\m (x++[stT s (stP step) x_1]) (x_1+1)<m x x_1)/\(¬(l9 (stT s (stP step) x_1)=true/\b8 (stT s (stP step) x_1)<b8 (etT (stO (etT s) n)))->b9 (x_1+1)/\I x (x_1+1)/\m x (x_1+1)<m x x_1))/\(¬x_1<=20->(stX (etT s) (1:Int) step n).fst.length<=10000000/\Q (decide (W3 (stX (etT s) (1:Int) step n).fst x=true/\true=true)))))))
theorem d4s {s:Tm} {step:Int} {n:Int} {Q:Bool->Prop}:@Eq Prop (VlS s step n Q) (i6 (E:=Nln) (j7 Nln H0 c41 2) (c41 6) Tryz.f6 [.agg [.int .i64 s.Day.Year,.int .i64 s.Day.Month,.int .i64 s.Day.Date,.int .i64 s.Hour,.int .i64 s.Min,.int .i64 s.Sec,blB s.Bare,blB s.UTC],.int .i64 step,.int .i64 n] [] [] 0 (m9 Nln [.bool] Q)):=by kernel_rfl
theorem d5j {s:Tm} {step:Int} {n:Int} {Q:Bool->Prop} (h:VlS s step n Q):i6 (E:=Nln) (j7 Nln H0 c41 2) (c41 6) Tryz.f6 [.agg [.int .i64 s.Day.Year,.int .i64 s.Day.Month,.int .i64 s.Day.Date,.int .i64 s.Hour,.int .i64 s.Min,.int .i64 s.Sec,blB s.Bare,blB s.UTC],.int .i64 step,.int .i64 n] [] [] 0 (m9 Nln [.bool] Q):=by rw [<- d4s]; exact h
set_option maxHeartbeats 2000000 in
theorem plS (s:Tm) (step:Int) (n:Int)  : VlS s step n (fun y0=>y0=true):=by
 unfold VlS stX
 simp only [a4d]
 obtain ⟨P0,P1⟩:=d1p step
 obtain ⟨M0,M1⟩:=c0g n
 have t1:=Int.tmod_lt_of_pos step (show (0:Int)<60 by decide)
 have t2:=Int.lt_tmod_of_pos step (show (0:Int)<60 by decide)
 have t3:=Int.tmod_lt_of_pos n (show (0:Int)<501 by decide)
 have t4:=Int.lt_tmod_of_pos n (show (0:Int)<501 by decide)
 refine ⟨by decide,⟨by omega,by omega⟩,by decide,⟨by omega,by omega⟩,by decide,⟨by omega,by omega⟩,by decide,fun _=>rfl,fun h=>?_⟩
 have hs:l9 s=true:=Classical.not_not.1 fun e=>h (.inl e)
 have hy:s.Day.Year<=9990:=by
  rcases Int.lt_or_le 9990 s.Day.Year with e | e
  . exact absurd (.inr e) h
  . exact e
 obtain ⟨o1,o2,o3⟩:=d9w (n:=n) hs hy
 obtain ⟨s0,s1⟩:=s8 hs
 have D:=c0v hs P0 P1 M0 M1 o1 o2
 have W:=c01 hs P0 P1 M0 M1 o1 o2
 obtain ⟨mo1,mo2⟩:=b4d hs P0 P1 M0 M1 o1 o2
 obtain ⟨hd,_⟩:=o7.1 hs
 obtain ⟨d0,d1,d2,d3,d4,d5⟩:=hd.ym
 have hF3:=a4n (f:=3) hs (by decide) (by decide) P0 P1
 generalize stP step=p at *
 generalize stM n=M at *
 generalize stO s n=o at *
 rw [D.nr,D.ls,W.nr,W.ls,mo1,mo2]
 have fw:∀ f:Int,B9 (stR f p)=true:=fun f=>by kernel_rfl
 have ln:∀ q:Int,((((stL (b8 s) q ((M+q-1) / q).toNat).map fun t=>atS t s).length:Nat):Int)=(((M+q-1) / q).toNat:Nat):=fun q=>by
  unfold stL
  rw [List.length_map,List.length_map,List.length_range]
 have cq:∀ q:Int,1<=q->0<=(M+q-1) / q/\(M+q-1) / q<=500/\(M+q-1).tdiv q=(M+q-1) / q:=fun q hq=>by
  refine ⟨Int.ediv_nonneg (by omega) (by omega),?_,Int.tdiv_eq_ediv_of_nonneg (by omega)⟩
  rcases Int.lt_or_le 500 ((M+q-1) / q) with e | e
  . have:=(ceil_lt (m:=M) hq).1 e
    have:=Int.mul_le_mul_of_nonneg_right hq (show (0:Int)<=500 by decide)
    omega
  . exact e
 have at1:∀ q x:Int,1<=q->0<=x->x<(((stL (b8 s) q ((M+q-1) / q).toNat).map fun t=>atS t s).length:Nat)->b8 (ix ((stL (b8 s) q ((M+q-1) / q).toNat).map fun t=>atS t s) x)=b8 s+86400 * q * x/\86400 * q * x<=86400 * 500/\0<=86400 * q * x:=fun q x hq x0 x1=>by
  rw [ln] at x1
  have hc:=(ceil_lt (m:=M) (k:=x) hq).1 (by omega)
  have hp:=Int.mul_nonneg (show 0<=86400 * q by omega) x0
  have ha:86400 * q * x=86400 * (q * x):=Int.mul_assoc ..
  have e:ix ((stL (b8 s) q ((M+q-1) / q).toNat).map fun t=>atS t s) x=atS (b8 s+86400 * q * x) s:=by
   unfold stL
   rw [A8 (by rw [List.length_map,List.length_map,List.length_range]; omega),List.getElem_map,List.getElem_map,List.getElem_range,show ((x.toNat:Nat):Int)=x by omega]
  rw [e]
  have c:=(a4v hF3).c
  exact ⟨(b4r ⟨by omega,by omega,fun hb=>⟨(c hb).1,by have:=(c hb).2; omega⟩⟩).se,by omega,hp⟩
 obtain ⟨c0,c1,c2⟩:=cq p P0
 obtain ⟨e0,e1,e2⟩:=cq (7 * p) (by omega)
 have l1:=ln p
 have l2:=ln (7 * p)
 have a1:=fun x=>at1 p x P0
 have a2:=fun x=>at1 (7 * p) x (by omega)
 clear at1 ln cq mo1 mo2 D W
 generalize (stL (b8 s) p ((M+p-1) / p).toNat).map (fun t=>atS t s)=LD at *
 generalize (stL (b8 s) (7 * p) ((M+7 * p-1) / (7 * p)).toNat).map (fun t=>atS t s)=LW at *
 rw [c2,e2]
 refine ⟨⟨by omega,by omega⟩,⟨by omega,by omega⟩,fw 3,fw 2,fw 1,⟨by decide,by decide⟩,⟨by decide,by decide⟩,fun _=>⟨by omega,by omega⟩,fun _=>⟨by omega,by omega⟩,fun _=>by omega,fun _=>⟨by omega,by omega⟩,fun _=>⟨by omega,by omega⟩,fun _=>⟨by omega,by omega⟩,fun _=>⟨by omega,by omega⟩,fun _=>⟨by omega,by omega⟩,fun _=>by omega,fun _=>⟨by omega,by omega⟩,fun hb=>?_,fun _=>?_⟩
 . exfalso
   rcases hb with (hb | hb) | hb
   . exact hb (by decide)
   . omega
   . omega
 refine ⟨fun x=>0<=x/\x<=(LD.length:Int),fun x=>((LD.length:Int)-x).toNat,⟨Int.le_refl 0,by omega⟩,?_⟩
 rintro x ⟨x0,x1⟩
 refine ⟨fun hx=>⟨x0,hx,fun _ _ _ _ _ _=>?_⟩,fun _=>?_⟩
 . obtain ⟨q1,q2,q3⟩:=a1 x x0 hx
   exact ⟨⟨by omega,by omega⟩,⟨by omega,by omega⟩,⟨by omega,by omega⟩,fun hn=>absurd q1 hn,fun _=>⟨⟨by omega,by omega⟩,⟨by omega,by omega⟩,by show (_:Int).toNat<(_:Int).toNat; omega⟩⟩
 refine ⟨fun x=>0<=x/\x<=(LW.length:Int),fun x=>((LW.length:Int)-x).toNat,⟨Int.le_refl 0,by omega⟩,?_⟩
 rintro x ⟨x0,x1⟩
 refine ⟨fun hx=>⟨x0,hx,fun _ _ _ _ _ _=>?_⟩,fun _=>?_⟩
 . obtain ⟨q1,q2,q3⟩:=a2 x x0 hx
   rw [show 86400 * (7 * p)=604800 * p by omega] at q1 q2 q3
   exact ⟨⟨by omega,by omega⟩,⟨by omega,by omega⟩,⟨by omega,by omega⟩,fun hn=>absurd q1 hn,fun _=>⟨⟨by omega,by omega⟩,⟨by omega,by omega⟩,by show (_:Int).toNat<(_:Int).toNat; omega⟩⟩
 refine ⟨fun y k=>0<=k/\k<=21/\y=moL s o p k.toNat,fun _ k=>(21-k).toNat,⟨Int.le_refl 0,by decide,rfl⟩,?_⟩
 rintro y k ⟨k0,k1,rfl⟩
 have hl:=b5j (s:=s) (o:=o) (p:=p) (n:=k.toNat)
 refine ⟨fun hk=>?_,fun hk=>⟨?_,?_⟩⟩
 . have kp:=Int.mul_le_mul hk P1 (by omega) (by decide)
   have kq:=Int.mul_nonneg k0 (show 0<=p by omega)
   have td:=Int.tdiv_eq_ediv_of_nonneg (a:=s.Day.Month+k * p-1) (b:=12) (by omega)
   have tm:=Int.tmod_eq_emod_of_nonneg (a:=s.Day.Month+k * p-1) (b:=12) (by omega)
   have ek:((k.toNat:Nat):Int)=k:=by omega
   have en:(k+1).toNat=k.toNat+1:=by omega
   refine ⟨⟨by omega,by omega⟩,⟨by omega,by omega⟩,⟨by omega,by omega⟩,by decide,⟨by omega,by omega⟩,⟨by omega,by omega⟩,⟨by omega,by omega⟩,by decide,⟨by omega,by omega⟩,fun hy=>⟨?_,⟨by omega,by omega⟩,⟨by omega,by omega,?_⟩,by show (_:Int).toNat<(_:Int).toNat; omega⟩,fun hn=>⟨⟨by omega,by omega⟩,⟨by omega,by omega,?_⟩,by show (_:Int).toNat<(_:Int).toNat; omega⟩⟩
   . show (_+1) * 56<=140737488355328
     omega
   . have:=d1y (s:=s) (o:=o) (p:=p) (n:=k.toNat) (by rw [ek]; exact hy)
     rw [en,this,ek]
   . have:=e28 (s:=s) (o:=o) (p:=p) (n:=k.toNat) (by rw [ek]; exact hn)
     rw [en,this]
 . have:=b5j (s:=s) (o:=o) (p:=p) (n:=21)
   omega
 . rw [show k.toNat=21 by omega]
   exact decide_eq_true ⟨decide_eq_true rfl,trivial⟩
end Go.Proofs.YtdjfeninmbpflaaGreat
end
section
namespace Go.Proofs.YtdjfeninmbpflaaGreat
open Go Go.Wk Go.Wl Go.Rx Go.RowKit Go.ChangeShapes Go.WideShapes Go.Re
theorem e26:laidOutB Tryz.prog=true:=by kernel_rfl
theorem e40:ownKnob Tryz.prog.godebug=none:=by kernel_rfl
theorem e3e {P:Program} {ts:List TypeId} (h:(ts.all fun t=>P.readableRec t && decide (t<P.types.size))=true):∀ t∈ts,P.readableRec t=true/\t<P.types.size:=fun t ht=>by
 have:=List.all_eq_true.1 h t ht
 rw [Bool.and_eq_true,decide_eq_true_eq] at this
 exact this
theorem b98:a5l Tryz.prog 23 dDy:=fun {H enc fuel w sp cs x} h=>by
 obtain ⟨xs,n,_,_,hlen,hxl,hget⟩:=DataW.trod_struct Tryz.underlying23 h
 have hz:Tryz.prog.cellsOf 23=3:=by kernel_rfl
 rw [hz] at hlen
 have z3:Tryz.prog.cellsOf 3=1:=by kernel_rfl
 have g0:DataW.trod enc Tryz.prog w 0 sp true n 3 ((cs.drop 0).take (Tryz.prog.cellsOf 3))=xs[0]? := hget 0 _ rfl
 rw [List.getElem?_eq_getElem (by rw [hxl]; decide),z3] at g0
 obtain ⟨y0,k0⟩:=(D8 Tryz.underlying3) g0
 have g1:DataW.trod enc Tryz.prog w 0 sp true n 3 ((cs.drop 1).take (Tryz.prog.cellsOf 3))=xs[1]? := hget 1 _ rfl
 rw [List.getElem?_eq_getElem (by rw [hxl]; decide),z3] at g1
 obtain ⟨y1,k1⟩:=(D8 Tryz.underlying3) g1
 have g2:DataW.trod enc Tryz.prog w 0 sp true n 3 ((cs.drop 2).take (Tryz.prog.cellsOf 3))=xs[2]? := hget 2 _ rfl
 rw [List.getElem?_eq_getElem (by rw [hxl]; decide),z3] at g2
 obtain ⟨y2,k2⟩:=(D8 Tryz.underlying3) g2
 have q:cs=(cs.drop 0).take (1+(1+(1))):=c5q hlen
 exact ⟨⟨y0,y1,y2⟩,_,_,_,q.trans (Z9.trans (congrArg _ Z9)),k0,k1,k2⟩
theorem b9o:a5l Tryz.prog 25 dTm:=fun {H enc fuel w sp cs x} h=>by
 obtain ⟨xs,n,_,_,hlen,hxl,hget⟩:=DataW.trod_struct Tryz.underlying25 h
 have hz:Tryz.prog.cellsOf 25=8:=by kernel_rfl
 rw [hz] at hlen
 have z3:Tryz.prog.cellsOf 3=1:=by kernel_rfl
 have z4:Tryz.prog.cellsOf 4=1:=by kernel_rfl
 have z23:Tryz.prog.cellsOf 23=3:=by kernel_rfl
 have g0:DataW.trod enc Tryz.prog w 0 sp true n 23 ((cs.drop 0).take (Tryz.prog.cellsOf 23))=xs[0]? := hget 0 _ rfl
 rw [List.getElem?_eq_getElem (by rw [hxl]; decide),z23] at g0
 obtain ⟨y0,k0⟩:=b98 g0
 have g1:DataW.trod enc Tryz.prog w 0 sp true n 3 ((cs.drop 3).take (Tryz.prog.cellsOf 3))=xs[1]? := hget 1 _ rfl
 rw [List.getElem?_eq_getElem (by rw [hxl]; decide),z3] at g1
 obtain ⟨y1,k1⟩:=(D8 Tryz.underlying3) g1
 have g2:DataW.trod enc Tryz.prog w 0 sp true n 3 ((cs.drop 4).take (Tryz.prog.cellsOf 3))=xs[2]? := hget 2 _ rfl
 rw [List.getElem?_eq_getElem (by rw [hxl]; decide),z3] at g2
 obtain ⟨y2,k2⟩:=(D8 Tryz.underlying3) g2
 have g3:DataW.trod enc Tryz.prog w 0 sp true n 3 ((cs.drop 5).take (Tryz.prog.cellsOf 3))=xs[3]? := hget 3 _ rfl
 rw [List.getElem?_eq_getElem (by rw [hxl]; decide),z3] at g3
 obtain ⟨y3,k3⟩:=(D8 Tryz.underlying3) g3
 have g4:DataW.trod enc Tryz.prog w 0 sp true n 4 ((cs.drop 6).take (Tryz.prog.cellsOf 4))=xs[4]? := hget 4 _ rfl
 rw [List.getElem?_eq_getElem (by rw [hxl]; decide),z4] at g4
 obtain ⟨y4,k4⟩:=(a2l Tryz.underlying4) g4
 have g5:DataW.trod enc Tryz.prog w 0 sp true n 4 ((cs.drop 7).take (Tryz.prog.cellsOf 4))=xs[5]? := hget 5 _ rfl
 rw [List.getElem?_eq_getElem (by rw [hxl]; decide),z4] at g5
 obtain ⟨y5,k5⟩:=(a2l Tryz.underlying4) g5
 have q:cs=(cs.drop 0).take (3+(1+(1+(1+(1+(1)))))):=c5q hlen
 exact ⟨⟨y0,y1,y2,y3,y4,y5⟩,_,_,_,_,_,_,q.trans (Z9.trans (congrArg _ (Z9.trans (congrArg _ (Z9.trans (congrArg _ (Z9.trans (congrArg _ Z9)))))))),k0,k1,k2,k3,k4,k5⟩
theorem c06 {Z:Nat->Prop} {W:World} {v:Value} (h:Rep U eT (fun _=>none) Z W v (blB true)):v=.bool true:=by
 cases h with | bl=>rfl
theorem d3l {v:Value} {n:Nat} (h:v.cells.toList.length=n+2):∃ cs:List Value,v=.agg cs.toArray/\v.cells.toList=cs:=by
 cases v with
 | agg cs=>exact ⟨cs.toList,by simp,rfl⟩
 | _=>simp [Value.cells] at h
theorem e2l {H:Type} {enc:TypeId×Value->H} {W:World} {sp:Nat->Bool} {v:Value} {d:DataW H} {ps:List MemPlace} (h:DataW.Trod enc Tryz.prog W 0 sp true 25 v d ps):∃ y:Tm,Rep U eT (fun _=>none) (fun b=>b<W.heap.size) W v (.agg [.int .i64 y.Day.Year,.int .i64 y.Day.Month,.int .i64 y.Day.Date,.int .i64 y.Hour,.int .i64 y.Min,.int .i64 y.Sec,blB y.Bare,blB y.UTC]):=by
 obtain ⟨n,h⟩:=h
 obtain ⟨y,k⟩:=b9o h
 have k:=Rd.weak (D':=fun b=>b<W.heap.size) _ k (fun _ _ hb=>hb)
 obtain ⟨cs,e1,e2⟩:=d3l (n:=6) (Rd.len _ k)
 rw [e2] at k
 exact ⟨y,by rw [e1]; exact y25.sv_ok k⟩
end Go.Proofs.YtdjfeninmbpflaaGreat
end
