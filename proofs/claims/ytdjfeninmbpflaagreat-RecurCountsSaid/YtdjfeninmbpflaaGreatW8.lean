/- 14 texts, one behind the other. -/
import Derived.Test.YtdjfeninmbpflaaGreatW7
import Derived.Test.YtdjfeninmbpflaaGreatW4
import Derived.Test.YtdjfeninmbpflaaGreatRows
import Derived.Test.YtdjfeninmbpflaaGreatW1
import Derived.ChangeSame
import Derived.ChangeVars
import Derived.JoinedOf
import Derived.RowKit
import Derived.RowKit2
import Derived.Carry
import Derived.ProofKit
set_option linter.unusedVariables false
set_option linter.unusedSimpArgs false
set_option maxRecDepth 100000
section
namespace Go.Proofs.YtdjfeninmbpflaaGreat
open Go Go.Wk Go.Wl Go.Rx Go.Re 
attribute [local irreducible] i6
def c4u:Nat->Ann:=fun | 13=>⟨61,fun _=>none,fun _=>none⟩ | 34=>⟨171,fun | 16=>some ⟨[0,2,3,9,11,14],[.slot 10 (.int .i64),.slot 15 (.int .i64),.own 2000003 [.acc 25]]⟩ | 23=>some ⟨[0,2,3,9,11,14,15,130,131],[.slot 10 (.int .i64),.slot 132 (.int .i64),.own 2000003 [.acc 25]]⟩ | 7=>some ⟨[0,1,2,3,9,10,42,43],[.slot 11 (.int .i64),.slot 44 (.int .i64)]⟩ | _=>none,fun | 5=>some ⟨[0,1,2,3,9,10],[.own 2000003 [.acc 25]]⟩ | 16=>some ⟨[0,2,3,9,10,11,14],[.slot 15 (.int .i64)]⟩ | _=>none⟩ | 35=>⟨18,fun _=>none,fun _=>none⟩ | _=>⟨0,fun _=>none,fun _=>none⟩
def M8 (s:Tm) (r:Rl) (x_4:Int):=w7 (etT s) (etR r) (p7 (etD s.Day)) (q9 (etR r) (i4 (etT (etT s)))+x_4 * r.Interval)
def b9v (r:Rl) (a:Tm) (s:Tm):=q9 (etR r) (bif false then max (i4 (etT a)) (315537897599:Int) else min (i4 (etT a)) (315537897599:Int))-q9 (etR r) (i4 (etT (etT s)))
def Vex (s:Tm) (r:Rl) (a:Tm) (b:Tm) (Q:List Tm->Err->Prop):Prop :=
C1 (etR r)=true/\((¬E4 (etT s) (etR r)=true ∨ ¬q7 (etT a)=true) ∨ ¬q7 (etT b)=true->Q [] (Err.no (2:Int)))/\(¬((¬E4 (etT s) (etR r)=true ∨ ¬q7 (etT a)=true) ∨ ¬q7 (etT b)=true)->C1 (etR r)=true/\E4 (etT s) (etR r)=true/\(b2u (Q2 (etT s) (etR r) (p7 (etD s.Day)) (i4 (etT b)))≠Err.nil->((b2u (Q2 (etT s) (etR r) (p7 (etD s.Day)) (i4 (etT b)))).is (5:Int) ∨ b2u (Q2 (etT s) (etR r) (p7 (etD s.Day)) (i4 (etT b)))=Err.nil)/\Q [] (K7 (b2u (Q2 (etT s) (etR r) (p7 (etD s.Day)) (i4 (etT b))))))/\(¬b2u (Q2 (etT s) (etR r) (p7 (etD s.Day)) (i4 (etT b)))≠Err.nil->∃ (J:List Tm->Prop),((i4 (etT (etT s))<i4 (etT b)/\(0:Int)<=i4 (etT (etT s))->(i4 (etT a)<=i4 (etT (etT s))->i4 (etT (etT s))<=9000000000000000000/\[etT (atS (i4 (etT (etT s))) (etT s))].length * (some (56:Nat)).getD (0:Nat)<=140737488355328/\(¬(↑[etT (atS (i4 (etT (etT s))) (etT s))].length:Int)<=1000->(Err.nil≠Err.nil->(Err.nil.is (5:Int) ∨ Err.nil=Err.nil)/\Q [] (K7 Err.nil))/\(¬Err.nil≠Err.nil->((1000:Int)<(↑[etT (atS (i4 (etT (etT s))) (etT s))].length:Int)->Q [] (Err.no (16:Int)))/\(¬(1000:Int)<(↑[etT (atS (i4 (etT (etT s))) (etT s))].length:Int)->Q [etT (atS (i4 (etT (etT s))) (etT s))] Err.nil)))/\(¬¬(↑[etT (atS (i4 (etT (etT s))) (etT s))].length:Int)<=1000->J [etT (atS (i4 (etT (etT s))) (etT s))]))/\(¬i4 (etT a)<=i4 (etT (etT s))->(¬(0:Int)<=1000->(Err.nil≠Err.nil->(Err.nil.is (5:Int) ∨ Err.nil=Err.nil)/\Q [] (K7 Err.nil))/\(¬Err.nil≠Err.nil->((1000:Int)<0->Q [] (Err.no (16:Int)))/\(¬(1000:Int)<0->Q [] Err.nil)))/\(¬¬(0:Int)<=1000->J [])))/\(¬(i4 (etT (etT s))<i4 (etT b)/\(0:Int)<=i4 (etT (etT s)))->J []))/\∀ (x:List Tm),J x->∃ (I:Int->Int->Prop),∃ (m:Int->Int->Nat),I (315537897600:Int) (0:Int)/\∀ (x_1 x_2:Int),I x_1 x_2->(x_2<(↑r.Until.length:Int)->(0:Int)<=x_2/\x_2<(↑r.Until.length:Int)/\(b8 (ix r.Until x_2).Day.Year->b8 (ix r.Until x_2).Day.Month->b8 (ix r.Until x_2).Day.Date->b8 (ix r.Until x_2).Hour->b8 (ix r.Until x_2).Min->b8 (ix r.Until x_2).Sec->b8 (x_2+1)/\I (i4 (etT (ix r.Until x_2))) (x_2+1)/\m (i4 (etT (ix r.Until x_2))) (x_2+1)<m x_1 x_2))/\(¬x_2<(↑r.Until.length:Int)->(0:Int)<=i4 (etT (etT s))/\i4 (etT (etT s))<=400000000000/\(0:Int)<=r.Wkst/\r.Wkst<=6/\∃ (J:Int->Prop),((r.Count=0/\i4 (etT (etT s))<i4 (etT a)->(((0:Int)<=bif false then max (i4 (etT a)) (315537897599:Int) else min (i4 (etT a)) (315537897599:Int))/\(bif false then max (i4 (etT a)) (315537897599:Int) else min (i4 (etT a)) (315537897599:Int))<=400000000000/\(0:Int)<=r.Wkst/\r.Wkst<=6)/\b8 (b9v r a s)/\(r.Interval≠0/\b8 ((b9v r a s).tdiv r.Interval))/\b8 ((b9v r a s).tdiv r.Interval-1)/\J (bif true then max (0:Int) ((b9v r a s).tdiv r.Interval-1) else min (0:Int) ((b9v r a s).tdiv r.Interval-1)))/\(¬(r.Count=0/\i4 (etT (etT s))<i4 (etT a))->J (0:Int)))/\∀ (x_3:Int),J x_3->∃ (I:Int->Int->List Tm->Prop),∃ (m:Int->Int->List Tm->Nat),I (1:Int) x_3 x/\∀ (x x_4:Int) (x_5:List Tm),I x x_4 x_5->b8 (x_4 * r.Interval)/\b8 (q9 (etR r) (i4 (etT (etT s)))+x_4 * r.Interval)/\(0:Int)<=q9 (etR r) (i4 (etT (etT s)))+x_4 * r.Interval/\q9 (etR r) (i4 (etT (etT s)))+x_4 * r.Interval<=1000000000000/\(0:Int)<=r.Wkst/\r.Wkst<=6/\(((i4 (etT b)<=s6 (etR r) (q9 (etR r) (i4 (etT (etT s)))+x_4 * r.Interval) ∨ x_1<s6 (etR r) (q9 (etR r) (i4 (etT (etT s)))+x_4 * r.Interval)) ∨ (0:Int)<r.Count/\r.Count<=x) ∨ (315537897600:Int)<=s6 (etR r) (q9 (etR r) (i4 (etT (etT s)))+x_4 * r.Interval)->(Err.nil≠Err.nil->(Err.nil.is (5:Int) ∨ Err.nil=Err.nil)/\Q [] (K7 Err.nil))/\(¬Err.nil≠Err.nil->((1000:Int)<(↑x_5.length:Int)->Q [] (Err.no (16:Int)))/\(¬(1000:Int)<(↑x_5.length:Int)->Q x_5 Err.nil)))/\(¬(((i4 (etT b)<=s6 (etR r) (q9 (etR r) (i4 (etT (etT s)))+x_4 * r.Interval) ∨ x_1<s6 (etR r) (q9 (etR r) (i4 (etT (etT s)))+x_4 * r.Interval)) ∨ (0:Int)<r.Count/\r.Count<=x) ∨ (315537897600:Int)<=s6 (etR r) (q9 (etR r) (i4 (etT (etT s)))+x_4 * r.Interval))->((40000:Int)<=x_4->(Err.w (87:Nat) [] (Err.no (5:Int))≠Err.nil->((Err.w (87:Nat) [] (Err.no (5:Int))).is (5:Int) ∨ Err.w (87:Nat) [] (Err.no (5:Int))=Err.nil)/\Q [] (K7 (Err.w (87:Nat) [] (Err.no (5:Int)))))/\(¬Err.w (87:Nat) [] (Err.no (5:Int))≠Err.nil->((1000:Int)<(↑x_5.length:Int)->Q [] (Err.no (16:Int)))/\(¬(1000:Int)<(↑x_5.length:Int)->Q x_5 Err.nil)))/\(¬(40000:Int)<=x_4->C1 (etR r)=true/\E4 (etT s) (etR r)=true/\(0:Int)<=q9 (etR r) (i4 (etT (etT s)))+x_4 * r.Interval/\q9 (etR r) (i4 (etT (etT s)))+x_4 * r.Interval<=999999999999/\∃ (I_1:Int->Int->List Tm->Prop),∃ (m_1:Int->Int->List Tm->Nat),I_1 x (0:Int) x_5/\∀ (x_6 x_7:Int) (x_8:List Tm),I_1 x_6 x_7 x_8->(x_7<(↑(M8 s r x_4).length:Int)->(0:Int)<=x_7/\x_7<(↑(M8 s r x_4).length:Int)/\(b8 (ix (M8 s r x_4) x_7)->(ix (M8 s r x_4) x_7<=i4 (etT (etT s))->b8 (x_7+1)/\I_1 x_6 (x_7+1) x_8/\m_1 x_6 (x_7+1) x_8<m_1 x_6 x_7 x_8)/\(¬ix (M8 s r x_4) x_7<=i4 (etT (etT s))->((i4 (etT b)<=ix (M8 s r x_4) x_7 ∨ x_1<ix (M8 s r x_4) x_7) ∨ (0:Int)<r.Count/\r.Count<=x_6->b8 (x_4+1)/\I x_6 (x_4+1) x_8/\m x_6 (x_4+1) x_8<m x x_4 x_5)/\(¬((i4 (etT b)<=ix (M8 s r x_4) x_7 ∨ x_1<ix (M8 s r x_4) x_7) ∨ (0:Int)<r.Count/\r.Count<=x_6)->b8 (x_6+1)/\(i4 (etT a)<=ix (M8 s r x_4) x_7->ix (M8 s r x_4) x_7<=9000000000000000000/\(x_8.length+[etT (atS (ix (M8 s r x_4) x_7) (etT s))].length) * (some (56:Nat)).getD (0:Nat)<=140737488355328/\(¬(↑(x_8++[etT (atS (ix (M8 s r x_4) x_7) (etT s))]).length:Int)<=1000->(Err.nil≠Err.nil->(Err.nil.is (5:Int) ∨ Err.nil=Err.nil)/\Q [] (K7 Err.nil))/\(¬Err.nil≠Err.nil->((1000:Int)<(↑(x_8++[etT (atS (ix (M8 s r x_4) x_7) (etT s))]).length:Int)->Q [] (Err.no (16:Int)))/\(¬(1000:Int)<(↑(x_8++[etT (atS (ix (M8 s r x_4) x_7) (etT s))]).length:Int)->Q (x_8++[etT (atS (ix (M8 s r x_4) x_7) (etT s))]) Err.nil)))/\(¬¬(↑(x_8++[etT (atS (ix (M8 s r x_4) x_7) (etT s))]).length:Int)<=1000->b8 (x_7+1)/\I_1 (x_6+1) (x_7+1) (x_8++[etT (atS (ix (M8 s r x_4) x_7) (etT s))])/\m_1 (x_6+1) (x_7+1) (x_8++[etT (atS (ix (M8 s r x_4) x_7) (etT s))])<m_1 x_6 x_7 x_8))/\(¬i4 (etT a)<=ix (M8 s r x_4) x_7->(¬(↑x_8.length:Int)<=1000->(Err.nil≠Err.nil->(Err.nil.is (5:Int) ∨ Err.nil=Err.nil)/\Q [] (K7 Err.nil))/\(¬Err.nil≠Err.nil->((1000:Int)<(↑x_8.length:Int)->Q [] (Err.no (16:Int)))/\(¬(1000:Int)<(↑x_8.length:Int)->Q x_8 Err.nil)))/\(¬¬(↑x_8.length:Int)<=1000->b8 (x_7+1)/\I_1 (x_6+1) (x_7+1) x_8/\m_1 (x_6+1) (x_7+1) x_8<m_1 x_6 x_7 x_8))))))/\(¬x_7<(↑(M8 s r x_4).length:Int)->b8 (x_4+1)/\I x_6 (x_4+1) x_8/\m x_6 (x_4+1) x_8<m x x_4 x_5))))))
theorem d5s {s:Tm} {r:Rl} {a:Tm} {b:Tm} {Q:List Tm->Err->Prop}:@Eq Prop (Vex s r a b Q) (i6 (E:=a2z) (j7 a2z H0 c4u 4) (c4u 13) Tryz.f13 [.agg [.int .i64 s.Day.Year,.int .i64 s.Day.Month,.int .i64 s.Day.Date,.int .i64 s.Hour,.int .i64 s.Min,.int .i64 s.Sec,blB s.Bare,blB s.UTC],.agg [.int .i64 r.Freq,.int .i64 r.Interval,.int .i64 r.Count,.sl (N:=U) 25 r.Until,.sl (N:=U) 3 r.Month,.sl (N:=U) 3 r.WeekNo,.sl (N:=U) 3 r.YearDay,.sl (N:=U) 3 r.MonthDay,.sl (N:=U) 60 r.Days,.sl (N:=U) 3 r.Hour,.sl (N:=U) 3 r.Minute,.sl (N:=U) 3 r.Second,.sl (N:=U) 3 r.SetPos,.int .i64 r.Wkst],.agg [.int .i64 a.Day.Year,.int .i64 a.Day.Month,.int .i64 a.Day.Date,.int .i64 a.Hour,.int .i64 a.Min,.int .i64 a.Sec,blB a.Bare,blB a.UTC],.agg [.int .i64 b.Day.Year,.int .i64 b.Day.Month,.int .i64 b.Day.Date,.int .i64 b.Hour,.int .i64 b.Min,.int .i64 b.Sec,blB b.Bare,blB b.UTC]] [] [] 0 (n7 a2z [.acc 25,.err] Q)):=by kernel_rfl
theorem d9b {s:Tm} {r:Rl} {a:Tm} {b:Tm} {Q:List Tm->Err->Prop} (h:Vex s r a b Q):i6 (E:=a2z) (j7 a2z H0 c4u 4) (c4u 13) Tryz.f13 [.agg [.int .i64 s.Day.Year,.int .i64 s.Day.Month,.int .i64 s.Day.Date,.int .i64 s.Hour,.int .i64 s.Min,.int .i64 s.Sec,blB s.Bare,blB s.UTC],.agg [.int .i64 r.Freq,.int .i64 r.Interval,.int .i64 r.Count,.sl (N:=U) 25 r.Until,.sl (N:=U) 3 r.Month,.sl (N:=U) 3 r.WeekNo,.sl (N:=U) 3 r.YearDay,.sl (N:=U) 3 r.MonthDay,.sl (N:=U) 60 r.Days,.sl (N:=U) 3 r.Hour,.sl (N:=U) 3 r.Minute,.sl (N:=U) 3 r.Second,.sl (N:=U) 3 r.SetPos,.int .i64 r.Wkst],.agg [.int .i64 a.Day.Year,.int .i64 a.Day.Month,.int .i64 a.Day.Date,.int .i64 a.Hour,.int .i64 a.Min,.int .i64 a.Sec,blB a.Bare,blB a.UTC],.agg [.int .i64 b.Day.Year,.int .i64 b.Day.Month,.int .i64 b.Day.Date,.int .i64 b.Hour,.int .i64 b.Min,.int .i64 b.Sec,blB b.Bare,blB b.UTC]] [] [] 0 (n7 a2z [.acc 25,.err] Q):=by rw [<- d5s]; exact h
set_option maxHeartbeats 2000000 in
theorem pex (s:Tm) (r:Rl) (a:Tm) (b:Tm) (hfw:C1 r=true):Vex s r a b (fun y0 y1=>y0=(o8 s r a b).1/\y1=(o8 s r a b).2):=by
 unfold Vex b9v M8
 simp only [a3w,c59,d5i]
 refine ⟨hfw,fun h=>?_,fun h=>?_⟩
 . unfold o8
   rw [if_pos (show b4c s r a b from h)]; exact ⟨rfl,rfl⟩
 have hnb:¬ b4c s r a b:=h
 have hf:E4 s r=true:=Classical.not_not.1 fun e=>h (.inl (.inl e))
 have ha:q7 a=true:=Classical.not_not.1 fun e=>h (.inl (.inr e))
 have hb:q7 b=true:=Classical.not_not.1 fun e=>h (.inr e)
 have hF:=E9.1 hf
 obtain ⟨px,hpx⟩:∃ p,o8 s r a b=p:=⟨_,rfl⟩
 rw [hpx]
 unfold o8 at hpx
 rw [if_neg hnb] at hpx
 obtain ⟨fb,hfb⟩:∃ fb,Q2 s r (p7 s.Day) (i4 b)=fb:=⟨_,rfl⟩
 rw [hfb] at hpx ⊢
 refine ⟨hfw,hf,fun he=>?_,fun he=>?_⟩
 . cases fb with
   | false=>exact absurd rfl he
   | true =>
    rw [if_pos rfl] at hpx
    rw [<- hpx]
    exact ⟨.inl a9o,rfl,a73⟩
 cases fb with
 | true=>exact absurd (fun e=>by cases e) he
 | false =>
 rw [if_neg Bool.false_ne_true] at hpx
 obtain ⟨s0,s1⟩:=D6 hF.rt
 obtain ⟨g0,g1⟩:=D6 ha
 obtain ⟨d0,d1⟩:=D6 hb
 obtain ⟨_,_,v0,v1,n0,n1,w0,w1⟩:=(o0.1 hF.rr).head
 obtain ⟨u1,u2⟩:=(o0.1 hF.rr).til
 have hix:∀ x,0<=x->x<315537897600->0<=q9 r x/\q9 r x<=315537897600:=fun x x0 x1=>a3b x0 x1 w0 w1
 obtain ⟨z0,z1,z2⟩:=d04 (s:=s) v0 hix g0 ⟨s0,s1⟩
 obtain ⟨a0,a1⟩:=hix _ s0 s1
 obtain ⟨b0,b1⟩:=hix (min (i4 a) 315537897599) (by omega) (by omega)
 have lt:∀ n i:Int,i<n->(n-(i+1)).toNat<(n-i).toNat:=fun n i h=>by omega
 generalize hg:b49 s r a b=g at hpx
 unfold b49 at hg
 have R0:a25 (a1s s a) g [] (D2 s r (p7 s.Day) (i4 a) (i4 b)).1 (D2 s r (p7 s.Day) (i4 a) (i4 b)).2:=⟨hg⟩
 clear hg
 unfold D2 at R0
 have e1:∀ x y:Int,(bif false then max x y else min x y)=min x y:=fun _ _=>rfl
 have e2:∀ x y:Int,(bif true then max x y else min x y)=max x y:=fun _ _=>rfl
 simp only [e1,e2]
 have hk0:∀ p:Prop,(r.Count=0/\i4 s<i4 a->k0S s r (i4 a)=max 0 ((q9 r (min (i4 a) 315537897599)-q9 r (i4 s)).tdiv r.Interval-1))/\(¬ (r.Count=0/\i4 s<i4 a)->k0S s r (i4 a)=0):=fun _=>⟨fun hh=>if_pos hh,fun hh=>if_neg hh⟩
 have hk0:=hk0 True
 generalize k0S s r (i4 a)=kz at *
 obtain ⟨t0,t1⟩:=c31 (d:=q9 r (min (i4 a) 315537897599)-q9 r (i4 s)) (n:=r.Interval)
 generalize (q9 r (min (i4 a) 315537897599)-q9 r (i4 s)).tdiv r.Interval=td at *
 generalize q9 r (min (i4 a) 315537897599)=ia at *
 generalize hfi:i4 s=fi at *
 generalize q9 r fi=i0 at *
 generalize i4 b=to at *
 have yes:∀ (y:List Int) (t:Int),((frA s a (y++[t])).length:Int)<=1000->a1s s a y t=true:=fun y t hh=>decide_eq_true hh
 have no:∀ (y:List Int) (t:Int),¬ ((frA s a (y++[t])).length:Int)<=1000->¬ a1s s a y t=true:=fun y t hh e=>hh (of_decide_eq_true e)
 refine ⟨fun out=>∃ y,out=frA s a y/\(out.length:Int)<=1/\a32 (a1s s a) g s r (p7 s.Day) fi to (M9 r) i0 kz 1 y,⟨fun hfst=>⟨fun hs=>⟨by omega,by show 1 * 56<=140737488355328; decide,fun hst=>absurd (show ((1:Nat):Int)<=1000 by decide) hst,fun _=>?_⟩,fun hs=>⟨fun hst=>absurd (by decide) hst,fun _=>?_⟩⟩,fun hnf=>?_⟩,fun out hn=>⟨fun til x=>0<=x/\x<=(r.Until.length:Int)/\til=if 0<x then i4 (ix r.Until 0) else 315537897600,fun _ x=>((r.Until.length:Int)-x).toNat,⟨Int.le_refl 0,by omega,rfl⟩,fun til x hx=>⟨fun hlt=>⟨hx.1,hlt,fun _ _ _ _ _ _=>⟨⟨by omega,by omega⟩,⟨by omega,by omega,?_⟩,lt _ _ hlt⟩⟩,fun hge=>?_⟩⟩⟩
 . rw [if_pos hfst.1,List.cons_append,List.nil_append] at R0
   have e:=b8d (s:=s) (y:=[]) hs
   exact ⟨[fi],e.symm,(show ((1:Nat):Int)<=1 by decide),⟨R0.go (yes [] fi (by rw [e]; show ((1:Nat):Int)<=1000; decide))⟩⟩
 . rw [if_pos hfst.1,List.cons_append,List.nil_append] at R0
   have e:=c22 (s:=s) (y:=[]) hs
   exact ⟨[fi],e.symm,(show ((0:Nat):Int)<=1 by decide),⟨R0.go (yes [] fi (by rw [e]; show ((0:Nat):Int)<=1000; decide))⟩⟩
 . rw [if_neg (fun hh=>hnf ⟨hh,s0⟩),List.nil_append] at R0
   exact ⟨[],rfl,by decide,⟨R0⟩⟩
 . have e:x=0:=by omega
   subst e; rfl
 . have etil:til=M9 r:=by
     rw [hx.2.2]
     unfold M9
     by_cases hl:0<(r.Until.length:Int)
     . rw [if_pos hl,if_pos (by omega)]
     . rw [if_neg hl,if_neg (by omega)]
   rw [etil]
   generalize M9 r=til at *
   refine ⟨s0,by omega,w0,w1,fun k=>k=kz,⟨fun hh=>⟨⟨by omega,by omega,w0,w1⟩,⟨by omega,by omega⟩,⟨by omega,by omega,by omega⟩,⟨by omega,by omega⟩,(hk0.1 hh).symm⟩,fun hh=>(hk0.2 hh).symm⟩,fun k hk=>⟨fun c k out=>∃ y,out=frA s a y/\(out.length:Int)<=1000/\1<=c/\c<=1+k * 1000000000000/\0<=k/\0<=k * r.Interval/\k * r.Interval<=400000000000/\a32 (a1s s a) g s r (p7 s.Day) fi to til i0 k c y,fun _ k _=>(40001-k).toNat,?_,fun c k out hI=>?_⟩⟩
   . obtain ⟨y,h1,h2,h3⟩:=hn
     subst hk
     exact ⟨y,h1,by omega,by decide,by omega,z0,z1,by omega,h3⟩
   . obtain ⟨y,hy,ol,c0,c1,k0,k1,k2,ho⟩:=hI
     refine ⟨⟨by omega,by omega⟩,⟨by omega,by omega⟩,by omega,by omega,w0,w1,fun he=>?_,fun he=>⟨fun h4=>?_,fun h4=>⟨hfw,hf,by omega,by omega,fun c' j out'=>∃ y,out'=frA s a y/\(out'.length:Int)<=1000/\1<=c'/\c'<=1+k * 1000000000000+j/\0<=j/\j<=((w7 s r (p7 s.Day) (i0+k * r.Interval)).length:Int)/\a2f (a1s s a) g s r (p7 s.Day) fi to til i0 k c' ((w7 s r (p7 s.Day) (i0+k * r.Interval)).drop j.toNat) y,fun _ j _=>(((w7 s r (p7 s.Day) (i0+k * r.Interval)).length:Int)-j).toNat,⟨y,hy,ol,c0,by omega,Int.le_refl 0,by omega,by simpa using ho.enter he h4⟩,fun c' j out' hI'=>?_⟩⟩⟩
     . have q:=(a9l hpx (ho.fin he)).2 rfl
       refine ⟨fun hh=>absurd rfl hh,fun _=>⟨fun hl=>absurd hl (by omega),fun hl=>?_⟩⟩
       rw [q.2 (by rw [<- hy]; omega),hy]; exact ⟨rfl,rfl⟩
     . have q:=(a9l hpx (ho.many he h4)).1 rfl
       rw [q]
       exact ⟨fun _=>⟨.inl a9o,rfl,a73⟩,fun hh=>absurd (fun e=>by cases e) hh⟩
     . have hcl:=a7e (day:=p7 s.Day) (i:=i0+k * r.Interval) hF (by omega)
       obtain ⟨q0,q1⟩:=d0o hF.rr (k:=k+1) (by omega) (by omega)
       obtain ⟨y,hy,ol,c0,c1,j0,j1,hi⟩:=hI'
       generalize w7 s r (p7 s.Day) (i0+k * r.Interval)=L at *
       refine ⟨fun hj=>⟨j0,hj,fun _=>?_⟩,fun hj=>⟨⟨by omega,by omega⟩,⟨y,hy,ol,c0,by omega,by omega,q0,by omega,?_⟩,by show (_:Int).toNat<(_:Int).toNat; omega⟩⟩
       . rw [I3 j0 hj] at hi
         refine ⟨fun hs=>⟨⟨by omega,by omega⟩,⟨y,hy,ol,c0,by omega,by omega,by omega,hi.skip hs⟩,lt _ _ hj⟩,fun hs=>⟨fun hb=>⟨⟨by omega,by omega⟩,⟨y,hy,ol,c0,by omega,by omega,q0,by omega,hi.leave hs hb⟩,by show (_:Int).toNat<(_:Int).toNat; omega⟩,fun hb=>?_⟩⟩
         have hbt:ix L j<to:=by
          rcases Int.lt_or_le (ix L j) to with hh | hh
          . exact hh
          . exact absurd (.inl (.inl hh)) hb
         refine ⟨⟨by omega,by omega⟩,fun hsa=>?_,fun hsa=>?_⟩
         . have e:=b8d (s:=s) (y:=y) hsa
           rw [<- hy] at e
           refine ⟨by omega,?_,fun hst=>?_,fun hgo=>⟨⟨by omega,by omega⟩,⟨y++[ix L j],e.symm,by omega,by omega,by omega,by omega,by omega,(hi.one hs hb).1 (yes y _ (by rw [e]; omega))⟩,lt _ _ hj⟩⟩
           . show (out'.length+1) * 56<=140737488355328
             omega
           . have q:=(a9l hpx ((hi.one hs hb).2 (no y _ (by rw [e]; exact hst)))).2 rfl
             rw [e] at q
             refine ⟨fun hh=>absurd rfl hh,fun _=>⟨fun hl=>?_,fun hl=>?_⟩⟩
             . rw [q.1 hl]; exact ⟨rfl,rfl⟩
             . rw [q.2 hl]; exact ⟨rfl,rfl⟩
         . have e:=c22 (s:=s) (y:=y) hsa
           rw [<- hy] at e
           exact ⟨fun hst=>absurd ol hst,fun hgo=>⟨⟨by omega,by omega⟩,⟨y++[ix L j],e.symm,ol,by omega,by omega,by omega,by omega,(hi.one hs hb).1 (yes y _ (by rw [e]; exact ol))⟩,lt _ _ hj⟩⟩
       . rw [List.drop_eq_nil_of_le (by omega)] at hi
         exact hi.nil
noncomputable def e3t (s:Tm) (r:Rl) (a:Tm) (b:Tm) (nx:Nat):CR U:=⟨[C1 r=true],[],.tup [.acc nx,.err ((o8 s r a b).2)],[.ac 25 ((o8 s r a b).1)]⟩
noncomputable def cex (a:List (SV U)) (nx:Nat):Option (CR U):=match a with | [.agg l_s,.agg l_r,.agg l_a,.agg l_b]=>(y25.bk (.agg l_s)).bind fun s=>(y30.bk (.agg l_r)).bind fun r=>(y25.bk (.agg l_a)).bind fun a=>(y25.bk (.agg l_b)).bind fun b=>some (e3t s r a b nx) | _=>none
theorem d1e (args:List (SV U)) (nx:Nat) (c:CR U) (h:cex args nx=some c) (hp:args.all z7=true) (ho:m6 c.ob):E7 a2z.P a2z.N a2z.T a2z.G 13 args nx c:=by
 unfold cex at h
 split at h
 . rename_i l_s l_r l_a l_b
   obtain ⟨s,hb_s,h⟩:=Option.bind_eq_some_iff.1 h
   obtain ⟨r,hb_r,h⟩:=Option.bind_eq_some_iff.1 h
   obtain ⟨a,hb_a,h⟩:=Option.bind_eq_some_iff.1 h
   obtain ⟨b,hb_b,h⟩:=Option.bind_eq_some_iff.1 h
   cases h
   exact E7.weak (b:=[.agg [.int .i64 s.Day.Year,.int .i64 s.Day.Month,.int .i64 s.Day.Date,.int .i64 s.Hour,.int .i64 s.Min,.int .i64 s.Sec,blB s.Bare,blB s.UTC],.agg [.int .i64 r.Freq,.int .i64 r.Interval,.int .i64 r.Count,.sl (N:=U) 25 r.Until,.sl (N:=U) 3 r.Month,.sl (N:=U) 3 r.WeekNo,.sl (N:=U) 3 r.YearDay,.sl (N:=U) 3 r.MonthDay,.sl (N:=U) 60 r.Days,.sl (N:=U) 3 r.Hour,.sl (N:=U) 3 r.Minute,.sl (N:=U) 3 r.Second,.sl (N:=U) 3 r.SetPos,.int .i64 r.Wkst],.agg [.int .i64 a.Day.Year,.int .i64 a.Day.Month,.int .i64 a.Day.Date,.int .i64 a.Hour,.int .i64 a.Min,.int .i64 a.Sec,blB a.Bare,blB a.UTC],.agg [.int .i64 b.Day.Year,.int .i64 b.Day.Month,.int .i64 b.Day.Date,.int .i64 b.Hour,.int .i64 b.Min,.int .i64 b.Sec,blB b.Bare,blB b.UTC]]) (e3s a8r (j8 a8r q8 c4u 4) Tryz.func13 (k1:=.acc 25) (k2:=.err) rfl rfl (d9b (pex s r a b ho.1))) fun ρ Z w v hr=>z8 [.agg l_s,.agg l_r,.agg l_a,.agg l_b] [.agg [.int .i64 s.Day.Year,.int .i64 s.Day.Month,.int .i64 s.Day.Date,.int .i64 s.Hour,.int .i64 s.Min,.int .i64 s.Sec,blB s.Bare,blB s.UTC],.agg [.int .i64 r.Freq,.int .i64 r.Interval,.int .i64 r.Count,.sl (N:=U) 25 r.Until,.sl (N:=U) 3 r.Month,.sl (N:=U) 3 r.WeekNo,.sl (N:=U) 3 r.YearDay,.sl (N:=U) 3 r.MonthDay,.sl (N:=U) 60 r.Days,.sl (N:=U) 3 r.Hour,.sl (N:=U) 3 r.Minute,.sl (N:=U) 3 r.Second,.sl (N:=U) 3 r.SetPos,.int .i64 r.Wkst],.agg [.int .i64 a.Day.Year,.int .i64 a.Day.Month,.int .i64 a.Day.Date,.int .i64 a.Hour,.int .i64 a.Min,.int .i64 a.Sec,blB a.Bare,blB a.UTC],.agg [.int .i64 b.Day.Year,.int .i64 b.Day.Month,.int .i64 b.Day.Date,.int .i64 b.Hour,.int .i64 b.Min,.int .i64 b.Sec,blB b.Bare,blB b.UTC]] _ ⟨fun _ h=>A0 hb_s h,fun _ h=>C6 hb_r h,fun _ h=>A0 hb_a h,fun _ h=>A0 hb_b h,trivial⟩ hr
 . cases h
noncomputable def Nex:Env:=a2z.addC 13 cex
theorem b5q:l5 Nex:=a8r.addC Tryz.call13 d1e
def c5v:Nat->Ann:=fun | 16=>⟨15,fun | 4=>some ⟨[0],[.slot 3 (.int .i64)]⟩ | _=>none,fun _=>none⟩ | _=>⟨0,fun _=>none,fun _=>none⟩
def Vno (e:Err) (Q:Int->Prop):Prop :=
(e=Err.nil->Q (0:Int))/\(¬e=Err.nil->∃ (I:Int->Prop),∃ (m:Int->Nat),I (1:Int)/\∀ (x:Int),I x->(x<=16->(e.is x->Q x)/\(¬e.is x->b8 (x+1)/\I (x+1)/\m (x+1)<m x))/\(¬x<=16->Q (-1:Int)))
theorem e1c {e:Err} {Q:Int->Prop}:@Eq Prop (Vno e Q) (i6 (E:=Nex) (j7 Nex H0 c5v 2) (c5v 16) Tryz.f16 [.err e] [] [] 0 (n7 Nex [.int .i64] Q)):=by kernel_rfl
theorem d2i {e:Err} {Q:Int->Prop} (h:Vno e Q):i6 (E:=Nex) (j7 Nex H0 c5v 2) (c5v 16) Tryz.f16 [.err e] [] [] 0 (n7 Nex [.int .i64] Q):=by rw [<- e1c]; exact h
theorem b2p {e:Err} {n:Int} (h:¬ e=.nil) (hn:e.num=some n):e.nr=if 1<=n/\n<=16 then n else -1:=by
 cases e with
 | nil=>exact absurd rfl h
 | _=>unfold Err.nr; simp only [hn]
theorem c54 {e:Err} (h:¬ e=.nil) (hn:e.num=none):e.nr=-1:=by
 cases e with
 | nil=>exact absurd rfl h
 | _=>unfold Err.nr; simp only [hn]
theorem pno (e:Err)  : Vno e (fun y0=>y0=e.nr):=by
 unfold Vno
 refine ⟨fun h=>by subst h; rfl,fun h=>⟨fun x=>1<=x/\x<=17/\∀ j:Int,1<=j->j<x->¬ e.is j,fun x=>(17-x).toNat,⟨by omega,by omega,fun j _ _=>by omega⟩,?_⟩⟩
 rintro x ⟨h0,h1,h2⟩
 refine ⟨fun hx=>⟨fun hi=>?_,fun hi=>⟨⟨by omega,by omega⟩,⟨by omega,by omega,fun j j0 j1=>?_⟩,by dsimp only; omega⟩⟩,fun hx=>?_⟩
 . have hi:e.num=some x:=hi
   rw [b2p h hi,if_pos ⟨h0,hx⟩]
 . by_cases e1:j=x
   . subst e1; exact hi
   . exact h2 j j0 (by omega)
 . cases hn:e.num with
   | none=>rw [c54 h hn]
   | some n=>rw [b2p h hn,if_neg (fun hh=>h2 n hh.1 (by omega) hn)]
def cno (a:List (SV U)):Option (Q1 U):=match a with | [.err e]=>some ⟨[],[],.int .i64 e.nr⟩ | _=>none
theorem d8v (args:List (SV U)) (q:Q1 U) (h:cno args=some q) (ho:m6 q.ob):l8 Nex 16 args ⟨q.ob,q.hy,q.v,[]⟩:=by
 unfold cno at h
 split at h
 . rename_i e
   cases h
   exact s8 b5q (j8 b5q q8 c5v 2) Tryz.func16 (k:=.int .i64) (x:=e.nr) trivial (d2i (pno e )) 0
 . cases h
noncomputable def Nno:Env:=Nex.addL 16 cno
theorem b65:l5 Nno:=b5q.addL Tryz.call16 d8v
end Go.Proofs.YtdjfeninmbpflaaGreat
end
section
namespace Go.Re
open Go Go.Wk Go.Wl Go.Rx
def dyS (y m d:Int):Tm:=⟨⟨y,m,d⟩,0,0,0,true,false⟩
instance (r:Rl):Decidable (b0w r):=by unfold b0w; infer_instance
instance (r:Rl):Decidable (b01 r):=by unfold b01; infer_instance
instance (r:Rl):Decidable (b7k r):=by unfold b7k; infer_instance
instance (m:Int) (d:Nt):Decidable (c3v m d):=by unfold c3v; infer_instance
instance (a b:Nt):Decidable (Z8 a b):=by unfold Z8; infer_instance
def a69:Rl:=Rl.mk 1 1 0 [] [] [] [] [] [Nt.mk (-1) 4] [] [] [] [] 0
def U6 (w:Int):Rl:=Rl.mk 2 2 0 [] [] [] [] [] [Nt.mk 0 1,Nt.mk 0 6] [] [] [] [] w
theorem K1 {lo hi:Int} {b:Bool}:K2 [] lo hi b:=⟨fun i h0 h1=>absurd h1 (by simp; omega),fun i h0 h1=>absurd h1 (by simp; omega),by decide⟩
theorem a77 {f i c:Int} {u:List Tm} {d:List Nt} {w:Int}:a7y (Rl.mk f i c u [] [] [] [] d [] [] [] [] w):=⟨K1,K1,K1,K1,K1,K1,K1,K1⟩
theorem c95:u6 (dyS 1997 1 31) a69:=by
 refine ⟨by decide,o0.2 ⟨by decide,⟨by decide,fun h=>absurd h (by decide)⟩,a77,by decide,⟨fun i h0 h1=>?_,fun i h0 h1=>?_⟩,by decide,by decide⟩,fun h=>absurd h (by decide),fun _=>by decide⟩
 . have h1:i<1:=h1
   have:i=0:=by omega
   subst this; decide
 . have h1:i<1:=h1
   omega
theorem b6p {w:Int} (hw:w=0 ∨ w=6):u6 (dyS 1997 8 5) (U6 w):=by
 have h2:B6 (U6 w)=true:=by
  refine o0.2 ⟨?_,⟨by show (0:Int)<=1; decide,fun h=>absurd h (by show ¬ (0:Int)=1; decide)⟩,a77,by show (2:Int)<=24; decide,⟨fun i h0 h1=>?_,fun i h0 h1=>?_⟩,?_,?_⟩
  . rcases hw with rfl | rfl <;> decide
  . have h1:i<2:=h1
    have:i=0 ∨ i=1:=by omega
    rcases this with rfl | rfl <;> (rcases hw with rfl | rfl <;> decide)
  . have h1:i<2:=h1
    have:i=1:=by omega
    subst this
    rcases hw with rfl | rfl <;> decide
  . rcases hw with rfl | rfl <;> decide
  . rcases hw with rfl | rfl <;> decide
 exact ⟨by decide,h2,fun h=>absurd h (by show ¬ (0:Int)<0; decide),fun _=>⟨by show (2:Int)<=3; decide,rfl,rfl,rfl⟩⟩
theorem a8q {s a b:Tm} {r:Rl} {l:List Tm} (hF:u6 s r) (ha:q7 a=true) (hb:q7 b=true) (hf:Q2 s r (p7 s.Day) (i4 b)=false) (hg:b52 s a (b49 s r a b)=(l,.nil)):o8 s r a b=(l,.nil):=by
 unfold o8
 rw [if_neg (fun h=>h.elim (fun h=>h.elim (fun h=>h (E9.2 hF)) fun h=>h ha) fun h=>h hb),if_neg (by rw [hf]; exact Bool.false_ne_true),hg]
theorem e03:o8 (dyS 1997 1 31) a69 (dyS 1997 1 1) (dyS 1997 4 1)=([dyS 1997 1 31,dyS 1997 2 28,dyS 1997 3 28],.nil) :=
 a8q c95 (by decide) (by decide) (by kernel_rfl) (by kernel_rfl)
theorem d5x:o8 (dyS 1997 8 5) (U6 0) (dyS 1997 8 1) (dyS 1997 8 25)=([dyS 1997 8 5,dyS 1997 8 10,dyS 1997 8 19,dyS 1997 8 24],.nil) :=
 a8q (b6p (.inl rfl)) (by decide) (by decide) (by kernel_rfl) (by kernel_rfl)
theorem c48:o8 (dyS 1997 8 5) (U6 6) (dyS 1997 8 1) (dyS 1997 9 1)=([dyS 1997 8 5,dyS 1997 8 17,dyS 1997 8 19,dyS 1997 8 31],.nil) :=
 a8q (b6p (.inr rfl)) (by decide) (by decide) (by kernel_rfl) (by kernel_rfl)
end Go.Re
end
section
namespace Go.Proofs.YtdjfeninmbpflaaGreat
open Go Go.Wk Go.Wl Go.Rx Go.Re 
attribute [local irreducible] i6
def c2f:Nat->Ann:=fun | 28=>⟨12,fun _=>none,fun _=>none⟩ | _=>⟨0,fun _=>none,fun _=>none⟩
def Vld (y:Int) (m:Int) (d:Int) (Q:Tm->Prop):Prop :=
Q (Tm.mk (Dy.mk y m d) (0:Int) (0:Int) (0:Int) true false)
theorem d9m {y:Int} {m:Int} {d:Int} {Q:Tm->Prop}:@Eq Prop (Vld y m d Q) (i6 (E:=Nno) (j7 Nno H0 c2f 2) (c2f 28) Tryz.f28 [.int .i64 y,.int .i64 m,.int .i64 d] [] [] 0 (n7 Nno [.val 25] Q)):=by kernel_rfl
theorem d2h {y:Int} {m:Int} {d:Int} {Q:Tm->Prop} (h:Vld y m d Q):i6 (E:=Nno) (j7 Nno H0 c2f 2) (c2f 28) Tryz.f28 [.int .i64 y,.int .i64 m,.int .i64 d] [] [] 0 (n7 Nno [.val 25] Q):=by rw [<- d9m]; exact h
theorem pld (y:Int) (m:Int) (d:Int)  : Vld y m d (fun y0=>y0=dyS y m d):=by
 unfold Vld dyS
 rfl
def cld (a:List (SV U)):Option (Q1 U):=match a with | [.int .i64 y,.int .i64 m,.int .i64 d]=>some ⟨[],[],.agg [.int .i64 (dyS y m d).Day.Year,.int .i64 (dyS y m d).Day.Month,.int .i64 (dyS y m d).Day.Date,.int .i64 (dyS y m d).Hour,.int .i64 (dyS y m d).Min,.int .i64 (dyS y m d).Sec,blB (dyS y m d).Bare,blB (dyS y m d).UTC]⟩ | _=>none
theorem e1w (args:List (SV U)) (q:Q1 U) (h:cld args=some q) (ho:m6 q.ob):l8 Nno 28 args ⟨q.ob,q.hy,q.v,[]⟩:=by
 unfold cld at h
 split at h
 . rename_i y m d
   cases h
   exact s8 b65 (j8 b65 q8 c2f 2) Tryz.func28 (k:=.val 25) (x:=dyS y m d) ⟨_,_,rfl,rfl,rfl⟩ (d2h (pld y m d )) 0
 . cases h
noncomputable def Nld:Env:=Nno.addL 28 cld
theorem b4h:l5 Nld:=b65.addL Tryz.call28 e1w
def c0p:Nat->Ann:=fun | 12=>⟨74,fun _=>none,fun _=>none⟩ | _=>⟨0,fun _=>none,fun _=>none⟩
def Val  (Q:Bool->Prop):Prop :=
C1 (a69)=true/\C1 (U6 (0:Int))=true/\C1 (U6 (6:Int))=true/\b8 ((o8 (etT (dyS (1997:Int) (1:Int) (31:Int))) (a69) (etT (dyS (1997:Int) (1:Int) (1:Int))) (etT (dyS (1997:Int) (4:Int) (1:Int)))).snd.nr+(o8 (etT (dyS (1997:Int) (8:Int) (5:Int))) (U6 (0:Int)) (etT (dyS (1997:Int) (8:Int) (1:Int))) (etT (dyS (1997:Int) (8:Int) (25:Int)))).snd.nr)/\b8 ((o8 (etT (dyS (1997:Int) (1:Int) (31:Int))) (a69) (etT (dyS (1997:Int) (1:Int) (1:Int))) (etT (dyS (1997:Int) (4:Int) (1:Int)))).snd.nr+(o8 (etT (dyS (1997:Int) (8:Int) (5:Int))) (U6 (0:Int)) (etT (dyS (1997:Int) (8:Int) (1:Int))) (etT (dyS (1997:Int) (8:Int) (25:Int)))).snd.nr+(o8 (etT (dyS (1997:Int) (8:Int) (5:Int))) (U6 (6:Int)) (etT (dyS (1997:Int) (8:Int) (1:Int))) (etT (dyS (1997:Int) (9:Int) (1:Int)))).snd.nr)/\((o8 (etT (dyS (1997:Int) (1:Int) (31:Int))) (a69) (etT (dyS (1997:Int) (1:Int) (1:Int))) (etT (dyS (1997:Int) (4:Int) (1:Int)))).snd.nr+(o8 (etT (dyS (1997:Int) (8:Int) (5:Int))) (U6 (0:Int)) (etT (dyS (1997:Int) (8:Int) (1:Int))) (etT (dyS (1997:Int) (8:Int) (25:Int)))).snd.nr+(o8 (etT (dyS (1997:Int) (8:Int) (5:Int))) (U6 (6:Int)) (etT (dyS (1997:Int) (8:Int) (1:Int))) (etT (dyS (1997:Int) (9:Int) (1:Int)))).snd.nr=(0:Int)->(o8 (etT (dyS (1997:Int) (1:Int) (31:Int))) (a69) (etT (dyS (1997:Int) (1:Int) (1:Int))) (etT (dyS (1997:Int) (4:Int) (1:Int)))).fst.length<=(10000000:Nat)/\(P9 (o8 (etT (dyS (1997:Int) (1:Int) (31:Int))) (a69) (etT (dyS (1997:Int) (1:Int) (1:Int))) (etT (dyS (1997:Int) (4:Int) (1:Int)))).fst [etT (dyS (1997:Int) (1:Int) (31:Int)),etT (dyS (1997:Int) (2:Int) (28:Int)),etT (dyS (1997:Int) (3:Int) (28:Int))]=true->(o8 (etT (dyS (1997:Int) (8:Int) (5:Int))) (U6 (0:Int)) (etT (dyS (1997:Int) (8:Int) (1:Int))) (etT (dyS (1997:Int) (8:Int) (25:Int)))).fst.length<=(10000000:Nat)/\(P9 (o8 (etT (dyS (1997:Int) (8:Int) (5:Int))) (U6 (0:Int)) (etT (dyS (1997:Int) (8:Int) (1:Int))) (etT (dyS (1997:Int) (8:Int) (25:Int)))).fst [etT (dyS (1997:Int) (8:Int) (5:Int)),etT (dyS (1997:Int) (8:Int) (10:Int)),etT (dyS (1997:Int) (8:Int) (19:Int)),etT (dyS (1997:Int) (8:Int) (24:Int))]=true->(o8 (etT (dyS (1997:Int) (8:Int) (5:Int))) (U6 (6:Int)) (etT (dyS (1997:Int) (8:Int) (1:Int))) (etT (dyS (1997:Int) (9:Int) (1:Int)))).fst.length<=(10000000:Nat)/\Q (decide (P9 (o8 (etT (dyS (1997:Int) (8:Int) (5:Int))) (U6 (6:Int)) (etT (dyS (1997:Int) (8:Int) (1:Int))) (etT (dyS (1997:Int) (9:Int) (1:Int)))).fst [etT (dyS (1997:Int) (8:Int) (5:Int)),etT (dyS (1997:Int) (8:Int) (17:Int)),etT (dyS (1997:Int) (8:Int) (19:Int)),etT (dyS (1997:Int) (8:Int) (31:Int))]=true)))/\(¬P9 (o8 (etT (dyS (1997:Int) (8:Int) (5:Int))) (U6 (0:Int)) (etT (dyS (1997:Int) (8:Int) (1:Int))) (etT (dyS (1997:Int) (8:Int) (25:Int)))).fst [etT (dyS (1997:Int) (8:Int) (5:Int)),etT (dyS (1997:Int) (8:Int) (10:Int)),etT (dyS (1997:Int) (8:Int) (19:Int)),etT (dyS (1997:Int) (8:Int) (24:Int))]=true->Q false))/\(¬P9 (o8 (etT (dyS (1997:Int) (1:Int) (31:Int))) (a69) (etT (dyS (1997:Int) (1:Int) (1:Int))) (etT (dyS (1997:Int) (4:Int) (1:Int)))).fst [etT (dyS (1997:Int) (1:Int) (31:Int)),etT (dyS (1997:Int) (2:Int) (28:Int)),etT (dyS (1997:Int) (3:Int) (28:Int))]=true->Q false))/\(¬(o8 (etT (dyS (1997:Int) (1:Int) (31:Int))) (a69) (etT (dyS (1997:Int) (1:Int) (1:Int))) (etT (dyS (1997:Int) (4:Int) (1:Int)))).snd.nr+(o8 (etT (dyS (1997:Int) (8:Int) (5:Int))) (U6 (0:Int)) (etT (dyS (1997:Int) (8:Int) (1:Int))) (etT (dyS (1997:Int) (8:Int) (25:Int)))).snd.nr+(o8 (etT (dyS (1997:Int) (8:Int) (5:Int))) (U6 (6:Int)) (etT (dyS (1997:Int) (8:Int) (1:Int))) (etT (dyS (1997:Int) (9:Int) (1:Int)))).snd.nr=(0:Int)->Q false)
theorem e1u  {Q:Bool->Prop}:@Eq Prop (Val  Q) (i6 (E:=Nld) (j7 Nld H0 c0p 3) (c0p 12) Tryz.f12 [] [] [] 0 (n7 Nld [.bool] Q)):=by kernel_rfl
theorem d4x  {Q:Bool->Prop} (h:Val  Q):i6 (E:=Nld) (j7 Nld H0 c0p 3) (c0p 12) Tryz.f12 [] [] [] 0 (n7 Nld [.bool] Q):=by rw [<- e1u]; exact h
theorem pal   : Val  (fun y0=>y0=true):=by
 unfold Val
 simp only [a3w]
 rw [e03,d5x,c48]
 have st:∀ l:List Tm,P9 l l=true:=fun l=>decide_eq_true rfl
 exact ⟨by decide,by decide,by decide,⟨by decide,by decide⟩,⟨by decide,by decide⟩,fun _=>⟨by decide,fun _=>⟨by decide,fun _=>⟨by decide,decide_eq_true (st _)⟩,fun h=>absurd (st _) h⟩,fun h=>absurd (st _) h⟩,fun h=>absurd rfl h⟩
def cal (a:List (SV U)):Option (Q1 U):=match a with | []=>some ⟨[],[],blB true⟩ | _=>none
theorem e1e (args:List (SV U)) (q:Q1 U) (h:cal args=some q) (ho:m6 q.ob):l8 Nld 12 args ⟨q.ob,q.hy,q.v,[]⟩:=by
 unfold cal at h
 split at h
 . cases h
   exact s8 b4h (j8 b4h q8 c0p 3) Tryz.func12 (k:=.bool) (x:=true) trivial (d4x (pal  )) 0
 . cases h
noncomputable def Nal:Env:=Nld.addL 12 cal
theorem b4j:l5 Nal:=b4h.addL Tryz.call12 e1e
def c2k:Nat->Ann:=fun | 11=>⟨31,fun _=>none,fun _=>none⟩ | _=>⟨0,fun _=>none,fun _=>none⟩
def Vln (s:Tm) (r:Rl) (t:Tm) (Q:Bool->Prop):Prop :=
(¬q7 (Tm.mk (Dy.mk s.Day.Year s.Day.Month s.Day.Date) s.Hour s.Min s.Sec (decide (s.Bare=true)) (decide (s.UTC=true)))=true ∨ ¬q7 (Tm.mk (Dy.mk t.Day.Year t.Day.Month t.Day.Date) t.Hour t.Min t.Sec (decide (t.Bare=true)) (decide (t.UTC=true)))=true->Q true)/\(¬(¬q7 (Tm.mk (Dy.mk s.Day.Year s.Day.Month s.Day.Date) s.Hour s.Min s.Sec (decide (s.Bare=true)) (decide (s.UTC=true)))=true ∨ ¬q7 (Tm.mk (Dy.mk t.Day.Year t.Day.Month t.Day.Date) t.Hour t.Min t.Sec (decide (t.Bare=true)) (decide (t.UTC=true)))=true)->((0:Int)<=bif true then max (0:Int) (bif false then max r.Freq (6:Int) else min r.Freq (6:Int)) else min (0:Int) (bif false then max r.Freq (6:Int) else min r.Freq (6:Int)))/\(bif true then max (0:Int) (bif false then max r.Freq (6:Int) else min r.Freq (6:Int)) else min (0:Int) (bif false then max r.Freq (6:Int) else min r.Freq (6:Int)))<(↑[(3000:Int),(3000:Int),(1500:Int),(700:Int),(60:Int),(4:Int),(1:Int)].length:Int)/\(b8 (ix [(3000:Int),(3000:Int),(1500:Int),(700:Int),(60:Int),(4:Int),(1:Int)] (bif true then max (0:Int) (bif false then max r.Freq (6:Int) else min r.Freq (6:Int)) else min (0:Int) (bif false then max r.Freq (6:Int) else min r.Freq (6:Int))))->b8 (i4 (Tm.mk (Dy.mk t.Day.Year t.Day.Month t.Day.Date) t.Hour t.Min t.Sec (decide (t.Bare=true)) (decide (t.UTC=true)))-i4 (Tm.mk (Dy.mk s.Day.Year s.Day.Month s.Day.Date) s.Hour s.Min s.Sec (decide (s.Bare=true)) (decide (s.UTC=true))))/\b8 ((86400:Int) * ix [(3000:Int),(3000:Int),(1500:Int),(700:Int),(60:Int),(4:Int),(1:Int)] (bif true then max (0:Int) (bif false then max r.Freq (6:Int) else min r.Freq (6:Int)) else min (0:Int) (bif false then max r.Freq (6:Int) else min r.Freq (6:Int))))/\Q (decide (i4 (Tm.mk (Dy.mk t.Day.Year t.Day.Month t.Day.Date) t.Hour t.Min t.Sec (decide (t.Bare=true)) (decide (t.UTC=true)))-i4 (Tm.mk (Dy.mk s.Day.Year s.Day.Month s.Day.Date) s.Hour s.Min s.Sec (decide (s.Bare=true)) (decide (s.UTC=true)))<=(86400:Int) * ix [(3000:Int),(3000:Int),(1500:Int),(700:Int),(60:Int),(4:Int),(1:Int)] (bif true then max (0:Int) (bif false then max r.Freq (6:Int) else min r.Freq (6:Int)) else min (0:Int) (bif false then max r.Freq (6:Int) else min r.Freq (6:Int)))))))
theorem d1c {s:Tm} {r:Rl} {t:Tm} {Q:Bool->Prop}:@Eq Prop (Vln s r t Q) (i6 (E:=Nal) (j7 Nal H0 c2k 2) (c2k 11) Tryz.f11 [.agg [.int .i64 s.Day.Year,.int .i64 s.Day.Month,.int .i64 s.Day.Date,.int .i64 s.Hour,.int .i64 s.Min,.int .i64 s.Sec,blB s.Bare,blB s.UTC],.agg [.int .i64 r.Freq,.int .i64 r.Interval,.int .i64 r.Count,.sl (N:=U) 25 r.Until,.sl (N:=U) 3 r.Month,.sl (N:=U) 3 r.WeekNo,.sl (N:=U) 3 r.YearDay,.sl (N:=U) 3 r.MonthDay,.sl (N:=U) 60 r.Days,.sl (N:=U) 3 r.Hour,.sl (N:=U) 3 r.Minute,.sl (N:=U) 3 r.Second,.sl (N:=U) 3 r.SetPos,.int .i64 r.Wkst],.agg [.int .i64 t.Day.Year,.int .i64 t.Day.Month,.int .i64 t.Day.Date,.int .i64 t.Hour,.int .i64 t.Min,.int .i64 t.Sec,blB t.Bare,blB t.UTC]] [] [] 0 (n7 Nal [.bool] Q)):=by kernel_rfl
theorem d3s {s:Tm} {r:Rl} {t:Tm} {Q:Bool->Prop} (h:Vln s r t Q):i6 (E:=Nal) (j7 Nal H0 c2k 2) (c2k 11) Tryz.f11 [.agg [.int .i64 s.Day.Year,.int .i64 s.Day.Month,.int .i64 s.Day.Date,.int .i64 s.Hour,.int .i64 s.Min,.int .i64 s.Sec,blB s.Bare,blB s.UTC],.agg [.int .i64 r.Freq,.int .i64 r.Interval,.int .i64 r.Count,.sl (N:=U) 25 r.Until,.sl (N:=U) 3 r.Month,.sl (N:=U) 3 r.WeekNo,.sl (N:=U) 3 r.YearDay,.sl (N:=U) 3 r.MonthDay,.sl (N:=U) 60 r.Days,.sl (N:=U) 3 r.Hour,.sl (N:=U) 3 r.Minute,.sl (N:=U) 3 r.Second,.sl (N:=U) 3 r.SetPos,.int .i64 r.Wkst],.agg [.int .i64 t.Day.Year,.int .i64 t.Day.Month,.int .i64 t.Day.Date,.int .i64 t.Hour,.int .i64 t.Min,.int .i64 t.Sec,blB t.Bare,blB t.UTC]] [] [] 0 (n7 Nal [.bool] Q):=by rw [<- d1c]; exact h
theorem pln (s:Tm) (r:Rl) (t:Tm)  : Vln s r t (fun y0=>y0=b1g s r t):=by
 unfold Vln b1g
 simp only [Bool.decide_eq_true]
 rw [show (Tm.mk (Dy.mk s.Day.Year s.Day.Month s.Day.Date) s.Hour s.Min s.Sec s.Bare s.UTC)=s from rfl,show (Tm.mk (Dy.mk t.Day.Year t.Day.Month t.Day.Date) t.Hour t.Min t.Sec t.Bare t.UTC)=t from rfl]
 have b0:∀ a b:Int,(bif false then max a b else min a b)=min a b:=fun _ _=>rfl
 have b1:∀ a b:Int,(bif true then max a b else min a b)=max a b:=fun _ _=>rfl
 simp only [b0,b1]
 rw [show ([3000,3000,1500,700,60,4,1]:List Int)=c5i from rfl]
 refine ⟨fun h=>by rw [if_pos h],fun h=>?_⟩
 have hs:q7 s=true:=Classical.not_not.1 fun hn=>h (.inl hn)
 have ht:q7 t=true:=Classical.not_not.1 fun hn=>h (.inr hn)
 have a:=D6 hs
 have b:=D6 ht
 have c:=d6g (i:=max 0 (min r.Freq 6)) (by omega) (by omega)
 have el:(c5i.length:Int)=7:=rfl
 refine ⟨by omega,by rw [el]; omega,fun _=>⟨⟨by omega,by omega⟩,⟨by omega,by omega⟩,by rw [if_neg h]⟩⟩
noncomputable def e41 (s:Tm) (r:Rl) (t:Tm):Q1 U:=⟨[],[],blB (b1g s r t)⟩
noncomputable def cln (a:List (SV U)):Option (Q1 U):=match a with | [.agg l_s,.agg l_r,.agg l_t]=>(y25.bk (.agg l_s)).bind fun s=>(y30.bk (.agg l_r)).bind fun r=>(y25.bk (.agg l_t)).bind fun t=>some (e41 s r t) | _=>none
theorem d2o (args:List (SV U)) (q:Q1 U) (h:cln args=some q) (ho:m6 q.ob):l8 Nal 11 args ⟨q.ob,q.hy,q.v,[]⟩:=by
 unfold cln at h
 split at h
 . rename_i l_s l_r l_t
   obtain ⟨s,hb_s,h⟩:=Option.bind_eq_some_iff.1 h
   obtain ⟨r,hb_r,h⟩:=Option.bind_eq_some_iff.1 h
   obtain ⟨t,hb_t,h⟩:=Option.bind_eq_some_iff.1 h
   cases h
   refine l8.conv (E:=Nal) (args':=[.agg [.int .i64 s.Day.Year,.int .i64 s.Day.Month,.int .i64 s.Day.Date,.int .i64 s.Hour,.int .i64 s.Min,.int .i64 s.Sec,blB s.Bare,blB s.UTC],.agg [.int .i64 r.Freq,.int .i64 r.Interval,.int .i64 r.Count,.sl 25 r.Until,.sl 3 r.Month,.sl 3 r.WeekNo,.sl 3 r.YearDay,.sl 3 r.MonthDay,.sl 60 r.Days,.sl 3 r.Hour,.sl 3 r.Minute,.sl 3 r.Second,.sl 3 r.SetPos,.int .i64 r.Wkst],.agg [.int .i64 t.Day.Year,.int .i64 t.Day.Month,.int .i64 t.Day.Date,.int .i64 t.Hour,.int .i64 t.Min,.int .i64 t.Sec,blB t.Bare,blB t.UTC]]) (s8 b4j (j8 b4j q8 c2k 2) Tryz.func11 (k:=.bool) trivial (d3s (pln s r t )) 0) fun D w vs hr=>z8 [.agg l_s,.agg l_r,.agg l_t] [.agg [.int .i64 s.Day.Year,.int .i64 s.Day.Month,.int .i64 s.Day.Date,.int .i64 s.Hour,.int .i64 s.Min,.int .i64 s.Sec,blB s.Bare,blB s.UTC],.agg [.int .i64 r.Freq,.int .i64 r.Interval,.int .i64 r.Count,.sl (N:=U) 25 r.Until,.sl (N:=U) 3 r.Month,.sl (N:=U) 3 r.WeekNo,.sl (N:=U) 3 r.YearDay,.sl (N:=U) 3 r.MonthDay,.sl (N:=U) 60 r.Days,.sl (N:=U) 3 r.Hour,.sl (N:=U) 3 r.Minute,.sl (N:=U) 3 r.Second,.sl (N:=U) 3 r.SetPos,.int .i64 r.Wkst],.agg [.int .i64 t.Day.Year,.int .i64 t.Day.Month,.int .i64 t.Day.Date,.int .i64 t.Hour,.int .i64 t.Min,.int .i64 t.Sec,blB t.Bare,blB t.UTC]] _ ⟨fun _ h=>A0 hb_s h,fun _ h=>C6 hb_r h,fun _ h=>A0 hb_t h,trivial⟩ hr
 . cases h
noncomputable def Nln:Env:=Nal.addL 11 cln
theorem c4a:l5 Nln:=b4j.addL Tryz.call11 d2o
end Go.Proofs.YtdjfeninmbpflaaGreat
end
section
namespace Go.Re
open Go Go.Wk Go.Wl Go.Rx
abbrev Up (l:List Int):Prop:=l.Pairwise (· < ·)
theorem e3a {l:List Int} (h:UpL l):Up l:=List.pairwise_iff_getElem.2 fun i j hi hj hij=>b06 h j i hij hj
theorem e0y (n:Nat):Up (a68 n):=by
 unfold a68
 refine List.pairwise_map.2 (List.pairwise_lt_range.imp fun h=>?_)
 show ((_:Nat):Int)<((_:Nat):Int)
 omega
theorem a5y {l:List Int} {f:Bool} {own all:Int} (h:UpL l):Up (l6 l f own all):=by
 unfold l6
 split
 . exact e3a h
 . split
   . exact e0y _
   . exact List.pairwise_singleton ..
theorem a6p {n x:Int} {l:List Int} (h:inB n l) (hx:x∈l):0<=x/\x<=n:=by
 obtain ⟨i,i0,i1,rfl⟩:=D9 hx
 exact h i i0 i1
theorem a8i {fr to b:Int}:∀ {l:List Int},Up l->Up (Y6 fr to b l)
 | [],_=>List.Pairwise.nil
 | s::r,h=>by
  obtain ⟨h1,h2⟩:=List.pairwise_cons.1 h
  unfold Y6
  split
  . refine List.pairwise_cons.2 ⟨fun t ht=>?_,a8i h2⟩
    obtain ⟨u,hu,e,_⟩:=W4.1 ht
    have:=h1 u hu
    omega
  . exact a8i h2
theorem a90 {fr to b:Int} {ss:List Int} (hs:inB 59 ss) (us:Up ss):∀ {l:List Int},Up l->Up (S3 fr to b ss l)
 | [],_=>List.Pairwise.nil
 | m::r,h=>by
  obtain ⟨h1,h2⟩:=List.pairwise_cons.1 h
  unfold S3
  split
  . exact a90 hs us h2
  . refine List.pairwise_append.2 ⟨a8i us,a90 hs us h2,fun t ht u hu=>?_⟩
    obtain ⟨x,hx,e,_⟩:=W4.1 ht
    obtain ⟨m2,hm2,y,hy,e2,_⟩:=(a0u hs).1 hu
    have:=h1 m2 hm2
    have:=a6p hs hx
    have:=a6p hs hy
    omega
theorem a99 {fr to:Int} {ms ss:List Int} (hm:inB 59 ms) (hs:inB 59 ss) (um:Up ms) (us:Up ss):∀ {l:List Int},Up l->Up (T9 fr to ms ss l)
 | [],_=>List.Pairwise.nil
 | m::r,h=>by
  obtain ⟨h1,h2⟩:=List.pairwise_cons.1 h
  unfold T9
  split
  . exact a99 hm hs um us h2
  . refine List.pairwise_append.2 ⟨a90 hs us um,a99 hm hs um us h2,fun t ht u hu=>?_⟩
    obtain ⟨m1,hm1,x,hx,e,_⟩:=(a0u hs).1 ht
    obtain ⟨k,hk,m2,hm2,y,hy,e2,_⟩:=(a4k hm hs).1 hu
    have:=h1 k hk
    have:=a6p hs hx
    have:=a6p hs hy
    have:=a6p hm hm1
    have:=a6p hm hm2
    omega
theorem c90 {s:Tm} {r:Rl} {fr to:Int} (hF:u6 s r):Up (P6 s r fr to):=by
 have L:=(o0.1 hF.rr).lists
 exact a99 (b3b hF) (b4n hF) (a5y L.mi.up) (a5y L.se.up) (a5y L.ho.up)
theorem c97 {s:Tm} {r:Rl} {c:Int} (h:c∈I5 s r):0<=c/\c<86400:=b7w 24 (by omega) _ h
def c6s (s:Tm) (r:Rl) (day t:Int):Prop:=Y9 s r day (t / 86400+1)=true/\t % 86400∈I5 s r
theorem b2k {s:Tm} {r:Rl} {day fr to n t:Int} (hF:u6 s r):t∈a5s s r day fr to n↔(c6s s r day t/\t / 86400+1=n)/\fr<=t/\t<to:=by
 unfold a5s c6s
 constructor
 . intro h
   split at h
   . rename_i hd
     obtain ⟨c,hc,rfl⟩:=List.mem_map.1 h
     obtain ⟨h1,h2,h3⟩:=(b2x hF).1 hc
     have:=c97 h1
     have e1:((n-1) * 86400+c) / 86400+1=n:=by omega
     have e2:((n-1) * 86400+c) % 86400=c:=by omega
     rw [e1,e2]
     exact ⟨⟨⟨hd,h1⟩,rfl⟩,by omega,by omega⟩
   . cases h
 . rintro ⟨⟨⟨h1,h2⟩,rfl⟩,h3,h4⟩
   rw [if_pos h1]
   refine List.mem_map.2 ⟨t % 86400,(b2x hF).2 ⟨h2,by omega,by omega⟩,by omega⟩
theorem c9d {s:Tm} {r:Rl} {day fr to n:Int} (hF:u6 s r):Up (a5s s r day fr to n):=by
 unfold a5s
 split
 . exact List.pairwise_map.2 ((c90 hF).imp fun h=>by omega)
 . exact List.Pairwise.nil
theorem a4v {s:Tm} {r:Rl} {day fr to t:Int} (hF:u6 s r):∀ {k:Nat} {n:Int},t∈a07 s r day fr to k n↔(c6s s r day t/\n<=t / 86400+1/\t / 86400+1<n+k)/\fr<=t/\t<to
 | 0,n=>by
  unfold a07
  constructor
  . intro h; cases h
  . rintro ⟨⟨_,h1,h2⟩,_⟩; omega
 | k+1,n=>by
  unfold a07
  rw [List.mem_append,b2k hF,a4v hF]
  constructor
  . rintro (⟨⟨a,b⟩,c⟩ | ⟨⟨a,b⟩,c⟩)
    . exact ⟨⟨a,by omega⟩,c⟩
    . exact ⟨⟨a,by omega⟩,c⟩
  . rintro ⟨⟨a,b⟩,c⟩
    by_cases e:t / 86400+1=n
    . exact .inl ⟨⟨a,e⟩,c⟩
    . exact .inr ⟨⟨a,by omega⟩,c⟩
theorem b6z {s:Tm} {r:Rl} {day fr to:Int} (hF:u6 s r):∀ {k:Nat} {n:Int},Up (a07 s r day fr to k n)
 | 0,_=>List.Pairwise.nil
 | k+1,n=>by
  unfold a07
  refine List.pairwise_append.2 ⟨c9d hF,b6z hF,fun t ht u hu=>?_⟩
  have:=(b2k hF).1 ht
  have:=(a4v hF).1 hu
  omega
theorem c1l {s:Tm} {r:Rl} {day fr to t:Int} (hF:u6 s r):t∈a30 s r day fr to↔c6s s r day t/\fr<=t/\t<to:=by
 unfold a30
 rw [a4v hF]
 constructor
 . rintro ⟨⟨a,_⟩,b⟩; exact ⟨a,b⟩
 . rintro ⟨a,b⟩; exact ⟨⟨a,by omega⟩,b⟩
theorem c94 {s:Tm} {r:Rl} {day fr to:Int} (hF:u6 s r):Up (a30 s r day fr to):=b6z hF
theorem a27 {sp:List Int} {n:Int}:∀ {l:List Int} {i:Int},(K8 sp n i l).Sublist l
 | [],_=>List.Sublist.slnil
 | t::l,i=>by
  rw [R4]
  split
  . exact List.Sublist.cons_cons _ a27
  . exact List.Sublist.cons _ a27
theorem b1s {r:Rl} {l:List Int}:(I0 r l).Sublist l:=by
 unfold I0
 split
 . exact List.Sublist.refl _
 . exact a27
theorem b7d {s:Tm} {r:Rl} {day i:Int} (hF:u6 s r):Up (w7 s r day i):=(c94 hF).sublist b1s
theorem a3k {s:Tm} {r:Rl} {day i t:Int} (hF:u6 s r) (h:t∈w7 s r day i):c6s s r day t/\s6 r i<=t/\t<s6 r (i+1):=(c1l hF).1 (b1s.subset h)
structure LoP (r:Rl) (i:Int):Prop where
 a:0<=i
 y:r.Freq=0->1<=i
 m:r.Freq=1->12<=i
 d:r.Freq=3->1<=i
theorem LoP.up {r:Rl} {i j:Int} (h:LoP r i) (hj:i<=j):LoP r j:=by
 obtain ⟨a,b,c,d⟩:=h
 exact ⟨by omega,fun e=>by have:=b e; omega,fun e=>by have:=c e; omega,fun e=>by have:=d e; omega⟩
theorem W3 {y m:Int} (y0:1<=y) (y1:y<=9999) (m0:1<=m) (m1:m<=12):A9 ⟨y,m,1⟩:=by
 have:=a3h y0 y1 m0 m1
 exact ⟨Int.le_refl 1,by show (1:Int)<=u9 y m; omega⟩
theorem b25 {d:Dy} {y m:Int} (h:A9 d) (y0:1<=y) (y1:y<=9999) (m0:1<=m) (m1:m<=12):F6 ⟨y,m,1⟩<=F6 d↔12 * y+m<=12 * d.Year+d.Month:=by
 have hr:=W3 y0 y1 m0 m1
 obtain ⟨a0,a1⟩:=V3 h
 obtain ⟨b0,b1⟩:=V3 hr
 obtain ⟨c0,c1,c2,c3,c4,c5⟩:=h.ym
 have h2:=h.2
 have b0:j4 y<F6 ⟨y,m,1⟩:=b0
 have b1:F6 ⟨y,m,1⟩<=j4 (y+1):=b1
 have e1:F6 ⟨y,m,1⟩=j4 y+G7 y m+1:=rfl
 have e2:F6 d=j4 d.Year+G7 d.Year d.Month+d.Date:=rfl
 rcases Int.lt_trichotomy y d.Year with hl | hl | hl
 . have:=w8 (show y+1<=d.Year by omega)
   constructor <;> intro <;> omega
 . subst hl
   rcases Int.lt_trichotomy m d.Month with hm | hm | hm
   . have:=a1b y0 y1 m0 c3 hm
     have:=a3h y0 y1 m0 m1
     constructor <;> intro <;> omega
   . subst hm
     constructor <;> intro <;> omega
   . have:=a1b y0 y1 c2 m1 hm
     constructor <;> intro <;> omega
 . have:=w8 (show d.Year+1<=y by omega)
   constructor <;> intro <;> omega
theorem a8m {n t:Int} (h0:1<=n) (t1:t<315537897600):nbP n<=t↔n<=t / 86400+1:=by
 unfold nbP
 split <;> omega
theorem a05 {r:Rl} {i t:Int} (hi:LoP r i) (t0:0<=t) (t1:t<315537897600):s6 r i<=t↔i<=q9 r t:=by
 obtain ⟨hd,hn⟩:=T0 (n:=t / 86400+1) (by omega) (by omega)
 obtain ⟨c0,c1,c2,c3,_⟩:=hd.ym
 have a:=hi.a
 unfold s6 q9 a35
 generalize ofS (t / 86400+1)=D at *
 by_cases f0:r.Freq=0
 . have b:=hi.y f0
   rw [if_pos f0,if_pos f0,if_neg (by omega)]
   by_cases hy:i<=9999
   . have hr:=W3 b hy (by decide:(1:Int)<=1) (by decide)
     have e:p7 ⟨i,1,1⟩=F6 ⟨i,1,1⟩:=by unfold p7; rw [if_pos hr]
     rw [e,a8m (S5 hr).1 t1,<- hn,b25 hd b hy (by decide) (by decide)]
     constructor <;> intro <;> omega
   . have e:p7 ⟨i,1,1⟩=0:=by
       unfold p7
       rw [if_neg fun h=>?_]
       have:i<=9999:=h.ym.2.1
       omega
     rw [e]
     unfold nbP
     rw [if_pos (.inl rfl)]
     constructor <;> intro <;> omega
 rw [if_neg f0,if_neg f0]
 by_cases f1:r.Freq=1
 . have b:=hi.m f1
   rw [if_pos f1,if_pos f1,if_pos f1]
   by_cases hy:i / 12<=9999
   . have hr:=W3 (y:=i / 12) (m:=i % 12+1) (by omega) hy (by omega) (by omega)
     have e:p7 ⟨i / 12,i % 12+1,1⟩=F6 ⟨i / 12,i % 12+1,1⟩:=by unfold p7; rw [if_pos hr]
     rw [e,a8m (S5 hr).1 t1,<- hn,b25 hd (by omega) hy (by omega) (by omega)]
     constructor <;> intro <;> omega
   . have e:p7 ⟨i / 12,i % 12+1,1⟩=0:=by
       unfold p7
       rw [if_neg fun h=>?_]
       have:i / 12<=9999:=h.ym.2.1
       omega
     rw [e]
     unfold nbP
     rw [if_pos (.inl rfl)]
     constructor <;> intro <;> omega
 rw [if_neg f1,if_neg f1,if_neg f1]
 by_cases f2:r.Freq=2
 . rw [if_pos f2,if_pos f2,a8m (by omega) t1]
   constructor <;> intro <;> omega
 rw [if_neg f2,if_neg f2]
 by_cases f3:r.Freq=3
 . have b:=hi.d f3
   rw [if_pos f3,if_pos f3,a8m b t1]
   constructor <;> intro <;> omega
 rw [if_neg f3,if_neg f3]
 by_cases f4:r.Freq=4
 . rw [if_pos f4,if_pos f4]; constructor <;> intro <;> omega
 rw [if_neg f4,if_neg f4]
 by_cases f5:r.Freq=5
 . rw [if_pos f5,if_pos f5]; constructor <;> intro <;> omega
 rw [if_neg f5,if_neg f5]
 constructor <;> intro <;> omega
theorem V8 {r:Rl} {i j:Int} (hi:LoP r i) (hj:i<=j):s6 r i<=s6 r j:=by
 obtain ⟨a0,a1⟩:=K9 (r:=r) hi.a
 obtain ⟨b0,b1⟩:=K9 (r:=r) (i:=j) (by have:=hi.a; omega)
 by_cases h:s6 r j<315537897600
 . exact (a05 hi b0 h).2 (Int.le_trans hj ((a05 (hi.up hj) b0 h).1 (Int.le_refl _)))
 . omega
theorem a2a {r:Rl} {t:Int} (t0:0<=t) (t1:t<315537897600) (w0:0<=r.Wkst) (w1:r.Wkst<=6):LoP r (q9 r t):=by
 obtain ⟨hd,hn⟩:=T0 (n:=t / 86400+1) (by omega) (by omega)
 obtain ⟨c0,c1,c2,c3,_⟩:=hd.ym
 refine ⟨(a3b t0 t1 w0 w1).1,fun f=>?_,fun f=>?_,fun f=>?_⟩
 . unfold q9 a35; rw [if_pos f,if_neg (by omega)]; omega
 . unfold q9 a35; rw [if_neg (by omega),if_pos f,if_pos f]; omega
 . unfold q9 a35; rw [if_neg (by omega),if_neg (by omega),if_neg (by omega),if_pos f,if_neg (by omega)]; omega
theorem c51 {r:Rl} {t u:Int} (t0:0<=t) (h:t<=u) (u1:u<315537897600) (w0:0<=r.Wkst) (w1:r.Wkst<=6):q9 r t<=q9 r u:=by
 have hl:=a2a (r:=r) (t:=t) t0 (by omega) w0 w1
 have:=(a05 hl t0 (by omega)).2 (Int.le_refl _)
 exact (a05 hl (by omega) u1).1 (by omega)
end Go.Re
end
section
namespace Go.Re
open Go Go.Wk Go.Wl Go.Rx
def M7 (s:Tm) (r:Rl) (day i0:Int):Nat->Int->List Int
 | 0,_=>[]
 | n+1,k=>w7 s r day (i0+k * r.Interval)++M7 s r day i0 n (k+1)
def J4 (r:Rl) (c:Int) (l:List Int):List Int:=if 0<r.Count then l.take (r.Count-c).toNat else l
def PT (first to til t:Int):Bool:=decide (first<t/\t<to/\t<=til)
theorem K4 {first to til t:Int}:PT first to til t=true↔first<t/\t<to/\t<=til:=decide_eq_true_iff
theorem a3q {r:Rl} {c:Int}:J4 r c []=[]:=by unfold J4; split <;> simp
theorem d0h {r:Rl} {c:Int} {l:List Int} (h:0<r.Count) (h1:r.Count<=c):J4 r c l=[]:=by
 unfold J4
 rw [if_pos h,show (r.Count-c).toNat=0 by omega,List.take_zero]
theorem b37 {r:Rl} {c:Int} {l:List Int} (h:¬ 0<r.Count):J4 r c l=l:=if_neg h
theorem c3c {r:Rl} {c t:Int} {l:List Int} (h:¬ (0<r.Count/\r.Count<=c)):J4 r c (t::l)=t::J4 r (c+1) l:=by
 unfold J4
 by_cases hc:0<r.Count
 . rw [if_pos hc,if_pos hc,show (r.Count-c).toNat=(r.Count-(c+1)).toNat+1 by omega,List.take_succ_cons]
 . rw [if_neg hc,if_neg hc]
theorem c92 {r:Rl} {c:Int} {A B:List Int}:J4 r c (A++B)=J4 r c A++J4 r (c+(J4 r c A).length) B:=by
 unfold J4
 by_cases hc:0<r.Count
 . rw [if_pos hc,if_pos hc,if_pos hc,List.take_append,List.length_take]
   congr 2
   omega
 . rw [if_neg hc,if_neg hc,if_neg hc]
theorem filter_nil {p:Int->Bool} {l:List Int} (h:∀ t∈l,¬ p t=true):l.filter p=[]:=List.filter_eq_nil_iff.2 h
theorem a9u {r:Rl} {first to til:Int}:∀ {L:List Int} {c:Int},Up L ->
  a06 r first to til c L=(J4 r c (L.filter (PT first to til)),c+(J4 r c (L.filter (PT first to til))).length)
 | [],c,_=>by
  rw [List.filter_nil,a3q]
  unfold a06
  simp
 | t::L,c,h=>by
  obtain ⟨h1,h2⟩:=List.pairwise_cons.1 h
  unfold a06
  by_cases hf:t<=first
  . rw [if_pos hf,List.filter_cons_of_neg (by rw [K4]; omega)]
    exact a9u h2
  rw [if_neg hf]
  by_cases hb:(to<=t ∨ til<t) ∨ (0<r.Count/\r.Count<=c)
  . have e:J4 r c ((t::L).filter (PT first to til))=[]:=by
      rcases hb with hb | hb
      . rw [filter_nil,a3q]
        intro u hu
        have:t<=u:=by
         rcases List.mem_cons.1 hu with rfl | hu
         . exact Int.le_refl _
         . exact Int.le_of_lt (h1 u hu)
        rw [K4]; omega
      . exact d0h hb.1 hb.2
    rw [if_pos hb,e]
    simp
  . rw [if_neg hb,List.filter_cons_of_pos (K4.2 (by omega)),c3c (fun hh=>hb (.inr hh)),a9u h2,List.length_cons]
    refine Prod.ext rfl ?_
    show c+1+_=_
    rw [Int.natCast_add]
    omega
section
variable {s:Tm} {r:Rl} {day first to til i0 k c t:Int} {n:Nat}
theorem N4 (hF:u6 s r):1<=r.Interval:=(o0.1 hF.rr).head.2.2.1
theorem b1k (hF:u6 s r):0<=r.Wkst/\r.Wkst<=6:=(o0.1 hF.rr).head.2.2.2.2.2.2
theorem a56 {a b I:Int} (hI:1<=I) (h:a<=b):a * I<=b * I:=Int.mul_le_mul_of_nonneg_right h (by omega)
theorem mul_succ {a I:Int}:(a+1) * I=a * I+I:=by rw [Int.add_mul,Int.one_mul]
theorem LoP.at (hl:LoP r (i0+k * r.Interval)) (hI:1<=r.Interval) {j:Int} (hj:k<=j):LoP r (i0+j * r.Interval):=by
 have:=a56 hI hj
 exact hl.up (by omega)
theorem a5z:∀ {n:Nat} {k:Int},t∈M7 s r day i0 n k↔∃ j:Int,k<=j/\j<k+n/\t∈w7 s r day (i0+j * r.Interval)
 | 0,k=>by
  unfold M7
  constructor
  . intro h; cases h
  . rintro ⟨j,h1,h2,_⟩; omega
 | n+1,k=>by
  unfold M7
  rw [List.mem_append,a5z]
  constructor
  . rintro (h | ⟨j,h1,h2,h3⟩)
    . exact ⟨k,by omega,by omega,h⟩
    . exact ⟨j,by omega,by omega,h3⟩
  . rintro ⟨j,h1,h2,h3⟩
    by_cases e:j=k
    . subst e; exact .inl h3
    . exact .inr ⟨j,by omega,by omega,h3⟩
theorem a9y (hF:u6 s r) {i:Int} (hl:LoP r i) (h:t∈w7 s r day i):t<315537897600:=by
 have:=(a3k hF h).2.2
 have:=(K9 (r:=r) (i:=i+1) (by have:=hl.a; omega)).2
 omega
theorem a7z (hF:u6 s r) (hl:LoP r (i0+k * r.Interval)) (h:t∈M7 s r day i0 n k):s6 r (i0+k * r.Interval)<=t/\t<s6 r (i0+(k+n) * r.Interval)/\t<315537897600:=by
 obtain ⟨j,h1,h2,h3⟩:=a5z.1 h
 have hI:=N4 hF
 have a:=a56 hI h1
 have b:=a56 hI (show j+1<=k+n by omega)
 rw [mul_succ] at b
 have hj:=hl.at hI h1
 have c:=a3k hF h3
 have d:=V8 hl (show i0+k * r.Interval<=i0+j * r.Interval by omega)
 have e:=V8 (hj.up (j:=i0+j * r.Interval+1) (by omega)) (show i0+j * r.Interval+1<=i0+(k+n) * r.Interval by omega)
 have f:=a9y hF hj h3
 exact ⟨by omega,by omega,f⟩
theorem b6n (hF:u6 s r):∀ {n:Nat} {k:Int},LoP r (i0+k * r.Interval)->Up (M7 s r day i0 n k)
 | 0,_,_=>List.Pairwise.nil
 | n+1,k,hl=>by
  have hI:=N4 hF
  have h2:LoP r (i0+(k+1) * r.Interval):=hl.at hI (by omega)
  unfold M7
  refine List.pairwise_append.2 ⟨b7d hF,b6n hF h2,fun t ht u hu=>?_⟩
  have a:=a3k hF ht
  have b:=a7z hF h2 hu
  have c:=V8 (hl.up (j:=i0+k * r.Interval+1) (by omega)) (show i0+k * r.Interval+1<=i0+(k+1) * r.Interval by rw [mul_succ]; omega)
  omega
theorem U2.up {b b' c':Int} (h:U2 r to til b c) (hb:b<=b') (hc:c<=c'):U2 r to til b' c':=by
 unfold U2 at h ⊢
 omega
theorem b6l (hF:u6 s r):∀ {n:Nat} {k c:Int},LoP r (i0+k * r.Interval) ->
  (Y7 s r day first to til i0 n k c).1=J4 r c ((M7 s r day i0 n k).filter (PT first to til)) /\
  ((Y7 s r day first to til i0 n k c).2=true↔¬ U2 r to til (s6 r (i0+(k+n) * r.Interval)) (c+(J4 r c ((M7 s r day i0 n k).filter (PT first to til))).length))
 | 0,k,c,hl=>by
  have e:M7 s r day i0 0 k=[]:=rfl
  rw [e,List.filter_nil,a3q,show k+((0:Nat):Int)=k by omega,show c+(([]:List Int).length:Int)=c by simp]
  unfold Y7
  by_cases he:U2 r to til (s6 r (i0+k * r.Interval)) c
  . rw [if_pos he]; exact ⟨rfl,fun h=>absurd h Bool.false_ne_true,fun h=>absurd he h⟩
  . rw [if_neg he]; exact ⟨rfl,fun _=>he,fun _=>rfl⟩
 | n+1,k,c,hl=>by
  have hI:=N4 hF
  have h2:LoP r (i0+(k+1) * r.Interval):=hl.at hI (by omega)
  by_cases he:U2 r to til (s6 r (i0+k * r.Interval)) c
  . have e:J4 r c ((M7 s r day i0 (n+1) k).filter (PT first to til))=[]:=by
      by_cases hc:0<r.Count/\r.Count<=c
      . exact d0h hc.1 hc.2
      . rw [filter_nil,a3q]
        intro u hu
        have g:=a7z hF hl hu
        unfold U2 at he
        rw [K4]; omega
    have a:=a56 hI (show k<=k+((n+1:Nat):Int) by omega)
    have m:=V8 hl (show i0+k * r.Interval<=i0+(k+((n+1:Nat):Int)) * r.Interval by omega)
    rw [e]
    unfold Y7
    rw [if_pos he]
    exact ⟨rfl,fun h=>absurd h Bool.false_ne_true,fun h=>absurd (he.up m (by show c<=c+((0:Nat):Int); omega)) h⟩
  . have ic:=a9u (r:=r) (first:=first) (to:=to) (til:=til) (c:=c) (b7d (day:=day) (i:=i0+k * r.Interval) hF)
    have ih:=b6l hF (n:=n) (k:=k+1) (c:=c+(J4 r c ((w7 s r day (i0+k * r.Interval)).filter (PT first to til))).length) h2
    have ep:M7 s r day i0 (n+1) k=w7 s r day (i0+k * r.Interval)++M7 s r day i0 n (k+1):=rfl
    unfold Y7
    rw [if_neg he,ic,ep,List.filter_append,c92,List.length_append]
    dsimp only
    rw [ih.1]
    refine ⟨rfl,ih.2.trans ?_⟩
    have hn:∀ a b:Nat,c+((a+b:Nat):Int)=c+a+b:=fun a b=>by omega
    rw [show k+1+(n:Int)=k+((n+1:Nat):Int) by omega,hn]
theorem a1e {fr:Int} (hF:u6 s r) (h0:0<=k0S s r fr) :
  (D2 s r day fr to).1=(if i4 s<to then [i4 s] else [])++J4 r 1 ((M7 s r day (q9 r (i4 s)) (40000-k0S s r fr).toNat (k0S s r fr)).filter (PT (i4 s) to (M9 r))) /\
  ((D2 s r day fr to).2=true↔¬ U2 r to (M9 r) (s6 r (q9 r (i4 s)+(k0S s r fr+(40000-k0S s r fr).toNat) * r.Interval)) (1+(J4 r 1 ((M7 s r day (q9 r (i4 s)) (40000-k0S s r fr).toNat (k0S s r fr)).filter (PT (i4 s) to (M9 r)))).length)):=by
 obtain ⟨a,b⟩:=D6 hF.rt
 have hw:=b1k hF
 have hl:=a2a (r:=r) a b hw.1 hw.2
 have hl:LoP r (q9 r (i4 s)+k0S s r fr * r.Interval):=hl.up (by have:=Int.mul_nonneg h0 (show 0<=r.Interval by have:=N4 hF; omega); omega)
 obtain ⟨h1,h2⟩:=b6l (day:=day) (first:=i4 s) (to:=to) (til:=M9 r) hF (n:=(40000-k0S s r fr).toNat) (c:=1) hl
 unfold D2
 exact ⟨by rw [h1],h2⟩
end
end Go.Re
end
section
namespace Go.Re
open Go Go.Wk Go.Wl Go.Rx
theorem c3p:∀ {l m:List Int},Up l->Up m->(∀ t,t∈l↔t∈m)->l=m
 | [],[],_,_,_=>rfl
 | [],y::m,_,_,h=>absurd ((h y).2 (List.mem_cons_self ..)) (by simp)
 | x::l,[],_,_,h=>absurd ((h x).1 (List.mem_cons_self ..)) (by simp)
 | x::l,y::m,hl,hm,h=>by
  obtain ⟨a1,a2⟩:=List.pairwise_cons.1 hl
  obtain ⟨b1,b2⟩:=List.pairwise_cons.1 hm
  have e:x=y:=by
   rcases List.mem_cons.1 ((h x).1 (List.mem_cons_self ..)) with e | e
   . exact e
   . rcases List.mem_cons.1 ((h y).2 (List.mem_cons_self ..)) with e2 | e2
     . exact e2.symm
     . have:=b1 x e; have:=a1 y e2; omega
  subst e
  rw [c3p a2 b2 fun t=>⟨fun ht=>?_,fun ht=>?_⟩]
  . rcases List.mem_cons.1 ((h t).1 (List.mem_cons_of_mem _ ht)) with e | e
    . subst e; have:=a1 t ht; omega
    . exact e
  . rcases List.mem_cons.1 ((h t).2 (List.mem_cons_of_mem _ ht)) with e | e
    . subst e; have:=b1 t ht; omega
    . exact e
def geB (x t:Int):Bool:=decide (x<=t)
theorem b67 {x t:Int}:geB x t=true↔x<=t:=decide_eq_true_iff
theorem a9e {s a:Tm}:∀ {l:List Int},frA s a l=(l.filter (geB (i4 a))).map (fun t=>atS t s)
 | []=>rfl
 | t::l=>by
  show (if i4 a<=t then atS t s::frA s a l else frA s a l)=_
  by_cases h:i4 a<=t
  . rw [if_pos h,List.filter_cons_of_pos (b67.2 h),a9e]; rfl
  . rw [if_neg h,List.filter_cons_of_neg (fun e=>h (b67.1 e)),a9e]
theorem b11 {s a:Tm} {l m:List Int}:(frA s a l).length<=(frA s a (l++m)).length:=by
 rw [a92,List.length_append]; omega
theorem a9b {s a:Tm}:∀ {T y:List Int} {e:Bool},((frA s a (y++T)).length:Int)<=1000->P0 (a1s s a) y T e=(y++T,e)
 | [],y,e,_=>by unfold P0; rw [List.append_nil]
 | t::T,y,e,h=>by
  have e1:y++t::T=(y++[t])++T:=by simp
  rw [e1] at h ⊢
  have:=b11 (s:=s) (a:=a) (l:=y++[t]) (m:=T)
  have hr:a1s s a y t=true:=decide_eq_true (by omega)
  unfold P0
  rw [hr]
  exact a9b h
theorem b20 {s a:Tm}:∀ {T y:List Int} {e:Bool},((frA s a y).length:Int)<=1000->1000<((frA s a (y++T)).length:Int)->(P0 (a1s s a) y T e).2=false/\1000<((frA s a (P0 (a1s s a) y T e).1).length:Int)
 | [],y,e,h0,h=>by rw [List.append_nil] at h; omega
 | t::T,y,e,h0,h=>by
  have e1:y++t::T=(y++[t])++T:=by simp
  rw [e1] at h
  unfold P0
  by_cases hr:((frA s a (y++[t])).length:Int)<=1000
  . rw [show a1s s a y t=true from decide_eq_true hr]
    exact b20 hr h
  . rw [show a1s s a y t=false from decide_eq_false hr]
    exact ⟨rfl,by show 1000<((frA s a (y++[t])).length:Int); omega⟩
abbrev T8 (s:Tm) (r:Rl) (a b:Tm):List Int×Bool:=D2 s r (p7 s.Day) (i4 a) (i4 b)
structure b7m (s:Tm) (r:Rl) (a b:Tm):Prop where
 bad:¬ b4c s r a b
 far:Q2 s r (p7 s.Day) (i4 b)=false
 many:(T8 s r a b).2=false
 few:((frA s a (T8 s r a b).1).length:Int)<=1000
theorem a9m {s a b:Tm} {r:Rl} (h:b7m s r a b):o8 s r a b=(frA s a (T8 s r a b).1,.nil):=by
 unfold o8 b49
 rw [if_neg h.bad,h.far,if_neg Bool.false_ne_true,a9b (T:=(T8 s r a b).1) (y:=[]) (e:=(T8 s r a b).2) h.few]
 unfold b52
 rw [h.many,if_neg Bool.false_ne_true]
 exact if_neg (show ¬ 1000<((frA s a (T8 s r a b).1).length:Int) by have:=h.few; omega)
theorem nr2:(Err.no 2).nr=2:=by decide
theorem nr5:(Err.no 5).nr=5:=by decide
theorem e4o:(Err.no 16).nr=16:=by decide
theorem a7t {s a b:Tm} {r:Rl}:b7m s r a b ∨ ((o8 s r a b).1=[]/\((o8 s r a b).2.nr=2 ∨ (o8 s r a b).2.nr=5 ∨ (o8 s r a b).2.nr=16)):=by
 by_cases h1:b4c s r a b
 . right; unfold o8; rw [if_pos h1]; exact ⟨rfl,.inl nr2⟩
 cases h2:Q2 s r (p7 s.Day) (i4 b) with
 | true=>right; unfold o8; rw [if_neg h1,h2,if_pos rfl]; exact ⟨rfl,.inr (.inl nr5)⟩
 | false =>
 by_cases h4:((frA s a (T8 s r a b).1).length:Int)<=1000
 . cases h3:(T8 s r a b).2 with
   | true =>
    right
    unfold o8 b49
    rw [if_neg h1,h2,if_neg Bool.false_ne_true,a9b (T:=(T8 s r a b).1) (y:=[]) (e:=(T8 s r a b).2) h4]
    unfold b52
    rw [h3,if_pos rfl]
    exact ⟨rfl,.inr (.inl nr5)⟩
   | false=>exact .inl ⟨h1,h2,h3,h4⟩
 . right
   obtain ⟨q1,q2⟩:=b20 (s:=s) (a:=a) (T:=(T8 s r a b).1) (y:=[]) (e:=(T8 s r a b).2) (show ((0:Nat):Int)<=1000 by decide) (by rw [List.nil_append]; omega)
   unfold o8 b49
   rw [if_neg h1,h2,if_neg Bool.false_ne_true]
   unfold b52
   rw [q1,if_neg Bool.false_ne_true,if_pos q2]
   exact ⟨rfl,.inr (.inr e4o)⟩
theorem b3o {s a b:Tm} {r:Rl} (h:(o8 s r a b).2.nr=0):b7m s r a b:=by
 rcases a7t (s:=s) (r:=r) (a:=a) (b:=b) with e | ⟨_,e⟩
 . exact e
 . omega
theorem a9t {s a b:Tm} {r:Rl}:((o8 s r a b).1.length:Int)<=1000:=by
 rcases a7t (s:=s) (r:=r) (a:=a) (b:=b) with e | ⟨e,_⟩
 . rw [a9m e]; exact e.few
 . rw [e]; decide
theorem a1m {s a b:Tm} {r:Rl} (h:¬ b4c s r a b):u6 s r/\q7 a=true/\q7 b=true :=
 ⟨E9.1 (Classical.not_not.1 fun e=>h (.inl (.inl e))),Classical.not_not.1 fun e=>h (.inl (.inr e)),Classical.not_not.1 fun e=>h (.inr e)⟩
theorem d7a {s a b:Tm} {r:Rl} (h:u6 s r) (ha:q7 a=true) (hb:q7 b=true):¬ b4c s r a b:=fun e=>e.elim (fun e=>e.elim (fun e=>e (E9.2 h)) fun e=>e ha) fun e=>e hb
section
variable {s:Tm} {r:Rl} {day first to til i0 k c t m fr:Int} {n:Nat}
theorem a8z {l:List Int}:(J4 r c l).Sublist l:=by
 unfold J4
 split
 . exact List.take_sublist ..
 . exact List.Sublist.refl _
theorem a3i (hF:u6 s r) (h0:0<=fr):0<=k0S s r fr/\(k0S s r fr=0 ∨ (r.Count=0/\i4 s<fr/\s6 r (q9 r (i4 s)+k0S s r fr * r.Interval)<=fr)):=by
 obtain ⟨a,b⟩:=D6 hF.rt
 obtain ⟨w0,w1⟩:=b1k hF
 have hI:=N4 hF
 have hz:=d04 (s:=s) (r:=r) (fr:=fr) hI (fun x x0 x1=>a3b x0 x1 w0 w1) h0 ⟨a,b⟩
 refine ⟨hz.1,?_⟩
 by_cases hc:r.Count=0/\i4 s<fr
 . by_cases hk:k0S s r fr=0
   . exact .inl hk
   refine .inr ⟨hc.1,hc.2,?_⟩
   have h2:k0S s r fr=max 0 ((q9 r (min fr 315537897599)-q9 r (i4 s)).tdiv r.Interval-1):=if_pos hc
   have hm:=c51 (r:=r) (t:=i4 s) (u:=min fr 315537897599) a (by omega) (by omega) w0 w1
   rw [Int.tdiv_eq_ediv_of_nonneg (by omega)] at h2
   have h3:=Int.ediv_mul_le (q9 r (min fr 315537897599)-q9 r (i4 s)) (show r.Interval≠0 by omega)
   have h4:((q9 r (min fr 315537897599)-q9 r (i4 s)) / r.Interval-1) * r.Interval=(q9 r (min fr 315537897599)-q9 r (i4 s)) / r.Interval * r.Interval-r.Interval:=by rw [Int.sub_mul,Int.one_mul]
   have h5:k0S s r fr=(q9 r (min fr 315537897599)-q9 r (i4 s)) / r.Interval-1:=by omega
   have hl:LoP r (q9 r (i4 s)+k0S s r fr * r.Interval):=(a2a (r:=r) a b w0 w1).up (by omega)
   have:=(a05 hl (t:=min fr 315537897599) (by omega) (by omega)).2 (by rw [h5,h4]; omega)
   omega
 . exact .inl (if_neg hc)
theorem c76 (hF:u6 s r) {k:Int} (h0:0<=k) {n:Nat}:Up (M7 s r day (q9 r (i4 s)) n k):=by
 obtain ⟨a,b⟩:=D6 hF.rt
 obtain ⟨w0,w1⟩:=b1k hF
 have hI:=N4 hF
 exact b6n hF ((a2a (r:=r) a b w0 w1).up (by have:=Int.mul_nonneg h0 (show 0<=r.Interval by omega); omega))
theorem c4i (hF:u6 s r) (h0:0<=fr):Up (D2 s r day fr to).1:=by
 have hk:=(a3i hF h0).1
 rw [(a1e hF hk).1]
 refine List.pairwise_append.2 ⟨by split; exact List.pairwise_singleton ..; exact List.Pairwise.nil,((c76 hF hk).filter _).sublist a8z,fun t ht u hu=>?_⟩
 have h2:=K4.1 (List.mem_filter.1 (a8z.subset hu)).2
 split at ht
 . cases List.mem_singleton.1 ht; omega
 . cases ht
end
end Go.Re
end
section
namespace Go.Re
open Go Go.Wk Go.Wl Go.Rx
theorem c0n:∀ {T y:List Int} {e:Bool},P0 (fun _ _=>true) y T e=(y++T,e)
 | [],y,e=>by unfold P0; rw [List.append_nil]
 | t::T,y,e=>by unfold P0; rw [cond_true,c0n]; simp
theorem b76 {res:List Int->Int->Bool}:∀ {T y:List Int} {e:Bool},(P0 res y T e).1.length<=y.length+T.length
 | [],y,e=>by unfold P0; simp
 | t::T,y,e=>by
  unfold P0
  cases res y t with
  | true =>
   have:=b76 (res:=res) (T:=T) (y:=y++[t]) (e:=e)
   rw [List.length_append] at this
   simp only [List.length_cons,List.length_nil] at this ⊢
   rw [cond_true]
   omega
  | false=>simp
theorem c36 {s:Tm} {r:Rl} {day to fr:Int} (hF:u6 s r) (h0:0<=fr) (h:Q2 s r day to=false):(D2 s r day fr to).2=false:=by
 obtain ⟨hk,hk1⟩:=a3i hF h0
 obtain ⟨a,b⟩:=D6 hF.rt
 obtain ⟨w0,w1⟩:=b1k hF
 have hI:=N4 hF
 have lo:∀ j:Int,0<=j->LoP r (q9 r (i4 s)+j * r.Interval):=fun j hj=>(a2a (r:=r) a b w0 w1).up (by have:=Int.mul_nonneg hj (show 0<=r.Interval by omega); omega)
 rw [<- Bool.not_eq_true,(a1e (day:=day) (to:=to) hF hk).2,Classical.not_not]
 have u:=a56 hI (show 40000<=k0S s r fr+(40000-k0S s r fr).toNat by omega)
 have hb:=V8 (lo 40000 (by decide)) (show q9 r (i4 s)+40000 * r.Interval<=q9 r (i4 s)+(k0S s r fr+(40000-k0S s r fr).toNat) * r.Interval by omega)
 obtain ⟨g0,g1⟩:=K9 (r:=r) (lo 40000 (by decide)).a
 have hin:=fun t ht=>a7z (t:=t) (day:=day) (n:=40000) hF (lo 0 (by decide)) ht
 unfold Q2 at h
 rw [show (0:Int)+((40000:Nat):Int)=40000 by omega] at hin
 generalize s6 r (q9 r (i4 s)+40000 * r.Interval)=b4 at *
 by_cases h1:to<=b4 ∨ 315537897600<=b4
 . unfold U2; omega
 rw [if_neg h1] at h
 by_cases h2:0<(r.Until.length:Int)/\i4 (ix r.Until 0)<b4
 . have e:M9 r=i4 (ix r.Until 0):=if_pos h2.1
   unfold U2; omega
 rw [if_neg h2] at h
 by_cases h3:0<r.Count
 . rw [if_pos h3] at h
   have hz:k0S s r fr=0:=hk1.resolve_right (by omega)
   have hz0:k0S s r 0=0:=(a3i hF (show (0:Int)<=0 by decide)).2.resolve_right (by omega)
   have e1:=(a1e (day:=day) (fr:=0) (to:=b4) hF (by omega)).1
   rw [hz0] at e1
   rw [hz]
   have l1:=b76 (res:=a65 r) (T:=(D2 s r day 0 b4).1) (y:=[]) (e:=(D2 s r day 0 b4).2)
   unfold c8c at h
   generalize P0 (a65 r) [] (D2 s r day 0 b4).1 (D2 s r day 0 b4).2=g at *
   have hg:r.Count<=(g.1.length:Int):=by
    by_cases hh:r.Count<=(g.1.length:Int) ∨ g.2=true
    . rw [if_pos hh] at h
      exact hh.resolve_right (by rw [h]; decide)
    . rw [if_neg hh] at h; cases h
   rw [e1,List.length_append] at l1
   have l2:(if i4 s<b4 then [i4 s] else []).length<=1:=by split <;> simp
   have e:(M7 s r day (q9 r (i4 s)) (40000-(0:Int)).toNat 0).filter (PT (i4 s) to (M9 r))=(M7 s r day (q9 r (i4 s)) (40000-(0:Int)).toNat 0).filter (PT (i4 s) b4 (M9 r)):=List.filter_congr fun t ht=>by
    have:=hin t ht
    rw [Bool.eq_iff_iff,K4,K4]
    omega
   rw [e]
   rw [List.length_nil] at l1
   unfold U2
   omega
 . rw [if_neg h3] at h; cases h
structure DnI (s:Tm) (r:Rl) (day tl k:Int):Prop where
 a:∀ t j:Int,0<=j->k<j->i4 s<t->t<tl->t∈w7 s r day (q9 r (i4 s)+j * r.Interval)->False
structure DcI (L:List Int) (fi tl x:Int):Prop where
 a:∀ i:Int,x<i->i<L.length->¬ (ix L i<tl/\fi<ix L i)
section
variable {s:Tm} {r:Rl} {day tl k to:Int}
theorem DnI.step (h:DnI s r day tl k) (hc:DcI (w7 s r day (q9 r (i4 s)+k * r.Interval)) (i4 s) tl (-1)):DnI s r day tl (k-1):=⟨fun t j j0 hk h2 h3 ht=>by
 by_cases e:j=k
 . subst e
   obtain ⟨i,i0,i1,rfl⟩:=D9 ht
   exact hc.a i (by omega) i1 ⟨h3,h2⟩
 . exact h.a t j j0 (by omega) h2 h3 ht⟩
theorem d8p (t:Tm):-1<=i4 t/\i4 t<315537897600:=by
 unfold i4
 split
 . rename_i h; have:=a0l h; omega
 . omega
end
end Go.Re
end
section
namespace Go.Re
open Go Go.Wk Go.Wl Go.Rx
structure AtP (s:Tm) (u:Int):Prop where
 a:0<=u
 b:u<315537897600
 c:s.Bare=true->s.UTC=false/\u % 86400=0
structure AtR (s t:Tm) (u:Int):Prop where
 rt:q7 t=true
 se:i4 t=u
 ba:t.Bare=s.Bare
 ut:t.UTC=s.UTC
theorem e0n {s:Tm} {u:Int} (h:AtP s u):AtR s (atS u s) u:=by
 obtain ⟨a,b,c⟩:=h
 have hb:¬ (s.Bare=true/\(s.UTC=true ∨ u % 86400≠0)):=fun ⟨h1,h2⟩=>by
  obtain ⟨c1,c2⟩:=c h1
  rcases h2 with h2 | h2
  . rw [c1] at h2; cases h2
  . exact h2 c2
 have e:atS u s=⟨ofS (u / 86400+1),u % 86400 / 3600,u % 86400 / 60 % 60,u % 86400 % 60,s.Bare,s.UTC⟩:=by
  unfold atS
  rw [if_neg]
  rintro (h | h | h)
  . omega
  . exact hb h
  . omega
 obtain ⟨d1,d2⟩:=T0 (n:=u / 86400+1) (by omega) (by omega)
 have hr:W0 ⟨ofS (u / 86400+1),u % 86400 / 3600,u % 86400 / 60 % 60,u % 86400 % 60,s.Bare,s.UTC⟩:=by
  refine ⟨d1,⟨?_,?_⟩,⟨?_,?_⟩,⟨?_,?_⟩,?_⟩
  . show 0<=u % 86400 / 3600; omega
  . show u % 86400 / 3600<=23; omega
  . show 0<=u % 86400 / 60 % 60; omega
  . show u % 86400 / 60 % 60<=59; omega
  . show 0<=u % 86400 % 60; omega
  . show u % 86400 % 60<=59; omega
  . rintro ⟨h1,h2⟩
    have h1:s.Bare=true:=h1
    obtain ⟨c1,c2⟩:=c h1
    rcases h2 with ((h2 | h2) | h2) | h2
    . have h2:u % 86400 / 3600≠0:=h2; omega
    . have h2:u % 86400 / 60 % 60≠0:=h2; omega
    . have h2:u % 86400 % 60≠0:=h2; omega
    . have h2:s.UTC=true:=h2
      rw [c1] at h2; cases h2
 rw [e]
 refine ⟨w9.2 hr,?_,rfl,rfl⟩
 have e2:i4 ⟨ofS (u / 86400+1),u % 86400 / 3600,u % 86400 / 60 % 60,u % 86400 % 60,s.Bare,s.UTC⟩=a0v ⟨ofS (u / 86400+1),u % 86400 / 3600,u % 86400 / 60 % 60,u % 86400 % 60,s.Bare,s.UTC⟩:=if_pos hr
 rw [e2]
 show (F6 (ofS (u / 86400+1))-1) * 86400+u % 86400 / 3600 * 3600+u % 86400 / 60 % 60 * 60+u % 86400 % 60=u
 rw [d2]
 omega
theorem b4a {s:Tm} {r:Rl} (hF:u6 s r) (hb:s.Bare=true):s.UTC=false/\s.Hour=0/\s.Min=0/\s.Sec=0:=by
 obtain ⟨_,_,_,_,h⟩:=w9.1 hF.rt
 have h:¬ (((s.Hour≠0 ∨ s.Min≠0) ∨ s.Sec≠0) ∨ s.UTC=true):=fun e=>h ⟨hb,e⟩
 refine ⟨?_,by omega,by omega,by omega⟩
 rw [<- Bool.not_eq_true]
 exact fun e=>h (.inr e)
theorem c0m {s:Tm} {r:Rl} {c:Int} (hF:u6 s r) (hb:s.Bare=true) (h:c∈I5 s r):c=0:=by
 obtain ⟨k,m,x,⟨_,h1⟩,⟨_,h2⟩,⟨_,h3⟩,e⟩:=b0a.1 h
 obtain ⟨_,b1,b2,b3⟩:=b4a hF hb
 obtain ⟨f,l1,l2,l3⟩:=hF.ba hb
 unfold hB at h1
 unfold mB at h2
 unfold sB at h3
 have e1:(k:Int)=0:=by
  rcases Int.lt_trichotomy (k:Int) 0 with q | q | q
  . omega
  . exact q
  . exact absurd (.inr ⟨⟨l1,by omega⟩,by omega⟩) h1
 have e2:(m:Int)=0:=by
  rcases Int.lt_trichotomy (m:Int) 0 with q | q | q
  . omega
  . exact q
  . exact absurd (.inr ⟨⟨l2,by omega⟩,by omega⟩) h2
 have e3:(x:Int)=0:=by
  rcases h3 with h3 | h3
  . omega
  . rcases h3.2 with q | q
    . omega
    . omega
 omega
section
variable {s:Tm} {r:Rl} {day t u to fr:Int}
theorem c98 (hF:u6 s r) {i:Int} (hl:LoP r i) (h:t∈w7 s r day i):AtP s t/\q9 r t=i:=by
 obtain ⟨⟨_,h2⟩,h3,h4⟩:=a3k hF h
 have h5:=a9y hF hl h
 have h0:=(K9 (r:=r) hl.a).1
 refine ⟨⟨by omega,h5,fun hb=>⟨(b4a hF hb).1,c0m hF hb h2⟩⟩,?_⟩
 have a:=(a05 hl (t:=t) (by omega) h5).1 h3
 have b:¬ i+1<=q9 r t:=fun e=>by
  have:=(a05 (hl.up (j:=i+1) (by omega)) (t:=t) (by omega) h5).2 e
  omega
 omega
theorem c5c (hF:u6 s r):AtP s (i4 s):=by
 obtain ⟨a,b⟩:=D6 hF.rt
 refine ⟨a,b,fun hb=>?_⟩
 obtain ⟨h0,h1,h2,h3⟩:=b4a hF hb
 have e:i4 s=a0v s:=if_pos (w9.1 hF.rt)
 refine ⟨h0,?_⟩
 rw [e]
 unfold a0v
 rw [h1,h2,h3]
 omega
structure d3b (s:Tm) (r:Rl) (day to t:Int):Prop where
 a:AtP s t
 b:t<to
 c:t=i4 s ∨ i4 s<t/\∃ j:Int,0<=j/\t∈w7 s r day (q9 r (i4 s)+j * r.Interval)
theorem d00 (hF:u6 s r) (h0:0<=fr) (h:t∈(D2 s r day fr to).1):d3b s r day to t:=by
 obtain ⟨a,b⟩:=D6 hF.rt
 obtain ⟨w0,w1⟩:=b1k hF
 have hI:=N4 hF
 have lo:∀ j:Int,0<=j->LoP r (q9 r (i4 s)+j * r.Interval):=fun j hj=>(a2a (r:=r) a b w0 w1).up (by have:=Int.mul_nonneg hj (show 0<=r.Interval by omega); omega)
 have hk:=(a3i hF h0).1
 rw [(a1e (day:=day) (to:=to) hF hk).1] at h
 rcases List.mem_append.1 h with h | h
 . split at h
   . rename_i hlt
     cases List.mem_singleton.1 h
     exact ⟨c5c hF,hlt,.inl rfl⟩
   . cases h
 . obtain ⟨h1,h2⟩:=List.mem_filter.1 (a8z.subset h)
   have h2:=K4.1 h2
   obtain ⟨j,j0,_,hj⟩:=a5z.1 h1
   exact ⟨(c98 hF (lo j (by omega)) hj).1,h2.2.1,.inr ⟨h2.1,j,by omega,hj⟩⟩
theorem d3b.ge (h:d3b s r day to t):i4 s<=t:=by
 rcases h.c with e | e <;> omega
end
end Go.Re
end
section
namespace Go.Re
open Go Go.Wk Go.Wl Go.Rx
def ctN (n:Int):Int:=(1:Int)+(n.tmod (200:Int)+(200:Int)).tmod (200:Int)
def ctR (r:Rl) (c:Int) (u:List Tm):Rl:=Rl.mk r.Freq r.Interval c u r.Month r.WeekNo r.YearDay r.MonthDay r.Days r.Hour r.Minute r.Second r.SetPos r.Wkst
def ctT (s:Tm) (r:Rl) (b u:Tm) (Q:Bool->Prop):Prop :=
C1 (ctR r (0:Int) [etT u])=true/\(¬E4 (etT s) (ctR r (0:Int) [etT u])=true->Q (decide (true=true)))/\(¬¬E4 (etT s) (ctR r (0:Int) [etT u])=true->C1 (ctR r (0:Int) [etT u])=true/\∃ (I:Int->Prop),∃ (m:Int->Nat),I (0:Int)/\∀ (x:Int),I x->((x<(↑(o8 (etT s) (ctR r (0:Int) []) (etT s) (etT b)).fst.length:Int)/\¬x=(0:Int)->(0:Int)<=x)/\(x<(↑(o8 (etT s) (ctR r (0:Int) []) (etT s) (etT b)).fst.length:Int)/\¬x=(0:Int)->x<(↑(o8 (etT s) (ctR r (0:Int) []) (etT s) (etT b)).fst.length:Int)))/\((x<(↑(o8 (etT s) (ctR r (0:Int) []) (etT s) (etT b)).fst.length:Int)/\¬x=(0:Int)->b8 (ix (o8 (etT s) (ctR r (0:Int) []) (etT s) (etT b)).fst x).Day.Year)->(x<(↑(o8 (etT s) (ctR r (0:Int) []) (etT s) (etT b)).fst.length:Int)/\¬x=(0:Int)->b8 (ix (o8 (etT s) (ctR r (0:Int) []) (etT s) (etT b)).fst x).Day.Month)->(x<(↑(o8 (etT s) (ctR r (0:Int) []) (etT s) (etT b)).fst.length:Int)/\¬x=(0:Int)->b8 (ix (o8 (etT s) (ctR r (0:Int) []) (etT s) (etT b)).fst x).Day.Date)->(x<(↑(o8 (etT s) (ctR r (0:Int) []) (etT s) (etT b)).fst.length:Int)/\¬x=(0:Int)->b8 (ix (o8 (etT s) (ctR r (0:Int) []) (etT s) (etT b)).fst x).Hour)->(x<(↑(o8 (etT s) (ctR r (0:Int) []) (etT s) (etT b)).fst.length:Int)/\¬x=(0:Int)->b8 (ix (o8 (etT s) (ctR r (0:Int) []) (etT s) (etT b)).fst x).Min)->(x<(↑(o8 (etT s) (ctR r (0:Int) []) (etT s) (etT b)).fst.length:Int)/\¬x=(0:Int)->b8 (ix (o8 (etT s) (ctR r (0:Int) []) (etT s) (etT b)).fst x).Sec)->(x<(↑(o8 (etT s) (ctR r (0:Int) []) (etT s) (etT b)).fst.length:Int)/\(x=(0:Int) ∨ i4 (etT (ix (o8 (etT s) (ctR r (0:Int) []) (etT s) (etT b)).fst x))<=i4 (etT u))->b8 (x+(1:Int))/\I (x+(1:Int))/\m (x+(1:Int))<m x)/\(¬(x<(↑(o8 (etT s) (ctR r (0:Int) []) (etT s) (etT b)).fst.length:Int)/\(x=(0:Int) ∨ i4 (etT (ix (o8 (etT s) (ctR r (0:Int) []) (etT s) (etT b)).fst x))<=i4 (etT u)))->((o8 (etT s) (ctR r (0:Int) [etT u]) (etT s) (etT b)).snd.nr=(0:Int)->(0:Int)<=x)/\((o8 (etT s) (ctR r (0:Int) [etT u]) (etT s) (etT b)).snd.nr=(0:Int)->x<=(↑(o8 (etT s) (ctR r (0:Int) []) (etT s) (etT b)).fst.length:Int))/\((o8 (etT s) (ctR r (0:Int) [etT u]) (etT s) (etT b)).snd.nr=(0:Int)->(o8 (etT s) (ctR r (0:Int) [etT u]) (etT s) (etT b)).fst.length<=(10000000:Nat))/\Q (decide (((o8 (etT s) (ctR r (0:Int) [etT u]) (etT s) (etT b)).snd.nr=(0:Int)/\P9 (o8 (etT s) (ctR r (0:Int) [etT u]) (etT s) (etT b)).fst (List.drop (none.getD (0:Int)).toNat (List.take ((none.getD (0:Int)).toNat+((some x).getD (↑(o8 (etT s) (ctR r (0:Int) []) (etT s) (etT b)).fst.length:Int)-none.getD (0:Int)).toNat) (o8 (etT s) (ctR r (0:Int) []) (etT s) (etT b)).fst))=true)/\true=true)))))
theorem d1t (n:Int):1<=ctN n/\ctN n<=200:=by
 unfold ctN
 have a:=Int.tmod_lt_of_pos n (show (0:Int)<200 by decide)
 have b:=Int.lt_tmod_of_pos n (show (0:Int)<200 by decide)
 have c:=Int.tmod_lt_of_pos (n.tmod 200+200) (show (0:Int)<200 by decide)
 have d:=Int.tmod_nonneg 200 (show 0<=n.tmod 200+200 by omega)
 omega
theorem e08 {s:Tm} {r:Rl} {c:Int} {u:List Tm} {day n:Int}:Y9 s (ctR r c u) day n=Y9 s r day n:=rfl
theorem d7g {s:Tm} {r:Rl} {c:Int} {u:List Tm} {fr to:Int}:P6 s (ctR r c u) fr to=P6 s r fr to:=rfl
theorem b70 {s:Tm} {r:Rl} {c:Int} {u:List Tm} {day fr to:Int}:∀ {k:Nat} {n:Int},a07 s (ctR r c u) day fr to k n=a07 s r day fr to k n
 | 0,_=>rfl
 | k+1,n=>by
  unfold a07 a5s
  rw [b70,e08,d7g]
theorem c8j {s:Tm} {r:Rl} {c:Int} {u:List Tm} {day i:Int}:w7 s (ctR r c u) day i=w7 s r day i:=by
 show I0 r (a30 s (ctR r c u) day (s6 r i) (s6 r (i+1)))=I0 r (a30 s r day (s6 r i) (s6 r (i+1)))
 unfold a30
 rw [b70]
theorem d4h {r:Rl} {c:Int} {u:List Tm} {i:Int}:s6 (ctR r c u) i=s6 r i:=rfl
theorem c3t {r:Rl} {c:Int} {u:List Tm} {t:Int}:q9 (ctR r c u) t=q9 r t:=rfl
theorem b7h {s:Tm} {r:Rl} {c:Int} {u:List Tm} {day i0:Int}:∀ {n:Nat} {k:Int},M7 s (ctR r c u) day i0 n k=M7 s r day i0 n k
 | 0,_=>rfl
 | n+1,k=>by
  unfold M7
  rw [b7h,c8j]
  rfl
theorem e07 {s:Tm} {r:Rl} {c:Int} (h:u6 s (ctR r 0 [])) (c0:0<=c) (c1:c<=9999):u6 s (ctR r c []):=by
 obtain ⟨a,b,_,d⟩:=h
 obtain ⟨⟨h1,h2,h3,h4,h5,h6,h7,h8⟩,_,l,f,dy,ft,sm⟩:=o0.1 b
 exact ⟨a,o0.2 ⟨⟨h1,h2,h3,h4,c0,c1,h7,h8⟩,⟨by show (0:Int)<=1; decide,fun h=>absurd h (by show ¬ (0:Int)=1; decide)⟩,⟨l.mo,l.wn,l.yd,l.md,l.ho,l.mi,l.se,l.sp⟩,f,dy,ft,sm⟩,fun h=>absurd h (by show ¬ (0:Int)<0; decide),d⟩
theorem a81 {s:Tm} {r:Rl} {c:Int} {u:List Tm} {day to:Int} (hF:u6 s (ctR r c u)):(D2 s (ctR r c u) day (i4 s) to).1=(if i4 s<to then [i4 s] else [])++J4 (ctR r c u) 1 ((M7 s r day (q9 r (i4 s)) 40000 0).filter (PT (i4 s) to (M9 (ctR r c u)))):=by
 have hk:k0S s (ctR r c u) (i4 s)=0:=if_neg (by omega)
 have q:=(a1e (day:=day) (fr:=i4 s) (to:=to) hF (by omega)).1
 have en:(40000-(0:Int)).toNat=40000:=by omega
 rw [hk,en,b7h,c3t] at q
 exact q
theorem d7p {s:Tm} {r:Rl} {day to c:Int} {u:List Tm} (h:Q2 s (ctR r 0 []) day to=false):Q2 s (ctR r c u) day to=false:=by
 unfold Q2 at h ⊢
 rw [d4h,c3t] at h ⊢
 have e:(ctR r c u).Interval=(ctR r 0 []).Interval:=rfl
 rw [e]
 generalize s6 r (q9 r (i4 s)+40000 * (ctR r 0 []).Interval)=b4 at *
 by_cases h1:to<=b4 ∨ 315537897600<=b4
 . rw [if_pos h1]
 . rw [if_neg h1,if_neg (show ¬ (0<(((ctR r 0 []).Until.length:Nat):Int)/\_) from fun e=>absurd e.1 (by show ¬ (0:Int)<0; decide)),if_neg (show ¬ 0<(ctR r 0 []).Count by show ¬ (0:Int)<0; decide)] at h
   cases h
theorem c1y {s b:Tm} {r:Rl} (hF:u6 s r):frA s s (T8 s r s b).1=(T8 s r s b).1.map fun t=>atS t s:=by
 rw [a9e]
 congr 1
 exact List.filter_eq_self.2 fun t ht=>b67.2 (d00 hF (D6 hF.rt).1 ht).ge
theorem c6y {s b:Tm} {r:Rl} {c:Int} {u:List Tm} {k:Nat} (h:(o8 s (ctR r 0 []) s b).2.nr=0) (hF:u6 s (ctR r c u)) (hk:(T8 s (ctR r c u) s b).1=(T8 s (ctR r 0 []) s b).1.take k) :
  (o8 s (ctR r c u) s b).2.nr=0/\(o8 s (ctR r c u) s b).1=(o8 s (ctR r 0 []) s b).1.take k:=by
 have hx:=b3o h
 obtain ⟨hF0,hs,hb⟩:=a1m hx.bad
 have s0:=(D6 hs).1
 have hf:=d7p (c:=c) (u:=u) hx.far
 have e0:=c1y (b:=b) hF0
 have e1:=c1y (b:=b) hF
 have hl:=hx.few
 rw [e0,List.length_map] at hl
 have hx1:b7m s (ctR r c u) s b:=⟨d7a hF hs hb,hf,c36 hF s0 hf,by rw [e1,List.length_map,hk,List.length_take]; omega⟩
 rw [a9m hx,a9m hx1]
 refine ⟨by show Err.nil.nr=0; decide,?_⟩
 show frA s s (T8 s (ctR r c u) s b).1=(frA s s (T8 s (ctR r 0 []) s b).1).take k
 rw [e0,e1,hk,List.map_take]
theorem c5h {s b:Tm} {r:Rl} {c:Int} (h:(o8 s (ctR r 0 []) s b).2.nr=0) (c0:1<=c) (c1:c<=9999):(o8 s (ctR r c []) s b).2.nr=0/\(o8 s (ctR r c []) s b).1=(o8 s (ctR r 0 []) s b).1.take c.toNat:=by
 have hF0:=(a1m (b3o h).bad).1
 have hF:=e07 (c:=c) hF0 (by omega) c1
 refine c6y h hF ?_
 have e0:=a81 (day:=p7 s.Day) (to:=i4 b) hF0
 have e1:=a81 (day:=p7 s.Day) (to:=i4 b) hF
 have t0:M9 (ctR r 0 [])=315537897600:=rfl
 have t1:M9 (ctR r c [])=315537897600:=rfl
 rw [t0,b37 (show ¬ 0<(ctR r 0 []).Count by show ¬ (0:Int)<0; decide)] at e0
 rw [t1] at e1
 show (D2 s (ctR r c []) (p7 s.Day) (i4 s) (i4 b)).1=(D2 s (ctR r 0 []) (p7 s.Day) (i4 s) (i4 b)).1.take c.toNat
 rw [e0,e1]
 unfold J4
 rw [if_pos (show 0<(ctR r c []).Count by show 0<c; omega),show (ctR r c []).Count=c from rfl]
 by_cases hlt:i4 s<i4 b
 . rw [if_pos hlt,List.cons_append,List.nil_append,List.cons_append,List.nil_append,show c.toNat=(c-1).toNat+1 by omega,List.take_succ_cons]
 . rw [if_neg hlt,List.nil_append,List.nil_append,filter_nil]
   . simp
   . intro t _ e
     have:=K4.1 e
     omega
theorem c41 {s b u:Tm} {r:Rl} {x:Int} (h:(o8 s (ctR r 0 []) s b).2.nr=0) (hF:u6 s (ctR r 0 [u])) (x0:0<=x) (x1:x<=((o8 s (ctR r 0 []) s b).1.length:Int))
  (ha:∀ i:Int,0<i->i<x->i4 (ix (o8 s (ctR r 0 []) s b).1 i)<=i4 u) (hb:¬ (x<((o8 s (ctR r 0 []) s b).1.length:Int)/\(x=0 ∨ i4 (ix (o8 s (ctR r 0 []) s b).1 x)<=i4 u))) :
  (o8 s (ctR r 0 [u]) s b).2.nr=0/\(o8 s (ctR r 0 [u]) s b).1=(o8 s (ctR r 0 []) s b).1.take x.toNat:=by
 have hx:=b3o h
 obtain ⟨hF0,hs,_⟩:=a1m hx.bad
 obtain ⟨s0,s1⟩:=D6 hs
 refine c6y h hF ?_
 have e0:=a81 (day:=p7 s.Day) (to:=i4 b) hF0
 have e1:=a81 (day:=p7 s.Day) (to:=i4 b) hF
 have t0:M9 (ctR r 0 [])=315537897600:=rfl
 have t1:M9 (ctR r 0 [u])=i4 u:=rfl
 rw [t0,b37 (show ¬ 0<(ctR r 0 []).Count by show ¬ (0:Int)<0; decide)] at e0
 rw [t1,b37 (show ¬ 0<(ctR r 0 [u]).Count by show ¬ (0:Int)<0; decide)] at e1
 have U0:=c4i (day:=p7 s.Day) (to:=i4 b) hF0 s0
 have U1:=c4i (day:=p7 s.Day) (to:=i4 b) hF s0
 have hT:=fun t=>d00 (t:=t) (day:=p7 s.Day) (to:=i4 b) hF0 s0
 have el:(o8 s (ctR r 0 []) s b).1=(D2 s (ctR r 0 []) (p7 s.Day) (i4 s) (i4 b)).1.map fun t=>atS t s:=by
  rw [a9m hx]; exact c1y hF0
 rw [el,List.length_map] at x1 hb
 rw [el] at ha
 show (D2 s (ctR r 0 [u]) (p7 s.Day) (i4 s) (i4 b)).1=(D2 s (ctR r 0 []) (p7 s.Day) (i4 s) (i4 b)).1.take x.toNat
 have gx:∀ i:Int,0<=i->i<((D2 s (ctR r 0 []) (p7 s.Day) (i4 s) (i4 b)).1.length:Int)->i4 (ix ((D2 s (ctR r 0 []) (p7 s.Day) (i4 s) (i4 b)).1.map fun t=>atS t s) i)=ix (D2 s (ctR r 0 []) (p7 s.Day) (i4 s) (i4 b)).1 i:=fun i i0 i1=>by
  rw [A2 (by rw [List.length_map]; omega),List.getElem_map,(e0n (hT _ (List.getElem_mem (by omega))).a).se,A2 (by omega)]
 have mem:∀ t,t∈(D2 s (ctR r 0 [u]) (p7 s.Day) (i4 s) (i4 b)).1↔t∈(D2 s (ctR r 0 []) (p7 s.Day) (i4 s) (i4 b)).1/\(t=i4 s ∨ t<=i4 u):=fun t=>by
  rw [e0,e1,List.mem_append,List.mem_append,List.mem_filter,List.mem_filter,K4,K4]
  have hh:t∈(if i4 s<i4 b then [i4 s] else [])->t=i4 s:=fun hm=>by
   split at hm
   . exact List.mem_singleton.1 hm
   . cases hm
  have hu:=d8p u
  constructor
  . rintro (hm | ⟨h1,h2⟩)
    . exact ⟨.inl hm,.inl (hh hm)⟩
    . exact ⟨.inr ⟨h1,by omega⟩,.inr h2.2.2⟩
  . rintro ⟨hm | ⟨h1,h2⟩,h3⟩
    . exact .inl hm
    . exact .inr ⟨h1,by omega⟩
 have h0:∀ i:Int,0<=i->i<((D2 s (ctR r 0 []) (p7 s.Day) (i4 s) (i4 b)).1.length:Int)->ix (D2 s (ctR r 0 []) (p7 s.Day) (i4 s) (i4 b)).1 i=i4 s->i=0:=fun i i0 i1 e=>by
  by_cases hi:i=0
  . exact hi
  . have g:=(hT _ (a0k (l:=(D2 s (ctR r 0 []) (p7 s.Day) (i4 s) (i4 b)).1) (Int.le_refl 0) (by omega))).ge
    have:=List.pairwise_iff_getElem.1 U0 (0:Int).toNat i.toNat (by omega) (by omega) (by omega)
    rw [A2 (by omega)] at g e
    omega
 have hz:0<((D2 s (ctR r 0 []) (p7 s.Day) (i4 s) (i4 b)).1.length:Int)->ix (D2 s (ctR r 0 []) (p7 s.Day) (i4 s) (i4 b)).1 0=i4 s:=fun hp=>by
  rw [e0] at hp ⊢
  by_cases hlt:i4 s<i4 b
  . rw [if_pos hlt]; rfl
  . rw [if_neg hlt,List.nil_append,filter_nil] at hp
    . exact absurd hp (by show ¬ (0:Int)<0; decide)
    . intro t _ e
      have:=K4.1 e
      omega
 clear e0 e1 el
 generalize (D2 s (ctR r 0 []) (p7 s.Day) (i4 s) (i4 b)).1=L at *
 refine c3p U1 (U0.sublist (List.take_sublist ..)) fun t=>?_
 rw [mem]
 constructor
 . rintro ⟨h1,h2⟩
   obtain ⟨i,i0,i1,rfl⟩:=D9 h1
   have hix:i<x:=by
    rcases Int.lt_or_le i x with q | q
    . exact q
    . exfalso
      have hxl:x<(L.length:Int):=by omega
      have hb1:x≠0:=fun e=>hb ⟨hxl,.inl e⟩
      have hb2:¬ ix L x<=i4 u:=fun e=>hb ⟨hxl,.inr (by rw [gx x x0 hxl]; exact e)⟩
      rcases h2 with h2 | h2
      . have:=h0 i i0 i1 h2; omega
      . by_cases e:i=x
        . subst e; exact hb2 h2
        . have:=List.pairwise_iff_getElem.1 U0 x.toNat i.toNat (by omega) (by omega) (by omega)
          rw [A2 (by omega)] at hb2 h2
          omega
   rw [A2 (by omega)]
   exact List.mem_take_iff_getElem.2 ⟨i.toNat,by omega,rfl⟩
 . intro ht
   obtain ⟨i,hi,rfl⟩:=List.mem_take_iff_getElem.1 ht
   have hi2:i<L.length:=by omega
   refine ⟨List.getElem_mem hi2,?_⟩
   have e:ix L (i:Int)=L[i]:=A2 (i:=(i:Int)) (by omega)
   by_cases h1:i=0
   . subst h1
     left
     rw [<- e]; exact hz (by omega)
   . right
     have:=ha i (by omega) (by omega)
     rw [gx i (by omega) (by omega)] at this
     rw [<- e]; exact this
theorem d6w {r:Rl} {c:Int} {l:List Tm} (h:C1 r=true) (hl:l.length<=1):C1 (ctR r c l)=true:=by
 have f:=Y1 h
 unfold C1 b9g ctR
 simp only [List.all_cons,List.all_nil,Bool.and_true,Bool.and_eq_true,decide_eq_true_iff]
 have:=f.mo
 have:=f.wn
 have:=f.yd
 have:=f.md
 have:=f.dy
 have:=f.ho
 have:=f.mi
 have:=f.se
 have:=f.sp
 refine ⟨?_,?_,?_,?_,?_,?_,?_,?_,?_,?_⟩ <;> omega
end Go.Re
end
section
namespace Go.Proofs.YtdjfeninmbpflaaGreat
open Go Go.Wk Go.Wl Go.Rx Go.Re 
attribute [local irreducible] i6
def c6z:Nat->Ann:=fun | 5=>⟨122,fun | 17=>some ⟨[9,11,15,16],[.slot 17 (.int .i64)]⟩ | _=>none,fun | 3000012=>some ⟨[],[]⟩ | _=>none⟩ | _=>⟨0,fun _=>none,fun _=>none⟩
def VlC (s:Tm) (r:Rl) (b:Tm) (n:Int) (u:Tm) (Q:Bool->Prop):Prop :=
(200:Int)≠0/\b8 (n.tmod (200:Int)+200)/\(200:Int)≠0/\b8 (ctN n)/\(¬C1 (etR r)=true ∨ ¬b1g (etT s) (etR r) (etT b)=true->Q (decide (true=true)))/\(¬(¬C1 (etR r)=true ∨ ¬b1g (etT s) (etR r) (etT b)=true)->C1 (ctR r (0:Int) [])=true/\((o8 (etT s) (ctR r (0:Int) []) (etT s) (etT b)).snd.nr≠0->Q (decide (true=true)))/\(¬(o8 (etT s) (ctR r (0:Int) []) (etT s) (etT b)).snd.nr≠0->C1 (ctR r (ctN n) [])=true/\(¬(o8 (etT s) (ctR r (ctN n) []) (etT s) (etT b)).snd.nr≠0->(0:Int)<=bif false then max (ctN n) (↑(o8 (etT s) (ctR r (0:Int) []) (etT s) (etT b)).fst.length:Int) else min (ctN n) (↑(o8 (etT s) (ctR r (0:Int) []) (etT s) (etT b)).fst.length:Int))/\(¬(o8 (etT s) (ctR r (ctN n) []) (etT s) (etT b)).snd.nr≠0->(bif false then max (ctN n) (↑(o8 (etT s) (ctR r (0:Int) []) (etT s) (etT b)).fst.length:Int) else min (ctN n) (↑(o8 (etT s) (ctR r (0:Int) []) (etT s) (etT b)).fst.length:Int))<=(↑(o8 (etT s) (ctR r (0:Int) []) (etT s) (etT b)).fst.length:Int))/\(¬(o8 (etT s) (ctR r (ctN n) []) (etT s) (etT b)).snd.nr≠0->(o8 (etT s) (ctR r (ctN n) []) (etT s) (etT b)).fst.length<=10000000)/\((o8 (etT s) (ctR r (ctN n) []) (etT s) (etT b)).snd.nr≠0 ∨ ¬P9 (o8 (etT s) (ctR r (ctN n) []) (etT s) (etT b)).fst (List.drop (none.getD (0:Int)).toNat (List.take ((none.getD (0:Int)).toNat+((some (bif false then max (ctN n) (↑(o8 (etT s) (ctR r (0:Int) []) (etT s) (etT b)).fst.length:Int) else min (ctN n) (↑(o8 (etT s) (ctR r (0:Int) []) (etT s) (etT b)).fst.length:Int))).getD (↑(o8 (etT s) (ctR r (0:Int) []) (etT s) (etT b)).fst.length:Int)-none.getD (0:Int)).toNat) (o8 (etT s) (ctR r (0:Int) []) (etT s) (etT b)).fst))=true->Q false)/\(¬((o8 (etT s) (ctR r (ctN n) []) (etT s) (etT b)).snd.nr≠0 ∨ ¬P9 (o8 (etT s) (ctR r (ctN n) []) (etT s) (etT b)).fst (List.drop (none.getD (0:Int)).toNat (List.take ((none.getD (0:Int)).toNat+((some (bif false then max (ctN n) (↑(o8 (etT s) (ctR r (0:Int) []) (etT s) (etT b)).fst.length:Int) else min (ctN n) (↑(o8 (etT s) (ctR r (0:Int) []) (etT s) (etT b)).fst.length:Int))).getD (↑(o8 (etT s) (ctR r (0:Int) []) (etT s) (etT b)).fst.length:Int)-none.getD (0:Int)).toNat) (o8 (etT s) (ctR r (0:Int) []) (etT s) (etT b)).fst))=true)->((ctT s r b u Q)/\(ctT s r b u Q)/\ctT s r b u Q)/\((ctT s r b u Q)/\ctT s r b u Q)/\ctT s r b u Q)))
theorem d8z {s:Tm} {r:Rl} {b:Tm} {n:Int} {u:Tm} {Q:Bool->Prop}:@Eq Prop (VlC s r b n u Q) (i6 (E:=Nln) (j7 Nln H0 c6z 2) (c6z 5) Tryz.f5 [.agg [.int .i64 s.Day.Year,.int .i64 s.Day.Month,.int .i64 s.Day.Date,.int .i64 s.Hour,.int .i64 s.Min,.int .i64 s.Sec,blB s.Bare,blB s.UTC],.agg [.int .i64 r.Freq,.int .i64 r.Interval,.int .i64 r.Count,.sl (N:=U) 25 r.Until,.sl (N:=U) 3 r.Month,.sl (N:=U) 3 r.WeekNo,.sl (N:=U) 3 r.YearDay,.sl (N:=U) 3 r.MonthDay,.sl (N:=U) 60 r.Days,.sl (N:=U) 3 r.Hour,.sl (N:=U) 3 r.Minute,.sl (N:=U) 3 r.Second,.sl (N:=U) 3 r.SetPos,.int .i64 r.Wkst],.agg [.int .i64 b.Day.Year,.int .i64 b.Day.Month,.int .i64 b.Day.Date,.int .i64 b.Hour,.int .i64 b.Min,.int .i64 b.Sec,blB b.Bare,blB b.UTC],.int .i64 n,.agg [.int .i64 u.Day.Year,.int .i64 u.Day.Month,.int .i64 u.Day.Date,.int .i64 u.Hour,.int .i64 u.Min,.int .i64 u.Sec,blB u.Bare,blB u.UTC]] [] [] 0 (n7 Nln [.bool] Q)):=by kernel_rfl
theorem d5p {s:Tm} {r:Rl} {b:Tm} {n:Int} {u:Tm} {Q:Bool->Prop} (h:VlC s r b n u Q):i6 (E:=Nln) (j7 Nln H0 c6z 2) (c6z 5) Tryz.f5 [.agg [.int .i64 s.Day.Year,.int .i64 s.Day.Month,.int .i64 s.Day.Date,.int .i64 s.Hour,.int .i64 s.Min,.int .i64 s.Sec,blB s.Bare,blB s.UTC],.agg [.int .i64 r.Freq,.int .i64 r.Interval,.int .i64 r.Count,.sl (N:=U) 25 r.Until,.sl (N:=U) 3 r.Month,.sl (N:=U) 3 r.WeekNo,.sl (N:=U) 3 r.YearDay,.sl (N:=U) 3 r.MonthDay,.sl (N:=U) 60 r.Days,.sl (N:=U) 3 r.Hour,.sl (N:=U) 3 r.Minute,.sl (N:=U) 3 r.Second,.sl (N:=U) 3 r.SetPos,.int .i64 r.Wkst],.agg [.int .i64 b.Day.Year,.int .i64 b.Day.Month,.int .i64 b.Day.Date,.int .i64 b.Hour,.int .i64 b.Min,.int .i64 b.Sec,blB b.Bare,blB b.UTC],.int .i64 n,.agg [.int .i64 u.Day.Year,.int .i64 u.Day.Month,.int .i64 u.Day.Date,.int .i64 u.Hour,.int .i64 u.Min,.int .i64 u.Sec,blB u.Bare,blB u.UTC]] [] [] 0 (n7 Nln [.bool] Q):=by rw [<- d8z]; exact h
set_option maxHeartbeats 2000000 in
theorem plC (s:Tm) (r:Rl) (b:Tm) (n:Int) (u:Tm)  : VlC s r b n u (fun y0=>y0=true):=by
 unfold VlC
 simp only [a3w,c59]
 obtain ⟨c0,c1⟩:=d1t n
 have t1:=Int.tmod_lt_of_pos n (show (0:Int)<200 by decide)
 have t2:=Int.lt_tmod_of_pos n (show (0:Int)<200 by decide)
 have e1:∀ x y:Int,(bif false then max x y else min x y)=min x y:=fun _ _=>rfl
 simp only [e1]
 refine ⟨by decide,⟨by omega,by omega⟩,by decide,⟨by omega,by omega⟩,fun _=>rfl,fun h=>?_⟩
 have hfw:C1 r=true:=Classical.not_not.1 fun e=>h (.inl e)
 have hf:∀ (c:Int) (l:List Tm),l.length<=1->C1 (ctR r c l)=true:=fun c l hl=>d6w hfw hl
 refine ⟨hf _ _ (by decide),fun _=>rfl,fun hz=>?_⟩
 have hz:=Classical.not_not.1 hz
 obtain ⟨k1,k2⟩:=c5h (s:=s) (r:=r) (b:=b) (c:=ctN n) hz c0 (by omega)
 have l0:=a9t (s:=s) (r:=ctR r 0 []) (a:=s) (b:=b)
 have l1:=a9t (s:=s) (r:=ctR r (ctN n) []) (a:=s) (b:=b)
 have ek:List.drop ((none:Option Int).getD (0:Int)).toNat (List.take (((none:Option Int).getD (0:Int)).toNat+((some (min (ctN n) ((o8 s (ctR r (0:Int) []) s b).fst.length:Int))).getD ((o8 s (ctR r (0:Int) []) s b).fst.length:Int)-(none:Option Int).getD (0:Int)).toNat) (o8 s (ctR r (0:Int) []) s b).fst)=(o8 s (ctR r (0:Int) []) s b).fst.take (ctN n).toNat:=by
  show List.drop 0 (List.take (0+(min (ctN n) ((o8 s (ctR r (0:Int) []) s b).fst.length:Int)-0).toNat) _)=_
  rw [List.drop_zero,List.take_eq_take_iff]
  omega
 refine ⟨hf _ _ (by decide),fun _=>by omega,fun _=>by omega,fun _=>by omega,fun hb=>?_,fun _=>?_⟩
 . exfalso
   rcases hb with hb | hb
   . exact hb k1
   . exact hb (decide_eq_true (by rw [ek]; exact k2))
 have T:ctT s r b u (fun y=>y=true):=by
  unfold ctT
  simp only [a3w]
  refine ⟨hf _ _ (Nat.le_refl 1),fun _=>rfl,fun hft=>⟨hf _ _ (Nat.le_refl 1),fun x=>0<=x/\x<=((o8 s (ctR r 0 []) s b).1.length:Int)/\∀ i:Int,0<i->i<x->i4 (ix (o8 s (ctR r 0 []) s b).1 i)<=i4 u,fun x=>(((o8 s (ctR r 0 []) s b).1.length:Int)-x).toNat,⟨Int.le_refl 0,by omega,fun i h1 h2=>by omega⟩,?_⟩⟩
  rintro x ⟨x0,x1,hx⟩
  have hF:=E9.1 (Classical.not_not.1 hft)
  refine ⟨⟨fun _=>x0,fun hh=>hh.1⟩,fun _ _ _ _ _ _=>⟨fun hh=>⟨⟨by omega,by omega⟩,⟨by omega,by omega,fun i h1 h2=>?_⟩,by show (_:Int).toNat<(_:Int).toNat; omega⟩,fun hh=>?_⟩⟩
  . by_cases e:i=x
    . subst e; exact hh.2.resolve_left (by omega)
    . exact hx i h1 (by omega)
  . obtain ⟨q1,q2⟩:=c41 hz hF x0 x1 hx hh
    have lu:=a9t (s:=s) (r:=ctR r 0 [u]) (a:=s) (b:=b)
    refine ⟨fun _=>x0,fun _=>x1,fun _=>by omega,?_⟩
    refine decide_eq_true ⟨⟨q1,decide_eq_true ?_⟩,trivial⟩
    rw [q2]
    show _=List.drop 0 (List.take (0+(x-0).toNat) _)
    rw [List.drop_zero,Nat.zero_add,Int.sub_zero]
 exact ⟨⟨T,T,T⟩,⟨T,T⟩,T⟩
end Go.Proofs.YtdjfeninmbpflaaGreat
end
section
namespace Go.Proofs.YtdjfeninmbpflaaGreat
open Go Go.Wk Go.Wl Go.Rx Go.RowKit Go.ChangeShapes Go.WideShapes Go.Re
theorem e3h:laidOutB Tryz.prog=true:=by kernel_rfl
theorem e3v:ownKnob Tryz.prog.godebug=none:=by kernel_rfl
theorem e2t {P:Program} {ts:List TypeId} (h:(ts.all fun t=>P.readableRec t && decide (t<P.types.size))=true):∀ t∈ts,P.readableRec t=true/\t<P.types.size:=fun t ht=>by
 have:=List.all_eq_true.1 h t ht
 rw [Bool.and_eq_true,decide_eq_true_eq] at this
 exact this
theorem b9b:S6 Tryz.prog 23 dDy:=fun {H enc fuel w sp cs x} h=>by
 obtain ⟨xs,n,_,_,hlen,hxl,hget⟩:=DataW.trod_struct Tryz.underlying23 h
 have hz:Tryz.prog.cellsOf 23=3:=by kernel_rfl
 rw [hz] at hlen
 have z3:Tryz.prog.cellsOf 3=1:=by kernel_rfl
 have g0:DataW.trod enc Tryz.prog w 0 sp true n 3 ((cs.drop 0).take (Tryz.prog.cellsOf 3))=xs[0]? := hget 0 _ rfl
 rw [List.getElem?_eq_getElem (by rw [hxl]; decide),z3] at g0
 obtain ⟨y0,k0⟩:=(s7 Tryz.underlying3) g0
 have g1:DataW.trod enc Tryz.prog w 0 sp true n 3 ((cs.drop 1).take (Tryz.prog.cellsOf 3))=xs[1]? := hget 1 _ rfl
 rw [List.getElem?_eq_getElem (by rw [hxl]; decide),z3] at g1
 obtain ⟨y1,k1⟩:=(s7 Tryz.underlying3) g1
 have g2:DataW.trod enc Tryz.prog w 0 sp true n 3 ((cs.drop 2).take (Tryz.prog.cellsOf 3))=xs[2]? := hget 2 _ rfl
 rw [List.getElem?_eq_getElem (by rw [hxl]; decide),z3] at g2
 obtain ⟨y2,k2⟩:=(s7 Tryz.underlying3) g2
 have q:cs=(cs.drop 0).take (1+(1+(1))):=a82 hlen
 exact ⟨⟨y0,y1,y2⟩,_,_,_,q.trans (H8.trans (congrArg _ H8)),k0,k1,k2⟩
theorem a6q:S6 Tryz.prog 25 dTm:=fun {H enc fuel w sp cs x} h=>by
 obtain ⟨xs,n,_,_,hlen,hxl,hget⟩:=DataW.trod_struct Tryz.underlying25 h
 have hz:Tryz.prog.cellsOf 25=8:=by kernel_rfl
 rw [hz] at hlen
 have z3:Tryz.prog.cellsOf 3=1:=by kernel_rfl
 have z4:Tryz.prog.cellsOf 4=1:=by kernel_rfl
 have z23:Tryz.prog.cellsOf 23=3:=by kernel_rfl
 have g0:DataW.trod enc Tryz.prog w 0 sp true n 23 ((cs.drop 0).take (Tryz.prog.cellsOf 23))=xs[0]? := hget 0 _ rfl
 rw [List.getElem?_eq_getElem (by rw [hxl]; decide),z23] at g0
 obtain ⟨y0,k0⟩:=b9b g0
 have g1:DataW.trod enc Tryz.prog w 0 sp true n 3 ((cs.drop 3).take (Tryz.prog.cellsOf 3))=xs[1]? := hget 1 _ rfl
 rw [List.getElem?_eq_getElem (by rw [hxl]; decide),z3] at g1
 obtain ⟨y1,k1⟩:=(s7 Tryz.underlying3) g1
 have g2:DataW.trod enc Tryz.prog w 0 sp true n 3 ((cs.drop 4).take (Tryz.prog.cellsOf 3))=xs[2]? := hget 2 _ rfl
 rw [List.getElem?_eq_getElem (by rw [hxl]; decide),z3] at g2
 obtain ⟨y2,k2⟩:=(s7 Tryz.underlying3) g2
 have g3:DataW.trod enc Tryz.prog w 0 sp true n 3 ((cs.drop 5).take (Tryz.prog.cellsOf 3))=xs[3]? := hget 3 _ rfl
 rw [List.getElem?_eq_getElem (by rw [hxl]; decide),z3] at g3
 obtain ⟨y3,k3⟩:=(s7 Tryz.underlying3) g3
 have g4:DataW.trod enc Tryz.prog w 0 sp true n 4 ((cs.drop 6).take (Tryz.prog.cellsOf 4))=xs[4]? := hget 4 _ rfl
 rw [List.getElem?_eq_getElem (by rw [hxl]; decide),z4] at g4
 obtain ⟨y4,k4⟩:=(a2k Tryz.underlying4) g4
 have g5:DataW.trod enc Tryz.prog w 0 sp true n 4 ((cs.drop 7).take (Tryz.prog.cellsOf 4))=xs[5]? := hget 5 _ rfl
 rw [List.getElem?_eq_getElem (by rw [hxl]; decide),z4] at g5
 obtain ⟨y5,k5⟩:=(a2k Tryz.underlying4) g5
 have q:cs=(cs.drop 0).take (3+(1+(1+(1+(1+(1)))))):=a82 hlen
 exact ⟨⟨y0,y1,y2,y3,y4,y5⟩,_,_,_,_,_,_,q.trans (H8.trans (congrArg _ (H8.trans (congrArg _ (H8.trans (congrArg _ (H8.trans (congrArg _ H8)))))))),k0,k1,k2,k3,k4,k5⟩
theorem b9m:S6 Tryz.prog 60 dNt:=fun {H enc fuel w sp cs x} h=>by
 obtain ⟨xs,n,_,_,hlen,hxl,hget⟩:=DataW.trod_struct Tryz.underlying60 h
 have hz:Tryz.prog.cellsOf 60=2:=by kernel_rfl
 rw [hz] at hlen
 have z3:Tryz.prog.cellsOf 3=1:=by kernel_rfl
 have g0:DataW.trod enc Tryz.prog w 0 sp true n 3 ((cs.drop 0).take (Tryz.prog.cellsOf 3))=xs[0]? := hget 0 _ rfl
 rw [List.getElem?_eq_getElem (by rw [hxl]; decide),z3] at g0
 obtain ⟨y0,k0⟩:=(s7 Tryz.underlying3) g0
 have g1:DataW.trod enc Tryz.prog w 0 sp true n 3 ((cs.drop 1).take (Tryz.prog.cellsOf 3))=xs[1]? := hget 1 _ rfl
 rw [List.getElem?_eq_getElem (by rw [hxl]; decide),z3] at g1
 obtain ⟨y1,k1⟩:=(s7 Tryz.underlying3) g1
 have q:cs=(cs.drop 0).take (1+(1)):=a82 hlen
 exact ⟨⟨y0,y1⟩,_,_,q.trans H8,k0,k1⟩
theorem b9y:S6 Tryz.prog 30 dRl:=fun {H enc fuel w sp cs x} h=>by
 obtain ⟨xs,n,_,_,hlen,hxl,hget⟩:=DataW.trod_struct Tryz.underlying30 h
 have hz:Tryz.prog.cellsOf 30=14:=by kernel_rfl
 rw [hz] at hlen
 have z3:Tryz.prog.cellsOf 3=1:=by kernel_rfl
 have z26:Tryz.prog.cellsOf 26=1:=by kernel_rfl
 have z27:Tryz.prog.cellsOf 27=1:=by kernel_rfl
 have z28:Tryz.prog.cellsOf 28=1:=by kernel_rfl
 have g0:DataW.trod enc Tryz.prog w 0 sp true n 3 ((cs.drop 0).take (Tryz.prog.cellsOf 3))=xs[0]? := hget 0 _ rfl
 rw [List.getElem?_eq_getElem (by rw [hxl]; decide),z3] at g0
 obtain ⟨y0,k0⟩:=(s7 Tryz.underlying3) g0
 have g1:DataW.trod enc Tryz.prog w 0 sp true n 3 ((cs.drop 1).take (Tryz.prog.cellsOf 3))=xs[1]? := hget 1 _ rfl
 rw [List.getElem?_eq_getElem (by rw [hxl]; decide),z3] at g1
 obtain ⟨y1,k1⟩:=(s7 Tryz.underlying3) g1
 have g2:DataW.trod enc Tryz.prog w 0 sp true n 3 ((cs.drop 2).take (Tryz.prog.cellsOf 3))=xs[2]? := hget 2 _ rfl
 rw [List.getElem?_eq_getElem (by rw [hxl]; decide),z3] at g2
 obtain ⟨y2,k2⟩:=(s7 Tryz.underlying3) g2
 have g3:DataW.trod enc Tryz.prog w 0 sp true n 26 ((cs.drop 3).take (Tryz.prog.cellsOf 26))=xs[3]? := hget 3 _ rfl
 rw [List.getElem?_eq_getElem (by rw [hxl]; decide),z26] at g3
 obtain ⟨y3,k3⟩:=(A3 Tryz.underlying26 (by kernel_rfl) (by decide) a6q) g3
 have g4:DataW.trod enc Tryz.prog w 0 sp true n 27 ((cs.drop 4).take (Tryz.prog.cellsOf 27))=xs[4]? := hget 4 _ rfl
 rw [List.getElem?_eq_getElem (by rw [hxl]; decide),z27] at g4
 obtain ⟨y4,k4⟩:=(A3 Tryz.underlying27 (by kernel_rfl) (by decide) (s7 Tryz.underlying3)) g4
 have g5:DataW.trod enc Tryz.prog w 0 sp true n 27 ((cs.drop 5).take (Tryz.prog.cellsOf 27))=xs[5]? := hget 5 _ rfl
 rw [List.getElem?_eq_getElem (by rw [hxl]; decide),z27] at g5
 obtain ⟨y5,k5⟩:=(A3 Tryz.underlying27 (by kernel_rfl) (by decide) (s7 Tryz.underlying3)) g5
 have g6:DataW.trod enc Tryz.prog w 0 sp true n 27 ((cs.drop 6).take (Tryz.prog.cellsOf 27))=xs[6]? := hget 6 _ rfl
 rw [List.getElem?_eq_getElem (by rw [hxl]; decide),z27] at g6
 obtain ⟨y6,k6⟩:=(A3 Tryz.underlying27 (by kernel_rfl) (by decide) (s7 Tryz.underlying3)) g6
 have g7:DataW.trod enc Tryz.prog w 0 sp true n 27 ((cs.drop 7).take (Tryz.prog.cellsOf 27))=xs[7]? := hget 7 _ rfl
 rw [List.getElem?_eq_getElem (by rw [hxl]; decide),z27] at g7
 obtain ⟨y7,k7⟩:=(A3 Tryz.underlying27 (by kernel_rfl) (by decide) (s7 Tryz.underlying3)) g7
 have g8:DataW.trod enc Tryz.prog w 0 sp true n 28 ((cs.drop 8).take (Tryz.prog.cellsOf 28))=xs[8]? := hget 8 _ rfl
 rw [List.getElem?_eq_getElem (by rw [hxl]; decide),z28] at g8
 obtain ⟨y8,k8⟩:=(A3 Tryz.underlying28 (by kernel_rfl) (by decide) b9m) g8
 have g9:DataW.trod enc Tryz.prog w 0 sp true n 27 ((cs.drop 9).take (Tryz.prog.cellsOf 27))=xs[9]? := hget 9 _ rfl
 rw [List.getElem?_eq_getElem (by rw [hxl]; decide),z27] at g9
 obtain ⟨y9,k9⟩:=(A3 Tryz.underlying27 (by kernel_rfl) (by decide) (s7 Tryz.underlying3)) g9
 have g10:DataW.trod enc Tryz.prog w 0 sp true n 27 ((cs.drop 10).take (Tryz.prog.cellsOf 27))=xs[10]? := hget 10 _ rfl
 rw [List.getElem?_eq_getElem (by rw [hxl]; decide),z27] at g10
 obtain ⟨y10,k10⟩:=(A3 Tryz.underlying27 (by kernel_rfl) (by decide) (s7 Tryz.underlying3)) g10
 have g11:DataW.trod enc Tryz.prog w 0 sp true n 27 ((cs.drop 11).take (Tryz.prog.cellsOf 27))=xs[11]? := hget 11 _ rfl
 rw [List.getElem?_eq_getElem (by rw [hxl]; decide),z27] at g11
 obtain ⟨y11,k11⟩:=(A3 Tryz.underlying27 (by kernel_rfl) (by decide) (s7 Tryz.underlying3)) g11
 have g12:DataW.trod enc Tryz.prog w 0 sp true n 27 ((cs.drop 12).take (Tryz.prog.cellsOf 27))=xs[12]? := hget 12 _ rfl
 rw [List.getElem?_eq_getElem (by rw [hxl]; decide),z27] at g12
 obtain ⟨y12,k12⟩:=(A3 Tryz.underlying27 (by kernel_rfl) (by decide) (s7 Tryz.underlying3)) g12
 have g13:DataW.trod enc Tryz.prog w 0 sp true n 3 ((cs.drop 13).take (Tryz.prog.cellsOf 3))=xs[13]? := hget 13 _ rfl
 rw [List.getElem?_eq_getElem (by rw [hxl]; decide),z3] at g13
 obtain ⟨y13,k13⟩:=(s7 Tryz.underlying3) g13
 have q:cs=(cs.drop 0).take (1+(1+(1+(1+(1+(1+(1+(1+(1+(1+(1+(1+(1+(1)))))))))))))):=a82 hlen
 exact ⟨⟨y0,y1,y2,y3,y4,y5,y6,y7,y8,y9,y10,y11,y12,y13⟩,_,_,_,_,_,_,_,_,_,_,_,_,_,_,q.trans (H8.trans (congrArg _ (H8.trans (congrArg _ (H8.trans (congrArg _ (H8.trans (congrArg _ (H8.trans (congrArg _ (H8.trans (congrArg _ (H8.trans (congrArg _ (H8.trans (congrArg _ (H8.trans (congrArg _ (H8.trans (congrArg _ (H8.trans (congrArg _ (H8.trans (congrArg _ H8)))))))))))))))))))))))),k0,k1,k2,k3,k4,k5,k6,k7,k8,k9,k10,k11,k12,k13⟩
theorem c0b {Z:Nat->Prop} {W:World} {v:Value} (h:Rep U eT (fun _=>none) Z W v (blB true)):v=.bool true:=by
 cases h with | bl=>rfl
theorem c4v {v:Value} {n:Nat} (h:v.cells.toList.length=n+2):∃ cs:List Value,v=.agg cs.toArray/\v.cells.toList=cs:=by
 cases v with
 | agg cs=>exact ⟨cs.toList,by simp,rfl⟩
 | _=>simp [Value.cells] at h
theorem c1n {H:Type} {enc:TypeId×Value->H} {W:World} {sp:Nat->Bool} {v:Value} {d:DataW H} {ps:List MemPlace} (h:DataW.Trod enc Tryz.prog W 0 sp true 25 v d ps):∃ y:Tm,Rep U eT (fun _=>none) (fun b=>b<W.heap.size) W v (.agg [.int .i64 y.Day.Year,.int .i64 y.Day.Month,.int .i64 y.Day.Date,.int .i64 y.Hour,.int .i64 y.Min,.int .i64 y.Sec,blB y.Bare,blB y.UTC]):=by
 obtain ⟨n,h⟩:=h
 obtain ⟨y,k⟩:=a6q h
 have k:=Rd.weak (D':=fun b=>b<W.heap.size) _ k (fun _ _ hb=>hb)
 obtain ⟨cs,e1,e2⟩:=c4v (n:=6) (Rd.len _ k)
 rw [e2] at k
 exact ⟨y,by rw [e1]; exact y25.sv_ok k⟩
theorem e2q {H:Type} {enc:TypeId×Value->H} {W:World} {sp:Nat->Bool} {v:Value} {d:DataW H} {ps:List MemPlace} (h:DataW.Trod enc Tryz.prog W 0 sp true 30 v d ps):∃ y:Rl,Rep U eT (fun _=>none) (fun b=>b<W.heap.size) W v (.agg [.int .i64 y.Freq,.int .i64 y.Interval,.int .i64 y.Count,.sl (N:=U) 25 y.Until,.sl (N:=U) 3 y.Month,.sl (N:=U) 3 y.WeekNo,.sl (N:=U) 3 y.YearDay,.sl (N:=U) 3 y.MonthDay,.sl (N:=U) 60 y.Days,.sl (N:=U) 3 y.Hour,.sl (N:=U) 3 y.Minute,.sl (N:=U) 3 y.Second,.sl (N:=U) 3 y.SetPos,.int .i64 y.Wkst]):=by
 obtain ⟨n,h⟩:=h
 obtain ⟨y,k⟩:=b9y h
 have k:=Rd.weak (D':=fun b=>b<W.heap.size) _ k (fun _ _ hb=>hb)
 obtain ⟨cs,e1,e2⟩:=c4v (n:=12) (Rd.len _ k)
 rw [e2] at k
 exact ⟨y,by rw [e1]; exact y30.sv_ok k⟩
end Go.Proofs.YtdjfeninmbpflaaGreat
end
