/- 29 texts, one behind the other. -/
import Derived.Test.YtdjfeninmbpflaaGreatM7
import Derived.Test.YtdjfeninmbpflaaGreatM4
import Derived.Test.YtdjfeninmbpflaaGreatRows
import Derived.Test.YtdjfeninmbpflaaGreatM1
import Derived.ChangeSame
import Derived.ChangeVars
import Derived.JoinedOf
import Derived.RowKit
import Derived.RowKit2
import Derived.Carry
import Derived.ProofKit
set_option linter.unusedVariables false
set_option linter.unusedSimpArgs false
set_option maxRecDepth 100000
section
namespace Go.Proofs.YtdjfeninmbpflaaGreat
open Go Go.Wk Go.Wl Go.Rx Go.Re 
attribute [local irreducible] i7
def c3q:Nat->Ann:=fun | 32=>⟨74,fun | 6=>some ⟨[2,6,39,40],[.slot 41 (.int .i64)]⟩ | _=>none,fun _=>none⟩ | 34=>⟨171,fun | 16=>some ⟨[0,2,3,9,11,14],[.slot 10 (.int .i64),.slot 15 (.int .i64),.own 1000003 [.int .i64]]⟩ | 23=>some ⟨[0,2,3,9,11,14,15,130,131],[.slot 10 (.int .i64),.slot 132 (.int .i64),.own 1000003 [.int .i64]]⟩ | 7=>some ⟨[0,1,2,3,9,10,42,43],[.slot 11 (.int .i64),.slot 44 (.int .i64)]⟩ | _=>none,fun | 5=>some ⟨[0,1,2,3,9,10],[.own 1000003 [.int .i64]]⟩ | 16=>some ⟨[0,2,3,9,10,11,14],[.slot 15 (.int .i64)]⟩ | _=>none⟩ | 58=>⟨14,fun _=>none,fun _=>none⟩ | _=>⟨0,fun _=>none,fun _=>none⟩
def X2 (l:Lk) (x_4:Int):=l4 l.Rule (b8 (etT l.start))+x_4 * l.Rule.Interval
def a1p (l:Lk):=l4 l.Rule (b8 (etT l.start))+40000 * l.Rule.Interval
def c1y (l:Lk):=l4 l.Rule (bif false then max (0:Int) (315537897599:Int) else min (0:Int) (315537897599:Int))-l4 l.Rule (b8 (etT l.start))
def Vfa (l:Lk) (to:Int) (Q:Err->Prop):Prop :=
((0:Int)<=b8 (etT l.start)/\b8 (etT l.start)<=400000000000/\(0:Int)<=l.Rule.Wkst/\l.Rule.Wkst<=6)/\b9 ((40000:Int) * l.Rule.Interval)/\b9 (a1p l)/\(0:Int)<=l4 l.Rule (b8 (etT l.start))+40000 * l.Rule.Interval/\l4 l.Rule (b8 (etT l.start))+40000 * l.Rule.Interval<=1000000000000/\(0:Int)<=l.Rule.Wkst/\l.Rule.Wkst<=6/\(to<=q8 l.Rule (a1p l) ∨ (315537897600:Int)<=q8 l.Rule (a1p l)->Q Err.nil)/\(¬(to<=q8 l.Rule (a1p l) ∨ (315537897600:Int)<=q8 l.Rule (a1p l))->∃ (I:Int->Prop),∃ (m:Int->Nat),I (0:Int)/\∀ (x:Int),I x->(x<(↑l.Rule.Until.length:Int)->(0:Int)<=x/\x<(↑l.Rule.Until.length:Int)/\(b9 (ix l.Rule.Until x).Day.Year->b9 (ix l.Rule.Until x).Day.Month->b9 (ix l.Rule.Until x).Day.Date->b9 (ix l.Rule.Until x).Hour->b9 (ix l.Rule.Until x).Min->b9 (ix l.Rule.Until x).Sec->(b8 (etT (ix l.Rule.Until x))<q8 l.Rule (a1p l)->Q Err.nil)/\(¬b8 (etT (ix l.Rule.Until x))<q8 l.Rule (a1p l)->b9 (x+1)/\I (x+1)/\m (x+1)<m x)))/\(¬x<(↑l.Rule.Until.length:Int)->((0:Int)<l.Rule.Count->∃ (J:Int->Prop),((b8 (etT l.start)<q8 l.Rule (a1p l)/\(0:Int)<=b8 (etT l.start)->b9 ((0:Int)+1)/\(¬(0:Int)+1<l.Rule.Count->(l.Rule.Count<=(0:Int)+1 ∨ Err.nil≠Err.nil->Q Err.nil)/\(¬(l.Rule.Count<=(0:Int)+1 ∨ Err.nil≠Err.nil)->Q (Err.w (87:Nat) [] (Err.no (5:Int)))))/\(¬¬(0:Int)+1<l.Rule.Count->J ((0:Int)+1)))/\(¬(b8 (etT l.start)<q8 l.Rule (a1p l)/\(0:Int)<=b8 (etT l.start))->J (0:Int)))/\∀ (x:Int),J x->∃ (I:Int->Int->Prop),∃ (m:Int->Int->Nat),I (315537897600:Int) (0:Int)/\∀ (x_1 x_2:Int),I x_1 x_2->(x_2<(↑l.Rule.Until.length:Int)->(0:Int)<=x_2/\x_2<(↑l.Rule.Until.length:Int)/\(b9 (ix l.Rule.Until x_2).Day.Year->b9 (ix l.Rule.Until x_2).Day.Month->b9 (ix l.Rule.Until x_2).Day.Date->b9 (ix l.Rule.Until x_2).Hour->b9 (ix l.Rule.Until x_2).Min->b9 (ix l.Rule.Until x_2).Sec->b9 (x_2+1)/\I (b8 (etT (ix l.Rule.Until x_2))) (x_2+1)/\m (b8 (etT (ix l.Rule.Until x_2))) (x_2+1)<m x_1 x_2))/\(¬x_2<(↑l.Rule.Until.length:Int)->(0:Int)<=b8 (etT l.start)/\b8 (etT l.start)<=400000000000/\(0:Int)<=l.Rule.Wkst/\l.Rule.Wkst<=6/\∃ (J:Int->Prop),((l.Rule.Count=0/\b8 (etT l.start)<0->(((0:Int)<=bif false then max (0:Int) (315537897599:Int) else min (0:Int) (315537897599:Int))/\(bif false then max (0:Int) (315537897599:Int) else min (0:Int) (315537897599:Int))<=400000000000/\(0:Int)<=l.Rule.Wkst/\l.Rule.Wkst<=6)/\b9 (c1y l)/\(l.Rule.Interval≠0/\b9 ((c1y l).tdiv l.Rule.Interval))/\b9 ((c1y l).tdiv l.Rule.Interval-1)/\J (bif true then max (0:Int) ((c1y l).tdiv l.Rule.Interval-1) else min (0:Int) ((c1y l).tdiv l.Rule.Interval-1)))/\(¬(l.Rule.Count=0/\b8 (etT l.start)<0)->J (0:Int)))/\∀ (x_3:Int),J x_3->∃ (I:Int->Int->Int->Prop),∃ (m:Int->Int->Int->Nat),I (1:Int) x_3 x/\∀ (x x_4 x_5:Int),I x x_4 x_5->b9 (x_4 * l.Rule.Interval)/\b9 (X2 l x_4)/\(0:Int)<=l4 l.Rule (b8 (etT l.start))+x_4 * l.Rule.Interval/\l4 l.Rule (b8 (etT l.start))+x_4 * l.Rule.Interval<=1000000000000/\(0:Int)<=l.Rule.Wkst/\l.Rule.Wkst<=6/\(((q8 l.Rule (a1p l)<=q8 l.Rule (X2 l x_4) ∨ x_1<q8 l.Rule (X2 l x_4)) ∨ (0:Int)<l.Rule.Count/\l.Rule.Count<=x) ∨ (315537897600:Int)<=q8 l.Rule (X2 l x_4)->(l.Rule.Count<=x_5 ∨ Err.nil≠Err.nil->Q Err.nil)/\(¬(l.Rule.Count<=x_5 ∨ Err.nil≠Err.nil)->Q (Err.w (87:Nat) [] (Err.no (5:Int)))))/\(¬(((q8 l.Rule (a1p l)<=q8 l.Rule (X2 l x_4) ∨ x_1<q8 l.Rule (X2 l x_4)) ∨ (0:Int)<l.Rule.Count/\l.Rule.Count<=x) ∨ (315537897600:Int)<=q8 l.Rule (X2 l x_4))->((40000:Int)<=x_4->(l.Rule.Count<=x_5 ∨ Err.w (87:Nat) [] (Err.no (5:Int))≠Err.nil->Q (Err.w (87:Nat) [] (Err.no (5:Int))))/\(¬(l.Rule.Count<=x_5 ∨ Err.w (87:Nat) [] (Err.no (5:Int))≠Err.nil)->Q (Err.w (87:Nat) [] (Err.no (5:Int)))))/\(¬(40000:Int)<=x_4->A5 l.Rule=true/\C6 l.start l.Rule=true/\(0:Int)<=l4 l.Rule (b8 (etT l.start))+x_4 * l.Rule.Interval/\l4 l.Rule (b8 (etT l.start))+x_4 * l.Rule.Interval<=999999999999/\∃ (I_1:Int->Int->Int->Prop),∃ (m_1:Int->Int->Int->Nat),I_1 x (0:Int) x_5/\∀ (x_6 x_7 x_8:Int),I_1 x_6 x_7 x_8->(x_7<(↑(A8 l.start l.Rule l.day (X2 l x_4)).length:Int)->(0:Int)<=x_7/\x_7<(↑(A8 l.start l.Rule l.day (X2 l x_4)).length:Int)/\(b9 (ix (A8 l.start l.Rule l.day (X2 l x_4)) x_7)->(ix (A8 l.start l.Rule l.day (X2 l x_4)) x_7<=b8 (etT l.start)->b9 (x_7+1)/\I_1 x_6 (x_7+1) x_8/\m_1 x_6 (x_7+1) x_8<m_1 x_6 x_7 x_8)/\(¬ix (A8 l.start l.Rule l.day (X2 l x_4)) x_7<=b8 (etT l.start)->((q8 l.Rule (a1p l)<=ix (A8 l.start l.Rule l.day (X2 l x_4)) x_7 ∨ x_1<ix (A8 l.start l.Rule l.day (X2 l x_4)) x_7) ∨ (0:Int)<l.Rule.Count/\l.Rule.Count<=x_6->b9 (x_4+1)/\I x_6 (x_4+1) x_8/\m x_6 (x_4+1) x_8<m x x_4 x_5)/\(¬((q8 l.Rule (a1p l)<=ix (A8 l.start l.Rule l.day (X2 l x_4)) x_7 ∨ x_1<ix (A8 l.start l.Rule l.day (X2 l x_4)) x_7) ∨ (0:Int)<l.Rule.Count/\l.Rule.Count<=x_6)->b9 (x_6+1)/\b9 (x_8+1)/\(¬x_8+1<l.Rule.Count->(l.Rule.Count<=x_8+1 ∨ Err.nil≠Err.nil->Q Err.nil)/\(¬(l.Rule.Count<=x_8+1 ∨ Err.nil≠Err.nil)->Q (Err.w (87:Nat) [] (Err.no (5:Int)))))/\(¬¬x_8+1<l.Rule.Count->b9 (x_7+1)/\I_1 (x_6+1) (x_7+1) (x_8+1)/\m_1 (x_6+1) (x_7+1) (x_8+1)<m_1 x_6 x_7 x_8)))))/\(¬x_7<(↑(A8 l.start l.Rule l.day (X2 l x_4)).length:Int)->b9 (x_4+1)/\I x_6 (x_4+1) x_8/\m x_6 (x_4+1) x_8<m x x_4 x_5)))))/\(¬(0:Int)<l.Rule.Count->Q (Err.w (87:Nat) [] (Err.no (5:Int))))))
theorem e0a {l:Lk} {to:Int} {Q:Err->Prop}:@Eq Prop (Vfa l to Q) (i7 (E:=a4h) (j7 a4h H0 c3q 4) (c3q 32) Tryz.f32 [.fel (N:=U) 85 [l] 0 0,.int .i64 to] [] [] 0 (n5 a4h [.err] Q)):=by kernel_rfl
theorem d4o {l:Lk} {to:Int} {Q:Err->Prop} (h:Vfa l to Q):i7 (E:=a4h) (j7 a4h H0 c3q 4) (c3q 32) Tryz.f32 [.fel (N:=U) 85 [l] 0 0,.int .i64 to] [] [] 0 (n5 a4h [.err] Q):=by rw [<- e0a]; exact h
set_option maxHeartbeats 2000000 in
theorem pfa (l:Lk) (to:Int) (hfw:A5 l.Rule=true) (hf:C6 l.start l.Rule=true):Vfa l to (fun y0=>y0=b4d (S3 l.start l.Rule l.day to)):=by
 unfold Vfa c1y a1p X2
 simp only [Y9]
 have hF:=G6.1 hf
 obtain ⟨s0,s1⟩:=w9 hF.rt
 obtain ⟨_,_,v0,v1,n0,n1,w0,w1⟩:=(n7.1 hF.rr).head
 obtain ⟨u1,u2⟩:=(n7.1 hF.rr).til
 obtain ⟨a0,a1⟩:=a09 (r:=l.Rule) s0 s1 w0 w1
 obtain ⟨fb,hfb⟩:∃ fb,S3 l.start l.Rule l.day to=fb:=⟨_,rfl⟩
 rw [hfb]
 unfold S3 at hfb
 have lt:∀ n i:Int,i<n->(n-(i+1)).toNat<(n-i).toNat:=fun n i h=>by omega
 generalize q8 l.Rule (l4 l.Rule (b8 l.start)+40000 * l.Rule.Interval)=b at *
 refine ⟨⟨s0,by omega,w0,w1⟩,⟨by omega,by omega⟩,⟨by omega,by omega⟩,by omega,by omega,w0,w1,fun h=>?_,fun h=>⟨fun x=>0<=x/\x<=(l.Rule.Until.length:Int)/\(0<x->¬ b8 (ix l.Rule.Until 0)<b),fun x=>((l.Rule.Until.length:Int)-x).toNat,⟨Int.le_refl 0,by omega,fun h=>absurd h (by decide)⟩,fun x hx=>⟨fun hlt=>⟨hx.1,hlt,fun _ _ _ _ _ _=>⟨fun hs=>?_,fun hs=>⟨⟨by omega,by omega⟩,⟨by omega,by omega,fun _=>?_⟩,lt _ _ hlt⟩⟩⟩,fun hge=>⟨fun hc=>?_,fun hc=>?_⟩⟩⟩⟩
 . rw [if_pos h] at hfb; rw [<- hfb]; rfl
 . have e:x=0:=by omega
   subst e
   rw [if_neg h,if_pos ⟨hlt,hs⟩] at hfb; rw [<- hfb]; rfl
 . have e:x=0:=by omega
   subst e; exact hs
 . have hnu:¬ (0<(l.Rule.Until.length:Int)/\b8 (ix l.Rule.Until 0)<b):=fun hh=>hx.2.2 (by omega) hh.2
   rw [if_neg h,if_neg hnu,if_pos hc] at hfb
   generalize hg:N8 (a1b l.Rule) [] (I3 l.start l.Rule l.day 0 b).1 (I3 l.start l.Rule l.day 0 b).2=g at hfb
   have R0:a3i (a1b l.Rule) g [] (I3 l.start l.Rule l.day 0 b).1 (I3 l.start l.Rule l.day 0 b).2:=⟨hg⟩
   clear hg
   unfold I3 at R0
   have ek:k0S l.start l.Rule 0=0:=by unfold k0S; rw [if_neg (fun hh=>absurd hh.1 (by omega))]
   rw [ek] at R0
   generalize b8 l.start=fi at *
   generalize l4 l.Rule fi=i0 at *
   have yes:∀ y:List Int,∀ t n:Int,(y.length:Int)=n->n+1<l.Rule.Count->a1b l.Rule y t=true:=fun y t n hn hh=>decide_eq_true (by rw [hn]; exact hh)
   have no:∀ y:List Int,∀ t n:Int,(y.length:Int)=n->¬ n+1<l.Rule.Count->¬ a1b l.Rule y t=true:=fun y t n hn hh e=>hh (by have:=of_decide_eq_true e; rw [hn] at this; exact this)
   have len1:∀ (y:List Int) (t n:Int),(y.length:Int)=n->((y++[t]).length:Int)=n+1:=fun y t n hn=>by rw [List.length_append,List.length_singleton]; omega
   refine ⟨fun n=>∃ y:List Int,(y.length:Int)=n/\n<=1/\a4b (a1b l.Rule) g l.start l.Rule l.day fi b (L9 l.Rule) i0 0 1 y,⟨fun hfst=>⟨by decide,fun hst=>?_,fun hgo=>?_⟩,fun hnf=>?_⟩,fun n hn=>⟨fun til x=>0<=x/\x<=(l.Rule.Until.length:Int)/\til=if 0<x then b8 (ix l.Rule.Until 0) else 315537897600,fun _ x=>((l.Rule.Until.length:Int)-x).toNat,⟨Int.le_refl 0,by omega,rfl⟩,fun til x hx=>⟨fun hlt=>⟨hx.1,hlt,fun _ _ _ _ _ _=>⟨⟨by omega,by omega⟩,⟨by omega,by omega,?_⟩,lt _ _ hlt⟩⟩,fun hge=>?_⟩⟩⟩
   . rw [if_pos hfst.1,List.cons_append,List.nil_append] at R0
     have e:=R0.stop (no [] fi 0 rfl hst)
     have q:=a4u hfb e (len1 [] fi 0 rfl)
     refine ⟨fun h1=>?_,fun h1=>absurd (.inl (by omega)) h1⟩
     rw [q.1 (by omega)]; rfl
   . rw [if_pos hfst.1,List.cons_append,List.nil_append] at R0
     exact ⟨[fi],rfl,by decide,⟨R0.go (yes [] fi 0 rfl (Classical.not_not.1 hgo))⟩⟩
   . rw [if_neg (fun hh=>hnf ⟨hh,s0⟩),List.nil_append] at R0
     exact ⟨[],rfl,by decide,⟨R0⟩⟩
   . have e:x=0:=by omega
     subst e; rfl
   . have etil:til=L9 l.Rule:=by
       rw [hx.2.2]
       unfold L9
       by_cases hl:0<(l.Rule.Until.length:Int)
       . rw [if_pos hl,if_pos (by omega)]
       . rw [if_neg hl,if_neg (by omega)]
     rw [etil]
     generalize L9 l.Rule=til at *
     refine ⟨s0,by omega,w0,w1,fun k=>k=0,⟨fun hh=>absurd hh.2 (by omega),fun _=>rfl⟩,fun k hk=>⟨fun c k n=>∃ y:List Int,(y.length:Int)=n/\n<=c/\1<=c/\c<=l.Rule.Count/\0<=k/\k<=40000/\a4b (a1b l.Rule) g l.start l.Rule l.day fi b til i0 k c y,fun _ k _=>(40001-k).toNat,?_,fun c k n hI=>?_⟩⟩
     . obtain ⟨y,h1,h2,h3⟩:=hn
       subst hk
       exact ⟨y,h1,h2,by decide,by omega,by decide,by decide,h3⟩
     . obtain ⟨y,hy,hnc,c0,c1,k0,k1,ho⟩:=hI
       obtain ⟨q0,q1⟩:=c6y hF.rr k0 k1
       refine ⟨⟨by omega,by omega⟩,⟨by omega,by omega⟩,by omega,by omega,w0,w1,fun he=>?_,fun he=>⟨fun h4=>?_,fun h4=>⟨hfw,hf,by omega,by omega,fun c' j n'=>∃ y:List Int,(y.length:Int)=n'/\n'<=c'/\1<=c'/\c'<=l.Rule.Count/\0<=j/\j<=((A8 l.start l.Rule l.day (i0+k * l.Rule.Interval)).length:Int)/\a3d (a1b l.Rule) g l.start l.Rule l.day fi b til i0 k c' ((A8 l.start l.Rule l.day (i0+k * l.Rule.Interval)).drop j.toNat) y,fun _ j _=>(((A8 l.start l.Rule l.day (i0+k * l.Rule.Interval)).length:Int)-j).toNat,⟨y,hy,hnc,c0,c1,Int.le_refl 0,by omega,by simpa using ho.enter he h4⟩,fun c' j n' hI'=>?_⟩⟩⟩
       . have q:=a4u hfb (ho.fin he) hy
         refine ⟨fun h1=>?_,fun h1=>?_⟩
         . rw [q.1 (h1.resolve_right fun hh=>hh rfl)]; rfl
         . rw [q.2.2 (fun hh=>h1 (.inl hh)) rfl]; rfl
       . have q:=a4u hfb (ho.many he h4) hy
         rw [q.2.1 rfl]
         exact ⟨fun _=>rfl,fun _=>rfl⟩
       . have hcl:=a8q (day:=l.day) (i:=i0+k * l.Rule.Interval) hF (by omega)
         obtain ⟨y,hy,hnc,c0,c1,j0,j1,hi⟩:=hI'
         generalize A8 l.start l.Rule l.day (i0+k * l.Rule.Interval)=L at *
         refine ⟨fun hj=>⟨j0,hj,fun _=>?_⟩,fun hj=>⟨⟨by omega,by omega⟩,⟨y,hy,hnc,c0,c1,by omega,by omega,?_⟩,by show (_:Int).toNat<(_:Int).toNat; omega⟩⟩
         . rw [L3 j0 hj] at hi
           refine ⟨fun hs=>⟨⟨by omega,by omega⟩,⟨y,hy,hnc,c0,c1,by omega,by omega,hi.skip hs⟩,lt _ _ hj⟩,fun hs=>⟨fun hb=>⟨⟨by omega,by omega⟩,⟨y,hy,hnc,c0,c1,by omega,by omega,hi.leave hs hb⟩,by show (_:Int).toNat<(_:Int).toNat; omega⟩,fun hb=>?_⟩⟩
           have hcc:¬ l.Rule.Count<=c':=fun e=>hb (.inr ⟨hc,e⟩)
           refine ⟨⟨by omega,by omega⟩,⟨by omega,by omega⟩,fun hst=>?_,fun hgo=>⟨⟨by omega,by omega⟩,⟨y++[ix L j],len1 y _ _ hy,by omega,by omega,by omega,by omega,by omega,(hi.one hs hb).1 (yes y _ _ hy (Classical.not_not.1 hgo))⟩,lt _ _ hj⟩⟩
           have q:=a4u hfb ((hi.one hs hb).2 (no y _ _ hy hst)) (len1 y _ _ hy)
           refine ⟨fun h1=>?_,fun h1=>absurd (.inl (by omega)) h1⟩
           rw [q.1 (by omega)]; rfl
         . rw [List.drop_eq_nil_of_le (by omega)] at hi
           exact hi.nil
 . have hnu:¬ (0<(l.Rule.Until.length:Int)/\b8 (ix l.Rule.Until 0)<b):=fun hh=>hx.2.2 (by omega) hh.2
   rw [if_neg h,if_neg hnu,if_neg hc] at hfb
   rw [<- hfb]; rfl
def cfa (a:List (SV U)) (nx:Nat):Option (CR U):=match a with | [.fel 85 [l] 0 0,.int .i64 to]=>some ⟨[A5 l.Rule=true,C6 l.start l.Rule=true],[],.err (b4d (S3 l.start l.Rule l.day to)),[]⟩ | _=>none
theorem e2p (args:List (SV U)) (nx:Nat) (c:CR U) (h:cfa args nx=some c) (hp:args.all z8=true) (ho:m8 c.ob):C4 a4h.P a4h.N a4h.T a4h.G 32 args nx c:=by
 unfold cfa at h
 split at h
 . rename_i l to
   cases h
   exact e0l b0e (j8 b0e p9 c3q 4) Tryz.func32 (k:=.err) (x:=b4d (S3 l.start l.Rule l.day to)) hp (d4o (pfa l to ho.1 ho.2.1))
 . cases h
noncomputable def Nfa:Env:=a4h.addC 32 cfa
theorem d5l:l5 Nfa:=b0e.addC Tryz.call32 e2p
end Go.Proofs.YtdjfeninmbpflaaGreat
end
section
namespace Go.Proofs.YtdjfeninmbpflaaGreat
open Go Go.Wk Go.Wl Go.Rx Go.Re 
noncomputable def a4d:Env:=Nfa.addI 35 Tryz.f35
theorem a9j:l5 a4d:=d5l.addI Tryz.call35 Tryz.func35
end Go.Proofs.YtdjfeninmbpflaaGreat
end
section
namespace Go.Re
open Go Go.Wk Go.Wl Go.Rx
theorem b22 {s a:Tm} {y:List Int} {t:Int}:frA s a (y++[t])=if b8 a<=t then frA s a y++[atS t s] else frA s a y:=by
 rw [a1t]
 show frA s a y++(if b8 a<=t then [atS t s] else [])=_
 split
 . rfl
 . exact List.append_nil _
theorem b9o {s a:Tm} {y:List Int} {t:Int} (h:b8 a<=t):frA s a (y++[t])=frA s a y++[atS t s]:=by rw [b22,if_pos h]
theorem c4j {s a:Tm} {y:List Int} {t:Int} (h:¬ b8 a<=t):frA s a (y++[t])=frA s a y:=by rw [b22,if_neg h]
def a3k (s a:Tm):List Int->Int->Bool:=fun y t=>decide (((frA s a (y++[t])).length:Int)<=1000)
def b3z (s:Tm) (r:Rl) (a b:Tm):List Int×Bool:=N8 (a3k s a) [] (I3 s r (m6 s.Day) (b8 a) (b8 b)).1 (I3 s r (m6 s.Day) (b8 a) (b8 b)).2
def b2h (s a:Tm) (g:List Int×Bool):List Tm×Err:=if g.2=true then ([],.no 5) else if 1000<((frA s a g.1).length:Int) then ([],.no 16) else (frA s a g.1,.nil)
open Classical in
noncomputable def C3 (s:Tm) (r:Rl) (a b:Tm):List Tm×Err:=if a5i s r a b then ([],.no 2) else if S3 s r (m6 s.Day) (b8 b)=true then ([],.no 5) else b2h s a (b3z s r a b)
theorem b0v:(Err.w 87 [] (.no 5)).is 5:=by decide
theorem a8y:N5 (.w 87 [] (.no 5))=.no 5:=by unfold N5; rw [if_pos b0v]
theorem b1c {s a:Tm} {g:List Int×Bool} {px:List Tm×Err} {y:List Int} {e:Bool} (h:b2h s a g=px) (hg:g=(y,e)):(e=true->px=([],.no 5))/\(e=false->(1000<((frA s a y).length:Int)->px=([],.no 16))/\(¬ 1000<((frA s a y).length:Int)->px=(frA s a y,.nil))):=by
 subst hg
 unfold b2h at h
 refine ⟨fun he=>by rw [if_pos he] at h; exact h.symm,fun he=>⟨fun hl=>?_,fun hl=>?_⟩⟩
 . subst he; rw [if_neg Bool.false_ne_true,if_pos hl] at h; exact h.symm
 . subst he; rw [if_neg Bool.false_ne_true,if_neg hl] at h; exact h.symm
theorem c4u {d n:Int}:-(d.natAbs:Int)<=d.tdiv n/\d.tdiv n<=d.natAbs:=by
 have h2:(d.tdiv n).natAbs<=d.natAbs:=by rw [Int.natAbs_tdiv]; exact Nat.div_le_self _ _
 omega
theorem d2x {s:Tm} {r:Rl} {fr:Int} (hn:1<=r.Interval) (hd:∀ x,0<=x->x<315537897600->0<=l4 r x/\l4 r x<=315537897600) (hf:0<=fr) (hs:0<=b8 s/\b8 s<315537897600):0<=k0S s r fr/\0<=k0S s r fr * r.Interval/\k0S s r fr * r.Interval<=315537897600:=by
 unfold k0S
 split
 . obtain ⟨a0,a1⟩:=hd (b8 s) hs.1 hs.2
   obtain ⟨b0,b1⟩:=hd (min fr 315537897599) (by omega) (by omega)
   generalize l4 r (min fr 315537897599)=x at *
   generalize l4 r (b8 s)=z at *
   by_cases hz:(x-z).tdiv r.Interval-1<=0
   . rw [Int.max_eq_left hz]; simp
   . rw [Int.max_eq_right (by omega)]
     have hpos:0<=x-z:=by
      rcases Int.lt_or_le (x-z) 0 with h | h
      . exfalso
        have h2:(x-z).tdiv r.Interval<=0:=by
         have e:(x-z).tdiv r.Interval=-((z-x).tdiv r.Interval):=by rw [<- Int.neg_tdiv]; congr 1; omega
         have:0<=(z-x).tdiv r.Interval:=Int.tdiv_nonneg (by omega) (by omega)
         omega
        omega
      . exact h
     rw [Int.tdiv_eq_ediv_of_nonneg hpos] at *
     have h3:=Int.ediv_mul_le (x-z) (show r.Interval≠0 by omega)
     have h4:((x-z) / r.Interval-1) * r.Interval=(x-z) / r.Interval * r.Interval-r.Interval:=by rw [Int.sub_mul,Int.one_mul]
     have h5:0<=((x-z) / r.Interval-1) * r.Interval:=Int.mul_nonneg (by omega) (by omega)
     omega
 . simp
end Go.Re
end
section
namespace Go.Proofs.YtdjfeninmbpflaaGreat
open Go Go.Wk Go.Wl Go.Rx Go.Re 
attribute [local irreducible] i7
def c7l:Nat->Ann:=fun | 13=>⟨61,fun _=>none,fun _=>none⟩ | 34=>⟨171,fun | 16=>some ⟨[0,2,3,9,11,14],[.slot 10 (.int .i64),.slot 15 (.int .i64),.own 2000003 [.acc 25]]⟩ | 23=>some ⟨[0,2,3,9,11,14,15,130,131],[.slot 10 (.int .i64),.slot 132 (.int .i64),.own 2000003 [.acc 25]]⟩ | 7=>some ⟨[0,1,2,3,9,10,42,43],[.slot 11 (.int .i64),.slot 44 (.int .i64)]⟩ | _=>none,fun | 5=>some ⟨[0,1,2,3,9,10],[.own 2000003 [.acc 25]]⟩ | 16=>some ⟨[0,2,3,9,10,11,14],[.slot 15 (.int .i64)]⟩ | _=>none⟩ | 35=>⟨18,fun _=>none,fun _=>none⟩ | _=>⟨0,fun _=>none,fun _=>none⟩
def P6 (s:Tm) (r:Rl) (x_4:Int):=A8 (etT s) (etR r) (m6 (etD s.Day)) (l4 (etR r) (b8 (etT (etT s)))+x_4 * r.Interval)
def c1h (r:Rl) (a:Tm) (s:Tm):=l4 (etR r) (bif false then max (b8 (etT a)) (315537897599:Int) else min (b8 (etT a)) (315537897599:Int))-l4 (etR r) (b8 (etT (etT s)))
def Vex (s:Tm) (r:Rl) (a:Tm) (b:Tm) (Q:List Tm->Err->Prop):Prop :=
A5 (etR r)=true/\((¬C6 (etT s) (etR r)=true ∨ ¬p4 (etT a)=true) ∨ ¬p4 (etT b)=true->Q [] (Err.no (2:Int)))/\(¬((¬C6 (etT s) (etR r)=true ∨ ¬p4 (etT a)=true) ∨ ¬p4 (etT b)=true)->A5 (etR r)=true/\C6 (etT s) (etR r)=true/\(b4d (S3 (etT s) (etR r) (m6 (etD s.Day)) (b8 (etT b)))≠Err.nil->((b4d (S3 (etT s) (etR r) (m6 (etD s.Day)) (b8 (etT b)))).is (5:Int) ∨ b4d (S3 (etT s) (etR r) (m6 (etD s.Day)) (b8 (etT b)))=Err.nil)/\Q [] (N5 (b4d (S3 (etT s) (etR r) (m6 (etD s.Day)) (b8 (etT b))))))/\(¬b4d (S3 (etT s) (etR r) (m6 (etD s.Day)) (b8 (etT b)))≠Err.nil->∃ (J:List Tm->Prop),((b8 (etT (etT s))<b8 (etT b)/\(0:Int)<=b8 (etT (etT s))->(b8 (etT a)<=b8 (etT (etT s))->b8 (etT (etT s))<=9000000000000000000/\[etT (atS (b8 (etT (etT s))) (etT s))].length * (some (56:Nat)).getD (0:Nat)<=140737488355328/\(¬(↑[etT (atS (b8 (etT (etT s))) (etT s))].length:Int)<=1000->(Err.nil≠Err.nil->(Err.nil.is (5:Int) ∨ Err.nil=Err.nil)/\Q [] (N5 Err.nil))/\(¬Err.nil≠Err.nil->((1000:Int)<(↑[etT (atS (b8 (etT (etT s))) (etT s))].length:Int)->Q [] (Err.no (16:Int)))/\(¬(1000:Int)<(↑[etT (atS (b8 (etT (etT s))) (etT s))].length:Int)->Q [etT (atS (b8 (etT (etT s))) (etT s))] Err.nil)))/\(¬¬(↑[etT (atS (b8 (etT (etT s))) (etT s))].length:Int)<=1000->J [etT (atS (b8 (etT (etT s))) (etT s))]))/\(¬b8 (etT a)<=b8 (etT (etT s))->(¬(0:Int)<=1000->(Err.nil≠Err.nil->(Err.nil.is (5:Int) ∨ Err.nil=Err.nil)/\Q [] (N5 Err.nil))/\(¬Err.nil≠Err.nil->((1000:Int)<0->Q [] (Err.no (16:Int)))/\(¬(1000:Int)<0->Q [] Err.nil)))/\(¬¬(0:Int)<=1000->J [])))/\(¬(b8 (etT (etT s))<b8 (etT b)/\(0:Int)<=b8 (etT (etT s)))->J []))/\∀ (x:List Tm),J x->∃ (I:Int->Int->Prop),∃ (m:Int->Int->Nat),I (315537897600:Int) (0:Int)/\∀ (x_1 x_2:Int),I x_1 x_2->(x_2<(↑r.Until.length:Int)->(0:Int)<=x_2/\x_2<(↑r.Until.length:Int)/\(b9 (ix r.Until x_2).Day.Year->b9 (ix r.Until x_2).Day.Month->b9 (ix r.Until x_2).Day.Date->b9 (ix r.Until x_2).Hour->b9 (ix r.Until x_2).Min->b9 (ix r.Until x_2).Sec->b9 (x_2+1)/\I (b8 (etT (ix r.Until x_2))) (x_2+1)/\m (b8 (etT (ix r.Until x_2))) (x_2+1)<m x_1 x_2))/\(¬x_2<(↑r.Until.length:Int)->(0:Int)<=b8 (etT (etT s))/\b8 (etT (etT s))<=400000000000/\(0:Int)<=r.Wkst/\r.Wkst<=6/\∃ (J:Int->Prop),((r.Count=0/\b8 (etT (etT s))<b8 (etT a)->(((0:Int)<=bif false then max (b8 (etT a)) (315537897599:Int) else min (b8 (etT a)) (315537897599:Int))/\(bif false then max (b8 (etT a)) (315537897599:Int) else min (b8 (etT a)) (315537897599:Int))<=400000000000/\(0:Int)<=r.Wkst/\r.Wkst<=6)/\b9 (c1h r a s)/\(r.Interval≠0/\b9 ((c1h r a s).tdiv r.Interval))/\b9 ((c1h r a s).tdiv r.Interval-1)/\J (bif true then max (0:Int) ((c1h r a s).tdiv r.Interval-1) else min (0:Int) ((c1h r a s).tdiv r.Interval-1)))/\(¬(r.Count=0/\b8 (etT (etT s))<b8 (etT a))->J (0:Int)))/\∀ (x_3:Int),J x_3->∃ (I:Int->Int->List Tm->Prop),∃ (m:Int->Int->List Tm->Nat),I (1:Int) x_3 x/\∀ (x x_4:Int) (x_5:List Tm),I x x_4 x_5->b9 (x_4 * r.Interval)/\b9 (l4 (etR r) (b8 (etT (etT s)))+x_4 * r.Interval)/\(0:Int)<=l4 (etR r) (b8 (etT (etT s)))+x_4 * r.Interval/\l4 (etR r) (b8 (etT (etT s)))+x_4 * r.Interval<=1000000000000/\(0:Int)<=r.Wkst/\r.Wkst<=6/\(((b8 (etT b)<=q8 (etR r) (l4 (etR r) (b8 (etT (etT s)))+x_4 * r.Interval) ∨ x_1<q8 (etR r) (l4 (etR r) (b8 (etT (etT s)))+x_4 * r.Interval)) ∨ (0:Int)<r.Count/\r.Count<=x) ∨ (315537897600:Int)<=q8 (etR r) (l4 (etR r) (b8 (etT (etT s)))+x_4 * r.Interval)->(Err.nil≠Err.nil->(Err.nil.is (5:Int) ∨ Err.nil=Err.nil)/\Q [] (N5 Err.nil))/\(¬Err.nil≠Err.nil->((1000:Int)<(↑x_5.length:Int)->Q [] (Err.no (16:Int)))/\(¬(1000:Int)<(↑x_5.length:Int)->Q x_5 Err.nil)))/\(¬(((b8 (etT b)<=q8 (etR r) (l4 (etR r) (b8 (etT (etT s)))+x_4 * r.Interval) ∨ x_1<q8 (etR r) (l4 (etR r) (b8 (etT (etT s)))+x_4 * r.Interval)) ∨ (0:Int)<r.Count/\r.Count<=x) ∨ (315537897600:Int)<=q8 (etR r) (l4 (etR r) (b8 (etT (etT s)))+x_4 * r.Interval))->((40000:Int)<=x_4->(Err.w (87:Nat) [] (Err.no (5:Int))≠Err.nil->((Err.w (87:Nat) [] (Err.no (5:Int))).is (5:Int) ∨ Err.w (87:Nat) [] (Err.no (5:Int))=Err.nil)/\Q [] (N5 (Err.w (87:Nat) [] (Err.no (5:Int)))))/\(¬Err.w (87:Nat) [] (Err.no (5:Int))≠Err.nil->((1000:Int)<(↑x_5.length:Int)->Q [] (Err.no (16:Int)))/\(¬(1000:Int)<(↑x_5.length:Int)->Q x_5 Err.nil)))/\(¬(40000:Int)<=x_4->A5 (etR r)=true/\C6 (etT s) (etR r)=true/\(0:Int)<=l4 (etR r) (b8 (etT (etT s)))+x_4 * r.Interval/\l4 (etR r) (b8 (etT (etT s)))+x_4 * r.Interval<=999999999999/\∃ (I_1:Int->Int->List Tm->Prop),∃ (m_1:Int->Int->List Tm->Nat),I_1 x (0:Int) x_5/\∀ (x_6 x_7:Int) (x_8:List Tm),I_1 x_6 x_7 x_8->(x_7<(↑(P6 s r x_4).length:Int)->(0:Int)<=x_7/\x_7<(↑(P6 s r x_4).length:Int)/\(b9 (ix (P6 s r x_4) x_7)->(ix (P6 s r x_4) x_7<=b8 (etT (etT s))->b9 (x_7+1)/\I_1 x_6 (x_7+1) x_8/\m_1 x_6 (x_7+1) x_8<m_1 x_6 x_7 x_8)/\(¬ix (P6 s r x_4) x_7<=b8 (etT (etT s))->((b8 (etT b)<=ix (P6 s r x_4) x_7 ∨ x_1<ix (P6 s r x_4) x_7) ∨ (0:Int)<r.Count/\r.Count<=x_6->b9 (x_4+1)/\I x_6 (x_4+1) x_8/\m x_6 (x_4+1) x_8<m x x_4 x_5)/\(¬((b8 (etT b)<=ix (P6 s r x_4) x_7 ∨ x_1<ix (P6 s r x_4) x_7) ∨ (0:Int)<r.Count/\r.Count<=x_6)->b9 (x_6+1)/\(b8 (etT a)<=ix (P6 s r x_4) x_7->ix (P6 s r x_4) x_7<=9000000000000000000/\(x_8.length+[etT (atS (ix (P6 s r x_4) x_7) (etT s))].length) * (some (56:Nat)).getD (0:Nat)<=140737488355328/\(¬(↑(x_8++[etT (atS (ix (P6 s r x_4) x_7) (etT s))]).length:Int)<=1000->(Err.nil≠Err.nil->(Err.nil.is (5:Int) ∨ Err.nil=Err.nil)/\Q [] (N5 Err.nil))/\(¬Err.nil≠Err.nil->((1000:Int)<(↑(x_8++[etT (atS (ix (P6 s r x_4) x_7) (etT s))]).length:Int)->Q [] (Err.no (16:Int)))/\(¬(1000:Int)<(↑(x_8++[etT (atS (ix (P6 s r x_4) x_7) (etT s))]).length:Int)->Q (x_8++[etT (atS (ix (P6 s r x_4) x_7) (etT s))]) Err.nil)))/\(¬¬(↑(x_8++[etT (atS (ix (P6 s r x_4) x_7) (etT s))]).length:Int)<=1000->b9 (x_7+1)/\I_1 (x_6+1) (x_7+1) (x_8++[etT (atS (ix (P6 s r x_4) x_7) (etT s))])/\m_1 (x_6+1) (x_7+1) (x_8++[etT (atS (ix (P6 s r x_4) x_7) (etT s))])<m_1 x_6 x_7 x_8))/\(¬b8 (etT a)<=ix (P6 s r x_4) x_7->(¬(↑x_8.length:Int)<=1000->(Err.nil≠Err.nil->(Err.nil.is (5:Int) ∨ Err.nil=Err.nil)/\Q [] (N5 Err.nil))/\(¬Err.nil≠Err.nil->((1000:Int)<(↑x_8.length:Int)->Q [] (Err.no (16:Int)))/\(¬(1000:Int)<(↑x_8.length:Int)->Q x_8 Err.nil)))/\(¬¬(↑x_8.length:Int)<=1000->b9 (x_7+1)/\I_1 (x_6+1) (x_7+1) x_8/\m_1 (x_6+1) (x_7+1) x_8<m_1 x_6 x_7 x_8))))))/\(¬x_7<(↑(P6 s r x_4).length:Int)->b9 (x_4+1)/\I x_6 (x_4+1) x_8/\m x_6 (x_4+1) x_8<m x x_4 x_5))))))
theorem e1h {s:Tm} {r:Rl} {a:Tm} {b:Tm} {Q:List Tm->Err->Prop}:@Eq Prop (Vex s r a b Q) (i7 (E:=a4d) (j7 a4d H0 c7l 4) (c7l 13) Tryz.f13 [.agg [.int .i64 s.Day.Year,.int .i64 s.Day.Month,.int .i64 s.Day.Date,.int .i64 s.Hour,.int .i64 s.Min,.int .i64 s.Sec,blB s.Bare,blB s.UTC],.agg [.int .i64 r.Freq,.int .i64 r.Interval,.int .i64 r.Count,.sl (N:=U) 25 r.Until,.sl (N:=U) 3 r.Month,.sl (N:=U) 3 r.WeekNo,.sl (N:=U) 3 r.YearDay,.sl (N:=U) 3 r.MonthDay,.sl (N:=U) 60 r.Days,.sl (N:=U) 3 r.Hour,.sl (N:=U) 3 r.Minute,.sl (N:=U) 3 r.Second,.sl (N:=U) 3 r.SetPos,.int .i64 r.Wkst],.agg [.int .i64 a.Day.Year,.int .i64 a.Day.Month,.int .i64 a.Day.Date,.int .i64 a.Hour,.int .i64 a.Min,.int .i64 a.Sec,blB a.Bare,blB a.UTC],.agg [.int .i64 b.Day.Year,.int .i64 b.Day.Month,.int .i64 b.Day.Date,.int .i64 b.Hour,.int .i64 b.Min,.int .i64 b.Sec,blB b.Bare,blB b.UTC]] [] [] 0 (n5 a4d [.acc 25,.err] Q)):=by kernel_rfl
theorem e4q {s:Tm} {r:Rl} {a:Tm} {b:Tm} {Q:List Tm->Err->Prop} (h:Vex s r a b Q):i7 (E:=a4d) (j7 a4d H0 c7l 4) (c7l 13) Tryz.f13 [.agg [.int .i64 s.Day.Year,.int .i64 s.Day.Month,.int .i64 s.Day.Date,.int .i64 s.Hour,.int .i64 s.Min,.int .i64 s.Sec,blB s.Bare,blB s.UTC],.agg [.int .i64 r.Freq,.int .i64 r.Interval,.int .i64 r.Count,.sl (N:=U) 25 r.Until,.sl (N:=U) 3 r.Month,.sl (N:=U) 3 r.WeekNo,.sl (N:=U) 3 r.YearDay,.sl (N:=U) 3 r.MonthDay,.sl (N:=U) 60 r.Days,.sl (N:=U) 3 r.Hour,.sl (N:=U) 3 r.Minute,.sl (N:=U) 3 r.Second,.sl (N:=U) 3 r.SetPos,.int .i64 r.Wkst],.agg [.int .i64 a.Day.Year,.int .i64 a.Day.Month,.int .i64 a.Day.Date,.int .i64 a.Hour,.int .i64 a.Min,.int .i64 a.Sec,blB a.Bare,blB a.UTC],.agg [.int .i64 b.Day.Year,.int .i64 b.Day.Month,.int .i64 b.Day.Date,.int .i64 b.Hour,.int .i64 b.Min,.int .i64 b.Sec,blB b.Bare,blB b.UTC]] [] [] 0 (n5 a4d [.acc 25,.err] Q):=by rw [<- e1h]; exact h
set_option maxHeartbeats 2000000 in
theorem pex (s:Tm) (r:Rl) (a:Tm) (b:Tm) (hfw:A5 r=true):Vex s r a b (fun y0 y1=>y0=(C3 s r a b).1/\y1=(C3 s r a b).2):=by
 unfold Vex c1h P6
 simp only [Y9,a32,a5g]
 refine ⟨hfw,fun h=>?_,fun h=>?_⟩
 . unfold C3
   rw [if_pos (show a5i s r a b from h)]; exact ⟨rfl,rfl⟩
 have hnb:¬ a5i s r a b:=h
 have hf:C6 s r=true:=Classical.not_not.1 fun e=>h (.inl (.inl e))
 have ha:p4 a=true:=Classical.not_not.1 fun e=>h (.inl (.inr e))
 have hb:p4 b=true:=Classical.not_not.1 fun e=>h (.inr e)
 have hF:=G6.1 hf
 obtain ⟨px,hpx⟩:∃ p,C3 s r a b=p:=⟨_,rfl⟩
 rw [hpx]
 unfold C3 at hpx
 rw [if_neg hnb] at hpx
 obtain ⟨fb,hfb⟩:∃ fb,S3 s r (m6 s.Day) (b8 b)=fb:=⟨_,rfl⟩
 rw [hfb] at hpx ⊢
 refine ⟨hfw,hf,fun he=>?_,fun he=>?_⟩
 . cases fb with
   | false=>exact absurd rfl he
   | true =>
    rw [if_pos rfl] at hpx
    rw [<- hpx]
    exact ⟨.inl b0v,rfl,a8y⟩
 cases fb with
 | true=>exact absurd (fun e=>by cases e) he
 | false =>
 rw [if_neg Bool.false_ne_true] at hpx
 obtain ⟨s0,s1⟩:=w9 hF.rt
 obtain ⟨g0,g1⟩:=w9 ha
 obtain ⟨d0,d1⟩:=w9 hb
 obtain ⟨_,_,v0,v1,n0,n1,w0,w1⟩:=(n7.1 hF.rr).head
 obtain ⟨u1,u2⟩:=(n7.1 hF.rr).til
 have hix:∀ x,0<=x->x<315537897600->0<=l4 r x/\l4 r x<=315537897600:=fun x x0 x1=>a09 x0 x1 w0 w1
 obtain ⟨z0,z1,z2⟩:=d2x (s:=s) v0 hix g0 ⟨s0,s1⟩
 obtain ⟨a0,a1⟩:=hix _ s0 s1
 obtain ⟨b0,b1⟩:=hix (min (b8 a) 315537897599) (by omega) (by omega)
 have lt:∀ n i:Int,i<n->(n-(i+1)).toNat<(n-i).toNat:=fun n i h=>by omega
 generalize hg:b3z s r a b=g at hpx
 unfold b3z at hg
 have R0:a3i (a3k s a) g [] (I3 s r (m6 s.Day) (b8 a) (b8 b)).1 (I3 s r (m6 s.Day) (b8 a) (b8 b)).2:=⟨hg⟩
 clear hg
 unfold I3 at R0
 have e1:∀ x y:Int,(bif false then max x y else min x y)=min x y:=fun _ _=>rfl
 have e2:∀ x y:Int,(bif true then max x y else min x y)=max x y:=fun _ _=>rfl
 simp only [e1,e2]
 have hk0:∀ p:Prop,(r.Count=0/\b8 s<b8 a->k0S s r (b8 a)=max 0 ((l4 r (min (b8 a) 315537897599)-l4 r (b8 s)).tdiv r.Interval-1))/\(¬ (r.Count=0/\b8 s<b8 a)->k0S s r (b8 a)=0):=fun _=>⟨fun hh=>if_pos hh,fun hh=>if_neg hh⟩
 have hk0:=hk0 True
 generalize k0S s r (b8 a)=kz at *
 obtain ⟨t0,t1⟩:=c4u (d:=l4 r (min (b8 a) 315537897599)-l4 r (b8 s)) (n:=r.Interval)
 generalize (l4 r (min (b8 a) 315537897599)-l4 r (b8 s)).tdiv r.Interval=td at *
 generalize l4 r (min (b8 a) 315537897599)=ia at *
 generalize hfi:b8 s=fi at *
 generalize l4 r fi=i0 at *
 generalize b8 b=to at *
 have yes:∀ (y:List Int) (t:Int),((frA s a (y++[t])).length:Int)<=1000->a3k s a y t=true:=fun y t hh=>decide_eq_true hh
 have no:∀ (y:List Int) (t:Int),¬ ((frA s a (y++[t])).length:Int)<=1000->¬ a3k s a y t=true:=fun y t hh e=>hh (of_decide_eq_true e)
 refine ⟨fun out=>∃ y,out=frA s a y/\(out.length:Int)<=1/\a4b (a3k s a) g s r (m6 s.Day) fi to (L9 r) i0 kz 1 y,⟨fun hfst=>⟨fun hs=>⟨by omega,by show 1 * 56<=140737488355328; decide,fun hst=>absurd (show ((1:Nat):Int)<=1000 by decide) hst,fun _=>?_⟩,fun hs=>⟨fun hst=>absurd (by decide) hst,fun _=>?_⟩⟩,fun hnf=>?_⟩,fun out hn=>⟨fun til x=>0<=x/\x<=(r.Until.length:Int)/\til=if 0<x then b8 (ix r.Until 0) else 315537897600,fun _ x=>((r.Until.length:Int)-x).toNat,⟨Int.le_refl 0,by omega,rfl⟩,fun til x hx=>⟨fun hlt=>⟨hx.1,hlt,fun _ _ _ _ _ _=>⟨⟨by omega,by omega⟩,⟨by omega,by omega,?_⟩,lt _ _ hlt⟩⟩,fun hge=>?_⟩⟩⟩
 . rw [if_pos hfst.1,List.cons_append,List.nil_append] at R0
   have e:=b9o (s:=s) (y:=[]) hs
   exact ⟨[fi],e.symm,(show ((1:Nat):Int)<=1 by decide),⟨R0.go (yes [] fi (by rw [e]; show ((1:Nat):Int)<=1000; decide))⟩⟩
 . rw [if_pos hfst.1,List.cons_append,List.nil_append] at R0
   have e:=c4j (s:=s) (y:=[]) hs
   exact ⟨[fi],e.symm,(show ((0:Nat):Int)<=1 by decide),⟨R0.go (yes [] fi (by rw [e]; show ((0:Nat):Int)<=1000; decide))⟩⟩
 . rw [if_neg (fun hh=>hnf ⟨hh,s0⟩),List.nil_append] at R0
   exact ⟨[],rfl,by decide,⟨R0⟩⟩
 . have e:x=0:=by omega
   subst e; rfl
 . have etil:til=L9 r:=by
     rw [hx.2.2]
     unfold L9
     by_cases hl:0<(r.Until.length:Int)
     . rw [if_pos hl,if_pos (by omega)]
     . rw [if_neg hl,if_neg (by omega)]
   rw [etil]
   generalize L9 r=til at *
   refine ⟨s0,by omega,w0,w1,fun k=>k=kz,⟨fun hh=>⟨⟨by omega,by omega,w0,w1⟩,⟨by omega,by omega⟩,⟨by omega,by omega,by omega⟩,⟨by omega,by omega⟩,(hk0.1 hh).symm⟩,fun hh=>(hk0.2 hh).symm⟩,fun k hk=>⟨fun c k out=>∃ y,out=frA s a y/\(out.length:Int)<=1000/\1<=c/\c<=1+k * 1000000000000/\0<=k/\0<=k * r.Interval/\k * r.Interval<=400000000000/\a4b (a3k s a) g s r (m6 s.Day) fi to til i0 k c y,fun _ k _=>(40001-k).toNat,?_,fun c k out hI=>?_⟩⟩
   . obtain ⟨y,h1,h2,h3⟩:=hn
     subst hk
     exact ⟨y,h1,by omega,by decide,by omega,z0,z1,by omega,h3⟩
   . obtain ⟨y,hy,ol,c0,c1,k0,k1,k2,ho⟩:=hI
     refine ⟨⟨by omega,by omega⟩,⟨by omega,by omega⟩,by omega,by omega,w0,w1,fun he=>?_,fun he=>⟨fun h4=>?_,fun h4=>⟨hfw,hf,by omega,by omega,fun c' j out'=>∃ y,out'=frA s a y/\(out'.length:Int)<=1000/\1<=c'/\c'<=1+k * 1000000000000+j/\0<=j/\j<=((A8 s r (m6 s.Day) (i0+k * r.Interval)).length:Int)/\a3d (a3k s a) g s r (m6 s.Day) fi to til i0 k c' ((A8 s r (m6 s.Day) (i0+k * r.Interval)).drop j.toNat) y,fun _ j _=>(((A8 s r (m6 s.Day) (i0+k * r.Interval)).length:Int)-j).toNat,⟨y,hy,ol,c0,by omega,Int.le_refl 0,by omega,by simpa using ho.enter he h4⟩,fun c' j out' hI'=>?_⟩⟩⟩
     . have q:=(b1c hpx (ho.fin he)).2 rfl
       refine ⟨fun hh=>absurd rfl hh,fun _=>⟨fun hl=>absurd hl (by omega),fun hl=>?_⟩⟩
       rw [q.2 (by rw [<- hy]; omega),hy]; exact ⟨rfl,rfl⟩
     . have q:=(b1c hpx (ho.many he h4)).1 rfl
       rw [q]
       exact ⟨fun _=>⟨.inl b0v,rfl,a8y⟩,fun hh=>absurd (fun e=>by cases e) hh⟩
     . have hcl:=a8q (day:=m6 s.Day) (i:=i0+k * r.Interval) hF (by omega)
       obtain ⟨q0,q1⟩:=c6y hF.rr (k:=k+1) (by omega) (by omega)
       obtain ⟨y,hy,ol,c0,c1,j0,j1,hi⟩:=hI'
       generalize A8 s r (m6 s.Day) (i0+k * r.Interval)=L at *
       refine ⟨fun hj=>⟨j0,hj,fun _=>?_⟩,fun hj=>⟨⟨by omega,by omega⟩,⟨y,hy,ol,c0,by omega,by omega,q0,by omega,?_⟩,by show (_:Int).toNat<(_:Int).toNat; omega⟩⟩
       . rw [L3 j0 hj] at hi
         refine ⟨fun hs=>⟨⟨by omega,by omega⟩,⟨y,hy,ol,c0,by omega,by omega,by omega,hi.skip hs⟩,lt _ _ hj⟩,fun hs=>⟨fun hb=>⟨⟨by omega,by omega⟩,⟨y,hy,ol,c0,by omega,by omega,q0,by omega,hi.leave hs hb⟩,by show (_:Int).toNat<(_:Int).toNat; omega⟩,fun hb=>?_⟩⟩
         have hbt:ix L j<to:=by
          rcases Int.lt_or_le (ix L j) to with hh | hh
          . exact hh
          . exact absurd (.inl (.inl hh)) hb
         refine ⟨⟨by omega,by omega⟩,fun hsa=>?_,fun hsa=>?_⟩
         . have e:=b9o (s:=s) (y:=y) hsa
           rw [<- hy] at e
           refine ⟨by omega,?_,fun hst=>?_,fun hgo=>⟨⟨by omega,by omega⟩,⟨y++[ix L j],e.symm,by omega,by omega,by omega,by omega,by omega,(hi.one hs hb).1 (yes y _ (by rw [e]; omega))⟩,lt _ _ hj⟩⟩
           . show (out'.length+1) * 56<=140737488355328
             omega
           . have q:=(b1c hpx ((hi.one hs hb).2 (no y _ (by rw [e]; exact hst)))).2 rfl
             rw [e] at q
             refine ⟨fun hh=>absurd rfl hh,fun _=>⟨fun hl=>?_,fun hl=>?_⟩⟩
             . rw [q.1 hl]; exact ⟨rfl,rfl⟩
             . rw [q.2 hl]; exact ⟨rfl,rfl⟩
         . have e:=c4j (s:=s) (y:=y) hsa
           rw [<- hy] at e
           exact ⟨fun hst=>absurd ol hst,fun hgo=>⟨⟨by omega,by omega⟩,⟨y++[ix L j],e.symm,ol,by omega,by omega,by omega,by omega,(hi.one hs hb).1 (yes y _ (by rw [e]; exact ol))⟩,lt _ _ hj⟩⟩
       . rw [List.drop_eq_nil_of_le (by omega)] at hi
         exact hi.nil
noncomputable def e8g (s:Tm) (r:Rl) (a:Tm) (b:Tm) (nx:Nat):CR U:=⟨[A5 r=true],[],.tup [.acc nx,.err ((C3 s r a b).2)],[.ac 25 ((C3 s r a b).1)]⟩
noncomputable def cex (a:List (SV U)) (nx:Nat):Option (CR U):=match a with | [.agg l_s,.agg l_r,.agg l_a,.agg l_b]=>(y25.bk (.agg l_s)).bind fun s=>(y30.bk (.agg l_r)).bind fun r=>(y25.bk (.agg l_a)).bind fun a=>(y25.bk (.agg l_b)).bind fun b=>some (e8g s r a b nx) | _=>none
theorem d8l (args:List (SV U)) (nx:Nat) (c:CR U) (h:cex args nx=some c) (hp:args.all z8=true) (ho:m8 c.ob):C4 a4d.P a4d.N a4d.T a4d.G 13 args nx c:=by
 unfold cex at h
 split at h
 . rename_i l_s l_r l_a l_b
   obtain ⟨s,hb_s,h⟩:=Option.bind_eq_some_iff.1 h
   obtain ⟨r,hb_r,h⟩:=Option.bind_eq_some_iff.1 h
   obtain ⟨a,hb_a,h⟩:=Option.bind_eq_some_iff.1 h
   obtain ⟨b,hb_b,h⟩:=Option.bind_eq_some_iff.1 h
   cases h
   exact C4.weak (b:=[.agg [.int .i64 s.Day.Year,.int .i64 s.Day.Month,.int .i64 s.Day.Date,.int .i64 s.Hour,.int .i64 s.Min,.int .i64 s.Sec,blB s.Bare,blB s.UTC],.agg [.int .i64 r.Freq,.int .i64 r.Interval,.int .i64 r.Count,.sl (N:=U) 25 r.Until,.sl (N:=U) 3 r.Month,.sl (N:=U) 3 r.WeekNo,.sl (N:=U) 3 r.YearDay,.sl (N:=U) 3 r.MonthDay,.sl (N:=U) 60 r.Days,.sl (N:=U) 3 r.Hour,.sl (N:=U) 3 r.Minute,.sl (N:=U) 3 r.Second,.sl (N:=U) 3 r.SetPos,.int .i64 r.Wkst],.agg [.int .i64 a.Day.Year,.int .i64 a.Day.Month,.int .i64 a.Day.Date,.int .i64 a.Hour,.int .i64 a.Min,.int .i64 a.Sec,blB a.Bare,blB a.UTC],.agg [.int .i64 b.Day.Year,.int .i64 b.Day.Month,.int .i64 b.Day.Date,.int .i64 b.Hour,.int .i64 b.Min,.int .i64 b.Sec,blB b.Bare,blB b.UTC]]) (e4k a9j (j8 a9j p9 c7l 4) Tryz.func13 (k1:=.acc 25) (k2:=.err) rfl rfl (e4q (pex s r a b ho.1))) fun ρ Z w v hr=>u7 [.agg l_s,.agg l_r,.agg l_a,.agg l_b] [.agg [.int .i64 s.Day.Year,.int .i64 s.Day.Month,.int .i64 s.Day.Date,.int .i64 s.Hour,.int .i64 s.Min,.int .i64 s.Sec,blB s.Bare,blB s.UTC],.agg [.int .i64 r.Freq,.int .i64 r.Interval,.int .i64 r.Count,.sl (N:=U) 25 r.Until,.sl (N:=U) 3 r.Month,.sl (N:=U) 3 r.WeekNo,.sl (N:=U) 3 r.YearDay,.sl (N:=U) 3 r.MonthDay,.sl (N:=U) 60 r.Days,.sl (N:=U) 3 r.Hour,.sl (N:=U) 3 r.Minute,.sl (N:=U) 3 r.Second,.sl (N:=U) 3 r.SetPos,.int .i64 r.Wkst],.agg [.int .i64 a.Day.Year,.int .i64 a.Day.Month,.int .i64 a.Day.Date,.int .i64 a.Hour,.int .i64 a.Min,.int .i64 a.Sec,blB a.Bare,blB a.UTC],.agg [.int .i64 b.Day.Year,.int .i64 b.Day.Month,.int .i64 b.Day.Date,.int .i64 b.Hour,.int .i64 b.Min,.int .i64 b.Sec,blB b.Bare,blB b.UTC]] _ ⟨fun _ h=>s7 hb_s h,fun _ h=>w6 hb_r h,fun _ h=>s7 hb_a h,fun _ h=>s7 hb_b h,trivial⟩ hr
 . cases h
noncomputable def Nex:Env:=a4d.addC 13 cex
theorem b5g:l5 Nex:=a9j.addC Tryz.call13 d8l
end Go.Proofs.YtdjfeninmbpflaaGreat
end
section
namespace Go.Proofs.YtdjfeninmbpflaaGreat
open Go Go.Wk Go.Wl Go.Rx Go.Re 
attribute [local irreducible] i7
def c55:Nat->Ann:=fun | 16=>⟨15,fun | 4=>some ⟨[0],[.slot 3 (.int .i64)]⟩ | _=>none,fun _=>none⟩ | _=>⟨0,fun _=>none,fun _=>none⟩
def Vno (e:Err) (Q:Int->Prop):Prop :=
(e=Err.nil->Q (0:Int))/\(¬e=Err.nil->∃ (I:Int->Prop),∃ (m:Int->Nat),I (1:Int)/\∀ (x:Int),I x->(x<=16->(e.is x->Q x)/\(¬e.is x->b9 (x+1)/\I (x+1)/\m (x+1)<m x))/\(¬x<=16->Q (-1:Int)))
theorem d9f {e:Err} {Q:Int->Prop}:@Eq Prop (Vno e Q) (i7 (E:=Nex) (j7 Nex H0 c55 2) (c55 16) Tryz.f16 [.err e] [] [] 0 (n5 Nex [.int .i64] Q)):=by kernel_rfl
theorem e0v {e:Err} {Q:Int->Prop} (h:Vno e Q):i7 (E:=Nex) (j7 Nex H0 c55 2) (c55 16) Tryz.f16 [.err e] [] [] 0 (n5 Nex [.int .i64] Q):=by rw [<- d9f]; exact h
theorem b2p {e:Err} {n:Int} (h:¬ e=.nil) (hn:e.num=some n):e.nr=if 1<=n/\n<=16 then n else -1:=by
 cases e with
 | nil=>exact absurd rfl h
 | _=>unfold Err.nr; simp only [hn]
theorem c6b {e:Err} (h:¬ e=.nil) (hn:e.num=none):e.nr=-1:=by
 cases e with
 | nil=>exact absurd rfl h
 | _=>unfold Err.nr; simp only [hn]
theorem pno (e:Err)  : Vno e (fun y0=>y0=e.nr):=by
 unfold Vno
 refine ⟨fun h=>by subst h; rfl,fun h=>⟨fun x=>1<=x/\x<=17/\∀ j:Int,1<=j->j<x->¬ e.is j,fun x=>(17-x).toNat,⟨by omega,by omega,fun j _ _=>by omega⟩,?_⟩⟩
 rintro x ⟨h0,h1,h2⟩
 refine ⟨fun hx=>⟨fun hi=>?_,fun hi=>⟨⟨by omega,by omega⟩,⟨by omega,by omega,fun j j0 j1=>?_⟩,by dsimp only; omega⟩⟩,fun hx=>?_⟩
 . have hi:e.num=some x:=hi
   rw [b2p h hi,if_pos ⟨h0,hx⟩]
 . by_cases e1:j=x
   . subst e1; exact hi
   . exact h2 j j0 (by omega)
 . cases hn:e.num with
   | none=>rw [c6b h hn]
   | some n=>rw [b2p h hn,if_neg (fun hh=>h2 n hh.1 (by omega) hn)]
def cno (a:List (SV U)):Option (Q1 U):=match a with | [.err e]=>some ⟨[],[],.int .i64 e.nr⟩ | _=>none
theorem e3z (args:List (SV U)) (q:Q1 U) (h:cno args=some q) (ho:m8 q.ob):l8 Nex 16 args ⟨q.ob,q.hy,q.v,[]⟩:=by
 unfold cno at h
 split at h
 . rename_i e
   cases h
   exact s8 b5g (j8 b5g p9 c55 2) Tryz.func16 (k:=.int .i64) (x:=e.nr) trivial (e0v (pno e )) 0
 . cases h
noncomputable def Nno:Env:=Nex.addL 16 cno
theorem b5f:l5 Nno:=b5g.addL Tryz.call16 e3z
end Go.Proofs.YtdjfeninmbpflaaGreat
end
section
namespace Go.Re
open Go Go.Wk Go.Wl Go.Rx
def dyS (y m d:Int):Tm:=⟨⟨y,m,d⟩,0,0,0,true,false⟩
instance (r:Rl):Decidable (b27 r):=by unfold b27; infer_instance
instance (r:Rl):Decidable (b3q r):=by unfold b3q; infer_instance
instance (r:Rl):Decidable (b8i r):=by unfold b8i; infer_instance
instance (m:Int) (d:Nt):Decidable (c2r m d):=by unfold c2r; infer_instance
instance (a b:Nt):Decidable (a0r a b):=by unfold a0r; infer_instance
def a7u:Rl:=Rl.mk 1 1 0 [] [] [] [] [] [Nt.mk (-1) 4] [] [] [] [] 0
def X8 (w:Int):Rl:=Rl.mk 2 2 0 [] [] [] [] [] [Nt.mk 0 1,Nt.mk 0 6] [] [] [] [] w
theorem M3 {lo hi:Int} {b:Bool}:M6 [] lo hi b:=⟨fun i h0 h1=>absurd h1 (by simp; omega),fun i h0 h1=>absurd h1 (by simp; omega),by decide⟩
theorem a8r {f i c:Int} {u:List Tm} {d:List Nt} {w:Int}:a9l (Rl.mk f i c u [] [] [] [] d [] [] [] [] w):=⟨M3,M3,M3,M3,M3,M3,M3,M3⟩
theorem d2p:s9 (dyS 1997 1 31) a7u:=by
 refine ⟨by decide,n7.2 ⟨by decide,⟨by decide,fun h=>absurd h (by decide)⟩,a8r,by decide,⟨fun i h0 h1=>?_,fun i h0 h1=>?_⟩,by decide,by decide⟩,fun h=>absurd h (by decide),fun _=>by decide⟩
 . have h1:i<1:=h1
   have:i=0:=by omega
   subst this; decide
 . have h1:i<1:=h1
   omega
theorem b9z {w:Int} (hw:w=0 ∨ w=6):s9 (dyS 1997 8 5) (X8 w):=by
 have h2:A6 (X8 w)=true:=by
  refine n7.2 ⟨?_,⟨by show (0:Int)<=1; decide,fun h=>absurd h (by show ¬ (0:Int)=1; decide)⟩,a8r,by show (2:Int)<=24; decide,⟨fun i h0 h1=>?_,fun i h0 h1=>?_⟩,?_,?_⟩
  . rcases hw with rfl | rfl <;> decide
  . have h1:i<2:=h1
    have:i=0 ∨ i=1:=by omega
    rcases this with rfl | rfl <;> (rcases hw with rfl | rfl <;> decide)
  . have h1:i<2:=h1
    have:i=1:=by omega
    subst this
    rcases hw with rfl | rfl <;> decide
  . rcases hw with rfl | rfl <;> decide
  . rcases hw with rfl | rfl <;> decide
 exact ⟨by decide,h2,fun h=>absurd h (by show ¬ (0:Int)<0; decide),fun _=>⟨by show (2:Int)<=3; decide,rfl,rfl,rfl⟩⟩
theorem b0j {s a b:Tm} {r:Rl} {l:List Tm} (hF:s9 s r) (ha:p4 a=true) (hb:p4 b=true) (hf:S3 s r (m6 s.Day) (b8 b)=false) (hg:b2h s a (b3z s r a b)=(l,.nil)):C3 s r a b=(l,.nil):=by
 unfold C3
 rw [if_neg (fun h=>h.elim (fun h=>h.elim (fun h=>h (G6.2 hF)) fun h=>h ha) fun h=>h hb),if_neg (by rw [hf]; exact Bool.false_ne_true),hg]
theorem e1e:C3 (dyS 1997 1 31) a7u (dyS 1997 1 1) (dyS 1997 4 1)=([dyS 1997 1 31,dyS 1997 2 28,dyS 1997 3 28],.nil) :=
 b0j d2p (by decide) (by decide) (by kernel_rfl) (by kernel_rfl)
theorem e3b:C3 (dyS 1997 8 5) (X8 0) (dyS 1997 8 1) (dyS 1997 8 25)=([dyS 1997 8 5,dyS 1997 8 10,dyS 1997 8 19,dyS 1997 8 24],.nil) :=
 b0j (b9z (.inl rfl)) (by decide) (by decide) (by kernel_rfl) (by kernel_rfl)
theorem c81:C3 (dyS 1997 8 5) (X8 6) (dyS 1997 8 1) (dyS 1997 9 1)=([dyS 1997 8 5,dyS 1997 8 17,dyS 1997 8 19,dyS 1997 8 31],.nil) :=
 b0j (b9z (.inr rfl)) (by decide) (by decide) (by kernel_rfl) (by kernel_rfl)
end Go.Re
end
section
namespace Go.Proofs.YtdjfeninmbpflaaGreat
open Go Go.Wk Go.Wl Go.Rx Go.Re 
attribute [local irreducible] i7
def c5k:Nat->Ann:=fun | 28=>⟨12,fun _=>none,fun _=>none⟩ | _=>⟨0,fun _=>none,fun _=>none⟩
def Vld (y:Int) (m:Int) (d:Int) (Q:Tm->Prop):Prop :=
Q (Tm.mk (Dy.mk y m d) (0:Int) (0:Int) (0:Int) true false)
theorem e5d {y:Int} {m:Int} {d:Int} {Q:Tm->Prop}:@Eq Prop (Vld y m d Q) (i7 (E:=Nno) (j7 Nno H0 c5k 2) (c5k 28) Tryz.f28 [.int .i64 y,.int .i64 m,.int .i64 d] [] [] 0 (n5 Nno [.val 25] Q)):=by kernel_rfl
theorem e0h {y:Int} {m:Int} {d:Int} {Q:Tm->Prop} (h:Vld y m d Q):i7 (E:=Nno) (j7 Nno H0 c5k 2) (c5k 28) Tryz.f28 [.int .i64 y,.int .i64 m,.int .i64 d] [] [] 0 (n5 Nno [.val 25] Q):=by rw [<- e5d]; exact h
theorem pld (y:Int) (m:Int) (d:Int)  : Vld y m d (fun y0=>y0=dyS y m d):=by
 unfold Vld dyS
 rfl
def cld (a:List (SV U)):Option (Q1 U):=match a with | [.int .i64 y,.int .i64 m,.int .i64 d]=>some ⟨[],[],.agg [.int .i64 (dyS y m d).Day.Year,.int .i64 (dyS y m d).Day.Month,.int .i64 (dyS y m d).Day.Date,.int .i64 (dyS y m d).Hour,.int .i64 (dyS y m d).Min,.int .i64 (dyS y m d).Sec,blB (dyS y m d).Bare,blB (dyS y m d).UTC]⟩ | _=>none
theorem d9n (args:List (SV U)) (q:Q1 U) (h:cld args=some q) (ho:m8 q.ob):l8 Nno 28 args ⟨q.ob,q.hy,q.v,[]⟩:=by
 unfold cld at h
 split at h
 . rename_i y m d
   cases h
   exact s8 b5f (j8 b5f p9 c5k 2) Tryz.func28 (k:=.val 25) (x:=dyS y m d) ⟨_,_,rfl,rfl,rfl⟩ (e0h (pld y m d )) 0
 . cases h
noncomputable def Nld:Env:=Nno.addL 28 cld
theorem b4x:l5 Nld:=b5f.addL Tryz.call28 d9n
end Go.Proofs.YtdjfeninmbpflaaGreat
end
section
namespace Go.Proofs.YtdjfeninmbpflaaGreat
open Go Go.Wk Go.Wl Go.Rx Go.Re 
attribute [local irreducible] i7
def c3n:Nat->Ann:=fun | 12=>⟨74,fun _=>none,fun _=>none⟩ | _=>⟨0,fun _=>none,fun _=>none⟩
def Val  (Q:Bool->Prop):Prop :=
A5 (a7u)=true/\A5 (X8 (0:Int))=true/\A5 (X8 (6:Int))=true/\b9 ((C3 (etT (dyS (1997:Int) (1:Int) (31:Int))) (a7u) (etT (dyS (1997:Int) (1:Int) (1:Int))) (etT (dyS (1997:Int) (4:Int) (1:Int)))).snd.nr+(C3 (etT (dyS (1997:Int) (8:Int) (5:Int))) (X8 (0:Int)) (etT (dyS (1997:Int) (8:Int) (1:Int))) (etT (dyS (1997:Int) (8:Int) (25:Int)))).snd.nr)/\b9 ((C3 (etT (dyS (1997:Int) (1:Int) (31:Int))) (a7u) (etT (dyS (1997:Int) (1:Int) (1:Int))) (etT (dyS (1997:Int) (4:Int) (1:Int)))).snd.nr+(C3 (etT (dyS (1997:Int) (8:Int) (5:Int))) (X8 (0:Int)) (etT (dyS (1997:Int) (8:Int) (1:Int))) (etT (dyS (1997:Int) (8:Int) (25:Int)))).snd.nr+(C3 (etT (dyS (1997:Int) (8:Int) (5:Int))) (X8 (6:Int)) (etT (dyS (1997:Int) (8:Int) (1:Int))) (etT (dyS (1997:Int) (9:Int) (1:Int)))).snd.nr)/\((C3 (etT (dyS (1997:Int) (1:Int) (31:Int))) (a7u) (etT (dyS (1997:Int) (1:Int) (1:Int))) (etT (dyS (1997:Int) (4:Int) (1:Int)))).snd.nr+(C3 (etT (dyS (1997:Int) (8:Int) (5:Int))) (X8 (0:Int)) (etT (dyS (1997:Int) (8:Int) (1:Int))) (etT (dyS (1997:Int) (8:Int) (25:Int)))).snd.nr+(C3 (etT (dyS (1997:Int) (8:Int) (5:Int))) (X8 (6:Int)) (etT (dyS (1997:Int) (8:Int) (1:Int))) (etT (dyS (1997:Int) (9:Int) (1:Int)))).snd.nr=(0:Int)->(C3 (etT (dyS (1997:Int) (1:Int) (31:Int))) (a7u) (etT (dyS (1997:Int) (1:Int) (1:Int))) (etT (dyS (1997:Int) (4:Int) (1:Int)))).fst.length<=(10000000:Nat)/\(Y4 (C3 (etT (dyS (1997:Int) (1:Int) (31:Int))) (a7u) (etT (dyS (1997:Int) (1:Int) (1:Int))) (etT (dyS (1997:Int) (4:Int) (1:Int)))).fst [etT (dyS (1997:Int) (1:Int) (31:Int)),etT (dyS (1997:Int) (2:Int) (28:Int)),etT (dyS (1997:Int) (3:Int) (28:Int))]=true->(C3 (etT (dyS (1997:Int) (8:Int) (5:Int))) (X8 (0:Int)) (etT (dyS (1997:Int) (8:Int) (1:Int))) (etT (dyS (1997:Int) (8:Int) (25:Int)))).fst.length<=(10000000:Nat)/\(Y4 (C3 (etT (dyS (1997:Int) (8:Int) (5:Int))) (X8 (0:Int)) (etT (dyS (1997:Int) (8:Int) (1:Int))) (etT (dyS (1997:Int) (8:Int) (25:Int)))).fst [etT (dyS (1997:Int) (8:Int) (5:Int)),etT (dyS (1997:Int) (8:Int) (10:Int)),etT (dyS (1997:Int) (8:Int) (19:Int)),etT (dyS (1997:Int) (8:Int) (24:Int))]=true->(C3 (etT (dyS (1997:Int) (8:Int) (5:Int))) (X8 (6:Int)) (etT (dyS (1997:Int) (8:Int) (1:Int))) (etT (dyS (1997:Int) (9:Int) (1:Int)))).fst.length<=(10000000:Nat)/\Q (decide (Y4 (C3 (etT (dyS (1997:Int) (8:Int) (5:Int))) (X8 (6:Int)) (etT (dyS (1997:Int) (8:Int) (1:Int))) (etT (dyS (1997:Int) (9:Int) (1:Int)))).fst [etT (dyS (1997:Int) (8:Int) (5:Int)),etT (dyS (1997:Int) (8:Int) (17:Int)),etT (dyS (1997:Int) (8:Int) (19:Int)),etT (dyS (1997:Int) (8:Int) (31:Int))]=true)))/\(¬Y4 (C3 (etT (dyS (1997:Int) (8:Int) (5:Int))) (X8 (0:Int)) (etT (dyS (1997:Int) (8:Int) (1:Int))) (etT (dyS (1997:Int) (8:Int) (25:Int)))).fst [etT (dyS (1997:Int) (8:Int) (5:Int)),etT (dyS (1997:Int) (8:Int) (10:Int)),etT (dyS (1997:Int) (8:Int) (19:Int)),etT (dyS (1997:Int) (8:Int) (24:Int))]=true->Q false))/\(¬Y4 (C3 (etT (dyS (1997:Int) (1:Int) (31:Int))) (a7u) (etT (dyS (1997:Int) (1:Int) (1:Int))) (etT (dyS (1997:Int) (4:Int) (1:Int)))).fst [etT (dyS (1997:Int) (1:Int) (31:Int)),etT (dyS (1997:Int) (2:Int) (28:Int)),etT (dyS (1997:Int) (3:Int) (28:Int))]=true->Q false))/\(¬(C3 (etT (dyS (1997:Int) (1:Int) (31:Int))) (a7u) (etT (dyS (1997:Int) (1:Int) (1:Int))) (etT (dyS (1997:Int) (4:Int) (1:Int)))).snd.nr+(C3 (etT (dyS (1997:Int) (8:Int) (5:Int))) (X8 (0:Int)) (etT (dyS (1997:Int) (8:Int) (1:Int))) (etT (dyS (1997:Int) (8:Int) (25:Int)))).snd.nr+(C3 (etT (dyS (1997:Int) (8:Int) (5:Int))) (X8 (6:Int)) (etT (dyS (1997:Int) (8:Int) (1:Int))) (etT (dyS (1997:Int) (9:Int) (1:Int)))).snd.nr=(0:Int)->Q false)
theorem d6i  {Q:Bool->Prop}:@Eq Prop (Val  Q) (i7 (E:=Nld) (j7 Nld H0 c3n 3) (c3n 12) Tryz.f12 [] [] [] 0 (n5 Nld [.bool] Q)):=by kernel_rfl
theorem e4y  {Q:Bool->Prop} (h:Val  Q):i7 (E:=Nld) (j7 Nld H0 c3n 3) (c3n 12) Tryz.f12 [] [] [] 0 (n5 Nld [.bool] Q):=by rw [<- d6i]; exact h
theorem pal   : Val  (fun y0=>y0=true):=by
 unfold Val
 simp only [Y9]
 rw [e1e,e3b,c81]
 have st:∀ l:List Tm,Y4 l l=true:=fun l=>decide_eq_true rfl
 exact ⟨by decide,by decide,by decide,⟨by decide,by decide⟩,⟨by decide,by decide⟩,fun _=>⟨by decide,fun _=>⟨by decide,fun _=>⟨by decide,decide_eq_true (st _)⟩,fun h=>absurd (st _) h⟩,fun h=>absurd (st _) h⟩,fun h=>absurd rfl h⟩
def cal (a:List (SV U)):Option (Q1 U):=match a with | []=>some ⟨[],[],blB true⟩ | _=>none
theorem e4n (args:List (SV U)) (q:Q1 U) (h:cal args=some q) (ho:m8 q.ob):l8 Nld 12 args ⟨q.ob,q.hy,q.v,[]⟩:=by
 unfold cal at h
 split at h
 . cases h
   exact s8 b4x (j8 b4x p9 c3n 3) Tryz.func12 (k:=.bool) (x:=true) trivial (e4y (pal  )) 0
 . cases h
noncomputable def Nal:Env:=Nld.addL 12 cal
theorem b81:l5 Nal:=b4x.addL Tryz.call12 e4n
end Go.Proofs.YtdjfeninmbpflaaGreat
end
section
namespace Go.Proofs.YtdjfeninmbpflaaGreat
open Go Go.Wk Go.Wl Go.Rx Go.Re 
attribute [local irreducible] i7
def c3t:Nat->Ann:=fun | 11=>⟨31,fun _=>none,fun _=>none⟩ | _=>⟨0,fun _=>none,fun _=>none⟩
def Vln (s:Tm) (r:Rl) (t:Tm) (Q:Bool->Prop):Prop :=
(¬p4 (Tm.mk (Dy.mk s.Day.Year s.Day.Month s.Day.Date) s.Hour s.Min s.Sec (decide (s.Bare=true)) (decide (s.UTC=true)))=true ∨ ¬p4 (Tm.mk (Dy.mk t.Day.Year t.Day.Month t.Day.Date) t.Hour t.Min t.Sec (decide (t.Bare=true)) (decide (t.UTC=true)))=true->Q true)/\(¬(¬p4 (Tm.mk (Dy.mk s.Day.Year s.Day.Month s.Day.Date) s.Hour s.Min s.Sec (decide (s.Bare=true)) (decide (s.UTC=true)))=true ∨ ¬p4 (Tm.mk (Dy.mk t.Day.Year t.Day.Month t.Day.Date) t.Hour t.Min t.Sec (decide (t.Bare=true)) (decide (t.UTC=true)))=true)->((0:Int)<=bif true then max (0:Int) (bif false then max r.Freq (6:Int) else min r.Freq (6:Int)) else min (0:Int) (bif false then max r.Freq (6:Int) else min r.Freq (6:Int)))/\(bif true then max (0:Int) (bif false then max r.Freq (6:Int) else min r.Freq (6:Int)) else min (0:Int) (bif false then max r.Freq (6:Int) else min r.Freq (6:Int)))<(↑[(3000:Int),(3000:Int),(1500:Int),(700:Int),(60:Int),(4:Int),(1:Int)].length:Int)/\(b9 (ix [(3000:Int),(3000:Int),(1500:Int),(700:Int),(60:Int),(4:Int),(1:Int)] (bif true then max (0:Int) (bif false then max r.Freq (6:Int) else min r.Freq (6:Int)) else min (0:Int) (bif false then max r.Freq (6:Int) else min r.Freq (6:Int))))->b9 (b8 (Tm.mk (Dy.mk t.Day.Year t.Day.Month t.Day.Date) t.Hour t.Min t.Sec (decide (t.Bare=true)) (decide (t.UTC=true)))-b8 (Tm.mk (Dy.mk s.Day.Year s.Day.Month s.Day.Date) s.Hour s.Min s.Sec (decide (s.Bare=true)) (decide (s.UTC=true))))/\b9 ((86400:Int) * ix [(3000:Int),(3000:Int),(1500:Int),(700:Int),(60:Int),(4:Int),(1:Int)] (bif true then max (0:Int) (bif false then max r.Freq (6:Int) else min r.Freq (6:Int)) else min (0:Int) (bif false then max r.Freq (6:Int) else min r.Freq (6:Int))))/\Q (decide (b8 (Tm.mk (Dy.mk t.Day.Year t.Day.Month t.Day.Date) t.Hour t.Min t.Sec (decide (t.Bare=true)) (decide (t.UTC=true)))-b8 (Tm.mk (Dy.mk s.Day.Year s.Day.Month s.Day.Date) s.Hour s.Min s.Sec (decide (s.Bare=true)) (decide (s.UTC=true)))<=(86400:Int) * ix [(3000:Int),(3000:Int),(1500:Int),(700:Int),(60:Int),(4:Int),(1:Int)] (bif true then max (0:Int) (bif false then max r.Freq (6:Int) else min r.Freq (6:Int)) else min (0:Int) (bif false then max r.Freq (6:Int) else min r.Freq (6:Int)))))))
theorem e1r {s:Tm} {r:Rl} {t:Tm} {Q:Bool->Prop}:@Eq Prop (Vln s r t Q) (i7 (E:=Nal) (j7 Nal H0 c3t 2) (c3t 11) Tryz.f11 [.agg [.int .i64 s.Day.Year,.int .i64 s.Day.Month,.int .i64 s.Day.Date,.int .i64 s.Hour,.int .i64 s.Min,.int .i64 s.Sec,blB s.Bare,blB s.UTC],.agg [.int .i64 r.Freq,.int .i64 r.Interval,.int .i64 r.Count,.sl (N:=U) 25 r.Until,.sl (N:=U) 3 r.Month,.sl (N:=U) 3 r.WeekNo,.sl (N:=U) 3 r.YearDay,.sl (N:=U) 3 r.MonthDay,.sl (N:=U) 60 r.Days,.sl (N:=U) 3 r.Hour,.sl (N:=U) 3 r.Minute,.sl (N:=U) 3 r.Second,.sl (N:=U) 3 r.SetPos,.int .i64 r.Wkst],.agg [.int .i64 t.Day.Year,.int .i64 t.Day.Month,.int .i64 t.Day.Date,.int .i64 t.Hour,.int .i64 t.Min,.int .i64 t.Sec,blB t.Bare,blB t.UTC]] [] [] 0 (n5 Nal [.bool] Q)):=by kernel_rfl
theorem e53 {s:Tm} {r:Rl} {t:Tm} {Q:Bool->Prop} (h:Vln s r t Q):i7 (E:=Nal) (j7 Nal H0 c3t 2) (c3t 11) Tryz.f11 [.agg [.int .i64 s.Day.Year,.int .i64 s.Day.Month,.int .i64 s.Day.Date,.int .i64 s.Hour,.int .i64 s.Min,.int .i64 s.Sec,blB s.Bare,blB s.UTC],.agg [.int .i64 r.Freq,.int .i64 r.Interval,.int .i64 r.Count,.sl (N:=U) 25 r.Until,.sl (N:=U) 3 r.Month,.sl (N:=U) 3 r.WeekNo,.sl (N:=U) 3 r.YearDay,.sl (N:=U) 3 r.MonthDay,.sl (N:=U) 60 r.Days,.sl (N:=U) 3 r.Hour,.sl (N:=U) 3 r.Minute,.sl (N:=U) 3 r.Second,.sl (N:=U) 3 r.SetPos,.int .i64 r.Wkst],.agg [.int .i64 t.Day.Year,.int .i64 t.Day.Month,.int .i64 t.Day.Date,.int .i64 t.Hour,.int .i64 t.Min,.int .i64 t.Sec,blB t.Bare,blB t.UTC]] [] [] 0 (n5 Nal [.bool] Q):=by rw [<- e1r]; exact h
theorem pln (s:Tm) (r:Rl) (t:Tm)  : Vln s r t (fun y0=>y0=b1u s r t):=by
 unfold Vln b1u
 simp only [Bool.decide_eq_true]
 rw [show (Tm.mk (Dy.mk s.Day.Year s.Day.Month s.Day.Date) s.Hour s.Min s.Sec s.Bare s.UTC)=s from rfl,show (Tm.mk (Dy.mk t.Day.Year t.Day.Month t.Day.Date) t.Hour t.Min t.Sec t.Bare t.UTC)=t from rfl]
 have b0:∀ a b:Int,(bif false then max a b else min a b)=min a b:=fun _ _=>rfl
 have b1:∀ a b:Int,(bif true then max a b else min a b)=max a b:=fun _ _=>rfl
 simp only [b0,b1]
 rw [show ([3000,3000,1500,700,60,4,1]:List Int)=c6k from rfl]
 refine ⟨fun h=>by rw [if_pos h],fun h=>?_⟩
 have hs:p4 s=true:=Classical.not_not.1 fun hn=>h (.inl hn)
 have ht:p4 t=true:=Classical.not_not.1 fun hn=>h (.inr hn)
 have a:=w9 hs
 have b:=w9 ht
 have c:=d4w (i:=max 0 (min r.Freq 6)) (by omega) (by omega)
 have el:(c6k.length:Int)=7:=rfl
 refine ⟨by omega,by rw [el]; omega,fun _=>⟨⟨by omega,by omega⟩,⟨by omega,by omega⟩,by rw [if_neg h]⟩⟩
noncomputable def e7z (s:Tm) (r:Rl) (t:Tm):Q1 U:=⟨[],[],blB (b1u s r t)⟩
noncomputable def cln (a:List (SV U)):Option (Q1 U):=match a with | [.agg l_s,.agg l_r,.agg l_t]=>(y25.bk (.agg l_s)).bind fun s=>(y30.bk (.agg l_r)).bind fun r=>(y25.bk (.agg l_t)).bind fun t=>some (e7z s r t) | _=>none
theorem e41 (args:List (SV U)) (q:Q1 U) (h:cln args=some q) (ho:m8 q.ob):l8 Nal 11 args ⟨q.ob,q.hy,q.v,[]⟩:=by
 unfold cln at h
 split at h
 . rename_i l_s l_r l_t
   obtain ⟨s,hb_s,h⟩:=Option.bind_eq_some_iff.1 h
   obtain ⟨r,hb_r,h⟩:=Option.bind_eq_some_iff.1 h
   obtain ⟨t,hb_t,h⟩:=Option.bind_eq_some_iff.1 h
   cases h
   refine l8.conv (E:=Nal) (args':=[.agg [.int .i64 s.Day.Year,.int .i64 s.Day.Month,.int .i64 s.Day.Date,.int .i64 s.Hour,.int .i64 s.Min,.int .i64 s.Sec,blB s.Bare,blB s.UTC],.agg [.int .i64 r.Freq,.int .i64 r.Interval,.int .i64 r.Count,.sl 25 r.Until,.sl 3 r.Month,.sl 3 r.WeekNo,.sl 3 r.YearDay,.sl 3 r.MonthDay,.sl 60 r.Days,.sl 3 r.Hour,.sl 3 r.Minute,.sl 3 r.Second,.sl 3 r.SetPos,.int .i64 r.Wkst],.agg [.int .i64 t.Day.Year,.int .i64 t.Day.Month,.int .i64 t.Day.Date,.int .i64 t.Hour,.int .i64 t.Min,.int .i64 t.Sec,blB t.Bare,blB t.UTC]]) (s8 b81 (j8 b81 p9 c3t 2) Tryz.func11 (k:=.bool) trivial (e53 (pln s r t )) 0) fun D w vs hr=>u7 [.agg l_s,.agg l_r,.agg l_t] [.agg [.int .i64 s.Day.Year,.int .i64 s.Day.Month,.int .i64 s.Day.Date,.int .i64 s.Hour,.int .i64 s.Min,.int .i64 s.Sec,blB s.Bare,blB s.UTC],.agg [.int .i64 r.Freq,.int .i64 r.Interval,.int .i64 r.Count,.sl (N:=U) 25 r.Until,.sl (N:=U) 3 r.Month,.sl (N:=U) 3 r.WeekNo,.sl (N:=U) 3 r.YearDay,.sl (N:=U) 3 r.MonthDay,.sl (N:=U) 60 r.Days,.sl (N:=U) 3 r.Hour,.sl (N:=U) 3 r.Minute,.sl (N:=U) 3 r.Second,.sl (N:=U) 3 r.SetPos,.int .i64 r.Wkst],.agg [.int .i64 t.Day.Year,.int .i64 t.Day.Month,.int .i64 t.Day.Date,.int .i64 t.Hour,.int .i64 t.Min,.int .i64 t.Sec,blB t.Bare,blB t.UTC]] _ ⟨fun _ h=>s7 hb_s h,fun _ h=>w6 hb_r h,fun _ h=>s7 hb_t h,trivial⟩ hr
 . cases h
noncomputable def Nln:Env:=Nal.addL 11 cln
theorem b7d:l5 Nln:=b81.addL Tryz.call11 e41
end Go.Proofs.YtdjfeninmbpflaaGreat
end
section
namespace Go.Proofs.YtdjfeninmbpflaaGreat
open Go Go.Wk Go.Wl Go.Rx Go.Re 
attribute [local irreducible] i7
def c4t:Nat->Ann:=fun | 91=>⟨23,fun _=>none,fun _=>none⟩ | _=>⟨0,fun _=>none,fun _=>none⟩
def Vxp (l:List Int) (n:Int) (a:Int) (Q:Bool->Prop):Prop :=
(¬(↑l.length:Int)=0->l.length<=1000000)/\(¬((↑l.length:Int)=0 ∨ v8 l n=true)->b9 (n-a))/\(¬((↑l.length:Int)=0 ∨ v8 l n=true)->b9 (n-a-1))/\(¬((↑l.length:Int)=0 ∨ v8 l n=true)->l.length<=1000000)/\Q (decide (((↑l.length:Int)=0 ∨ v8 l n=true) ∨ v8 l (n-a-1)=true))
theorem e49 {l:List Int} {n:Int} {a:Int} {Q:Bool->Prop}:@Eq Prop (Vxp l n a Q) (i7 (E:=Nln) (j7 Nln H0 c4t 2) (c4t 91) Tryz.f91 [.sl (N:=U) 3 l,.int .i64 n,.int .i64 a] [] [] 0 (n5 Nln [.bool] Q)):=by kernel_rfl
theorem d6c {l:List Int} {n:Int} {a:Int} {Q:Bool->Prop} (h:Vxp l n a Q):i7 (E:=Nln) (j7 Nln H0 c4t 2) (c4t 91) Tryz.f91 [.sl (N:=U) 3 l,.int .i64 n,.int .i64 a] [] [] 0 (n5 Nln [.bool] Q):=by rw [<- e49]; exact h
theorem pxp (l:List Int) (n:Int) (a:Int) (hl:l.length<=1000000) (n0:-10000000<=n) (n1:n<=10000000) (a0:-10000000<=a) (a1:a<=10000000):Vxp l n a (fun y0=>y0=B9 l n a):=by
 unfold Vxp B9 Re.hasE
 refine ⟨fun _=>hl,fun _=>⟨by omega,by omega⟩,fun _=>⟨by omega,by omega⟩,fun _=>hl,b52 ?_⟩
 rw [Bool.or_eq_true,Bool.or_eq_true,decide_eq_true_iff,or_assoc]
def cxp (a:List (SV U)):Option (Q1 U):=match a with | [.sl 3 l,.int .i64 n,.int .i64 a]=>some ⟨[List.length (α:=Int) l<=1000000,-10000000<=n,n<=10000000,-10000000<=a,a<=10000000],[],blB (B9 l n a)⟩ | _=>none
theorem e05 (args:List (SV U)) (q:Q1 U) (h:cxp args=some q) (ho:m8 q.ob):l8 Nln 91 args ⟨q.ob,q.hy,q.v,[]⟩:=by
 unfold cxp at h
 split at h
 . rename_i l n a
   cases h
   exact s8 b7d (j8 b7d p9 c4t 2) Tryz.func91 (k:=.bool) (x:=B9 l n a) trivial (d6c (pxp l n a ho.1 ho.2.1 ho.2.2.1 ho.2.2.2.1 ho.2.2.2.2.1)) 0
 . cases h
noncomputable def Nxp:Env:=Nln.addL 91 cxp
theorem b5a:l5 Nxp:=b7d.addL Tryz.call91 e05
end Go.Proofs.YtdjfeninmbpflaaGreat
end
section
namespace Go.Proofs.YtdjfeninmbpflaaGreat
open Go Go.Wk Go.Wl Go.Rx Go.Re 
attribute [local irreducible] i7
def c4q:Nat->Ann:=fun | 95=>⟨6,fun _=>none,fun _=>none⟩ | _=>⟨0,fun _=>none,fun _=>none⟩
def Vxl (t:Int) (Q:Int->Prop):Prop :=
((315537897600:Int)<t->Q (315537897600:Int))/\(¬(315537897600:Int)<t->Q t)
theorem e3y {t:Int} {Q:Int->Prop}:@Eq Prop (Vxl t Q) (i7 (E:=Nxp) (j7 Nxp H0 c4q 2) (c4q 95) Tryz.f95 [.int .i64 t] [] [] 0 (n5 Nxp [.int .i64] Q)):=by kernel_rfl
theorem e30 {t:Int} {Q:Int->Prop} (h:Vxl t Q):i7 (E:=Nxp) (j7 Nxp H0 c4q 2) (c4q 95) Tryz.f95 [.int .i64 t] [] [] 0 (n5 Nxp [.int .i64] Q):=by rw [<- e3y]; exact h
theorem pxl (t:Int)  : Vxl t (fun y0=>y0=E5 t):=by
 unfold Vxl E5
 exact ⟨fun h=>by rw [if_pos h],fun h=>by rw [if_neg h]⟩
def cxl (a:List (SV U)):Option (Q1 U):=match a with | [.int .i64 t]=>some ⟨[],[],.int .i64 (E5 t)⟩ | _=>none
theorem e3u (args:List (SV U)) (q:Q1 U) (h:cxl args=some q) (ho:m8 q.ob):l8 Nxp 95 args ⟨q.ob,q.hy,q.v,[]⟩:=by
 unfold cxl at h
 split at h
 . rename_i t
   cases h
   exact s8 b5a (j8 b5a p9 c4q 2) Tryz.func95 (k:=.int .i64) (x:=E5 t) trivial (e30 (pxl t )) 0
 . cases h
noncomputable def Nxl:Env:=Nxp.addL 95 cxl
theorem b7m:l5 Nxl:=b5a.addL Tryz.call95 e3u
end Go.Proofs.YtdjfeninmbpflaaGreat
end
section
namespace Go.Proofs.YtdjfeninmbpflaaGreat
open Go Go.Wk Go.Wl Go.Rx Go.Re 
attribute [local irreducible] i7
def c64:Nat->Ann:=fun | 48=>⟨46,fun _=>none,fun _=>none⟩ | _=>⟨0,fun _=>none,fun _=>none⟩
def VxI (r:Rl) (t:Int) (Q:Int->Prop):Prop :=
(86400:Int)≠0/\b9 (t.tdiv (86400:Int))/\b9 (t.tdiv (86400:Int)+1)/\(r.Freq=0->Q (ofS (t.tdiv (86400:Int)+1)).Year)/\(¬r.Freq=0->(r.Freq=1->b9 ((12:Int) * (ofS (t.tdiv (86400:Int)+1)).Year)/\b9 ((12:Int) * (ofS (t.tdiv (86400:Int)+1)).Year+(ofS (t.tdiv (86400:Int)+1)).Month)/\Q ((12:Int) * (ofS (t.tdiv (86400:Int)+1)).Year+(ofS (t.tdiv (86400:Int)+1)).Month))/\(¬r.Freq=1->(r.Freq=2->b9 (t.tdiv (86400:Int)+1+6)/\b9 (t.tdiv (86400:Int)+1+6-r.Wkst)/\(7:Int)≠0/\b9 ((t.tdiv (86400:Int)+1+6-r.Wkst).tdiv (7:Int))/\Q ((t.tdiv (86400:Int)+1+6-r.Wkst).tdiv (7:Int)))/\(¬r.Freq=2->(r.Freq=3->Q (t.tdiv (86400:Int)+1))/\(¬r.Freq=3->(r.Freq=4->(3600:Int)≠0/\b9 (t.tdiv (3600:Int))/\Q (t.tdiv (3600:Int)))/\(¬r.Freq=4->(r.Freq=5->(60:Int)≠0/\b9 (t.tdiv (60:Int))/\Q (t.tdiv (60:Int)))/\(¬r.Freq=5->Q t))))))
theorem e0x {r:Rl} {t:Int} {Q:Int->Prop}:@Eq Prop (VxI r t Q) (i7 (E:=Nxl) (j7 Nxl H0 c64 2) (c64 48) Tryz.f48 [.agg [.int .i64 r.Freq,.int .i64 r.Interval,.int .i64 r.Count,.sl (N:=U) 25 r.Until,.sl (N:=U) 3 r.Month,.sl (N:=U) 3 r.WeekNo,.sl (N:=U) 3 r.YearDay,.sl (N:=U) 3 r.MonthDay,.sl (N:=U) 60 r.Days,.sl (N:=U) 3 r.Hour,.sl (N:=U) 3 r.Minute,.sl (N:=U) 3 r.Second,.sl (N:=U) 3 r.SetPos,.int .i64 r.Wkst],.int .i64 t] [] [] 0 (n5 Nxl [.int .i64] Q)):=by kernel_rfl
theorem d8u {r:Rl} {t:Int} {Q:Int->Prop} (h:VxI r t Q):i7 (E:=Nxl) (j7 Nxl H0 c64 2) (c64 48) Tryz.f48 [.agg [.int .i64 r.Freq,.int .i64 r.Interval,.int .i64 r.Count,.sl (N:=U) 25 r.Until,.sl (N:=U) 3 r.Month,.sl (N:=U) 3 r.WeekNo,.sl (N:=U) 3 r.YearDay,.sl (N:=U) 3 r.MonthDay,.sl (N:=U) 60 r.Days,.sl (N:=U) 3 r.Hour,.sl (N:=U) 3 r.Minute,.sl (N:=U) 3 r.Second,.sl (N:=U) 3 r.SetPos,.int .i64 r.Wkst],.int .i64 t] [] [] 0 (n5 Nxl [.int .i64] Q):=by rw [<- e0x]; exact h
theorem pxI (r:Rl) (t:Int) (t0:0<=t) (t1:t<=400000000000) (w0:0<=r.Wkst) (w1:r.Wkst<=6):VxI r t (fun y0=>y0=s4 r t):=by
 unfold VxI s4
 have e0:t.tdiv 86400=t / 86400:=Int.tdiv_eq_ediv_of_nonneg t0
 have e1:t.tdiv 3600=t / 3600:=Int.tdiv_eq_ediv_of_nonneg t0
 have e2:t.tdiv 60=t / 60:=Int.tdiv_eq_ediv_of_nonneg t0
 have e3:(t / 86400+1+6-r.Wkst).tdiv 7=(t / 86400+1+6-r.Wkst) / 7:=Int.tdiv_eq_ediv_of_nonneg (by omega)
 rw [e0,e1,e2,e3]
 obtain ⟨y,m,_⟩:=a8l (t / 86400+1)
 refine ⟨by decide,⟨by omega,by omega⟩,⟨by omega,by omega⟩,fun h=>by rw [if_pos h],fun h0=>⟨fun h=>⟨⟨by omega,by omega⟩,⟨by omega,by omega⟩,by rw [if_neg h0,if_pos h]⟩,fun h1=>⟨fun h=>⟨⟨by omega,by omega⟩,⟨by omega,by omega⟩,by decide,⟨by omega,by omega⟩,by rw [if_neg h0,if_neg h1,if_pos h]⟩,fun h2=>⟨fun h=>by rw [if_neg h0,if_neg h1,if_neg h2,if_pos h],fun h3=>⟨fun h=>⟨by decide,⟨by omega,by omega⟩,by rw [if_neg h0,if_neg h1,if_neg h2,if_neg h3,if_pos h]⟩,fun h4=>⟨fun h=>⟨by decide,⟨by omega,by omega⟩,by rw [if_neg h0,if_neg h1,if_neg h2,if_neg h3,if_neg h4,if_pos h]⟩,fun h5=>by rw [if_neg h0,if_neg h1,if_neg h2,if_neg h3,if_neg h4,if_neg h5]⟩⟩⟩⟩⟩⟩
noncomputable def e8e (r:Rl) (t:Int):Q1 U:=⟨[0<=t,t<=400000000000,0<=r.Wkst,r.Wkst<=6],[],.int .i64 (s4 r t)⟩
noncomputable def cxI (a:List (SV U)):Option (Q1 U):=match a with | [.agg l_r,.int .i64 t]=>(y30.bk (.agg l_r)).bind fun r=>some (e8e r t) | _=>none
theorem e0c (args:List (SV U)) (q:Q1 U) (h:cxI args=some q) (ho:m8 q.ob):l8 Nxl 48 args ⟨q.ob,q.hy,q.v,[]⟩:=by
 unfold cxI at h
 split at h
 . rename_i l_r t
   obtain ⟨r,hb_r,h⟩:=Option.bind_eq_some_iff.1 h
   cases h
   refine l8.conv (E:=Nxl) (args':=[.agg [.int .i64 r.Freq,.int .i64 r.Interval,.int .i64 r.Count,.sl 25 r.Until,.sl 3 r.Month,.sl 3 r.WeekNo,.sl 3 r.YearDay,.sl 3 r.MonthDay,.sl 60 r.Days,.sl 3 r.Hour,.sl 3 r.Minute,.sl 3 r.Second,.sl 3 r.SetPos,.int .i64 r.Wkst],.int .i64 t]) (s8 b7m (j8 b7m p9 c64 2) Tryz.func48 (k:=.int .i64) trivial (d8u (pxI r t ho.1 ho.2.1 ho.2.2.1 ho.2.2.2.1)) 0) fun D w vs hr=>u7 [.agg l_r,.int .i64 t] [.agg [.int .i64 r.Freq,.int .i64 r.Interval,.int .i64 r.Count,.sl (N:=U) 25 r.Until,.sl (N:=U) 3 r.Month,.sl (N:=U) 3 r.WeekNo,.sl (N:=U) 3 r.YearDay,.sl (N:=U) 3 r.MonthDay,.sl (N:=U) 60 r.Days,.sl (N:=U) 3 r.Hour,.sl (N:=U) 3 r.Minute,.sl (N:=U) 3 r.Second,.sl (N:=U) 3 r.SetPos,.int .i64 r.Wkst],.int .i64 t] _ ⟨fun _ h=>w6 hb_r h,fun _ h=>h,trivial⟩ hr
 . cases h
noncomputable def NxI:Env:=Nxl.addL 48 cxI
theorem b7j:l5 NxI:=b7m.addL Tryz.call48 e0c
end Go.Proofs.YtdjfeninmbpflaaGreat
end
section
namespace Go.Proofs.YtdjfeninmbpflaaGreat
open Go Go.Wk Go.Wl Go.Rx Go.Re 
attribute [local irreducible] i7
def c97:Nat->Ann:=fun | 49=>⟨199,fun | 15=>some ⟨[2,4,13,14],[.slot 15 (.int .i64)]⟩ | _=>none,fun | 8=>some ⟨[2,3,4,7,8,9,11],[.slot 12 (.int .i64)]⟩ | 14=>some ⟨[2,4],[.slot 13 (.int .i64),.slot 14 (.int .i64)]⟩ | _=>none⟩ | _=>⟨0,fun _=>none,fun _=>none⟩
def a67 (n:Int):=Dy.mk (ofS n).Year (ofS n).Month (ofS n).Date
def VxD (s:Tm) (r:Rl) (n:Int) (Q:Bool->Prop):Prop :=
∃ (J:Int->Prop),((F1 (w8 n r.Wkst).fst r.Wkst=0->J (1:Int))/\(¬F1 (w8 n r.Wkst).fst r.Wkst=0->J (F1 (w8 n r.Wkst).fst r.Wkst)))/\∀ (x:Int),J x->(¬(↑r.Month.length:Int)=0->r.Month.length<=1000000)/\((¬¬((↑r.Month.length:Int)=0 ∨ v8 r.Month (ofS n).Month=true)->r.WeekNo.length<=1000000)/\(¬¬((↑r.Month.length:Int)=0 ∨ v8 r.Month (ofS n).Month=true)->(-10000000:Int)<=(w8 n r.Wkst).snd)/\(¬¬((↑r.Month.length:Int)=0 ∨ v8 r.Month (ofS n).Month=true)->(w8 n r.Wkst).snd<=10000000)/\(¬¬((↑r.Month.length:Int)=0 ∨ v8 r.Month (ofS n).Month=true)->(-10000000:Int)<=x)/\(¬¬((↑r.Month.length:Int)=0 ∨ v8 r.Month (ofS n).Month=true)->x<=10000000))/\((¬(¬((↑r.Month.length:Int)=0 ∨ v8 r.Month (ofS n).Month=true) ∨ ¬B9 r.WeekNo (w8 n r.Wkst).snd x=true)->r.YearDay.length<=1000000)/\(¬(¬((↑r.Month.length:Int)=0 ∨ v8 r.Month (ofS n).Month=true) ∨ ¬B9 r.WeekNo (w8 n r.Wkst).snd x=true)->(-10000000:Int)<=ydS (a67 n))/\(¬(¬((↑r.Month.length:Int)=0 ∨ v8 r.Month (ofS n).Month=true) ∨ ¬B9 r.WeekNo (w8 n r.Wkst).snd x=true)->ydS (a67 n)<=10000000)/\(¬(¬((↑r.Month.length:Int)=0 ∨ v8 r.Month (ofS n).Month=true) ∨ ¬B9 r.WeekNo (w8 n r.Wkst).snd x=true)->(-10000000:Int)<=ydS (Dy.mk (ofS n).Year (12:Int) (31:Int)))/\(¬(¬((↑r.Month.length:Int)=0 ∨ v8 r.Month (ofS n).Month=true) ∨ ¬B9 r.WeekNo (w8 n r.Wkst).snd x=true)->ydS (Dy.mk (ofS n).Year (12:Int) (31:Int))<=10000000))/\((¬((¬((↑r.Month.length:Int)=0 ∨ v8 r.Month (ofS n).Month=true) ∨ ¬B9 r.WeekNo (w8 n r.Wkst).snd x=true) ∨ ¬B9 r.YearDay (ydS (a67 n)) (ydS (Dy.mk (ofS n).Year (12:Int) (31:Int)))=true)->r.MonthDay.length<=1000000)/\(¬((¬((↑r.Month.length:Int)=0 ∨ v8 r.Month (ofS n).Month=true) ∨ ¬B9 r.WeekNo (w8 n r.Wkst).snd x=true) ∨ ¬B9 r.YearDay (ydS (a67 n)) (ydS (Dy.mk (ofS n).Year (12:Int) (31:Int)))=true)->(-10000000:Int)<=(ofS n).Date)/\(¬((¬((↑r.Month.length:Int)=0 ∨ v8 r.Month (ofS n).Month=true) ∨ ¬B9 r.WeekNo (w8 n r.Wkst).snd x=true) ∨ ¬B9 r.YearDay (ydS (a67 n)) (ydS (Dy.mk (ofS n).Year (12:Int) (31:Int)))=true)->(ofS n).Date<=10000000)/\(¬((¬((↑r.Month.length:Int)=0 ∨ v8 r.Month (ofS n).Month=true) ∨ ¬B9 r.WeekNo (w8 n r.Wkst).snd x=true) ∨ ¬B9 r.YearDay (ydS (a67 n)) (ydS (Dy.mk (ofS n).Year (12:Int) (31:Int)))=true)->(-10000000:Int)<=u6 (ofS n).Year (ofS n).Month)/\(¬((¬((↑r.Month.length:Int)=0 ∨ v8 r.Month (ofS n).Month=true) ∨ ¬B9 r.WeekNo (w8 n r.Wkst).snd x=true) ∨ ¬B9 r.YearDay (ydS (a67 n)) (ydS (Dy.mk (ofS n).Year (12:Int) (31:Int)))=true)->u6 (ofS n).Year (ofS n).Month<=10000000))/\(((¬((↑r.Month.length:Int)=0 ∨ v8 r.Month (ofS n).Month=true) ∨ ¬B9 r.WeekNo (w8 n r.Wkst).snd x=true) ∨ ¬B9 r.YearDay (ydS (a67 n)) (ydS (Dy.mk (ofS n).Year (12:Int) (31:Int)))=true) ∨ ¬B9 r.MonthDay (ofS n).Date (u6 (ofS n).Year (ofS n).Month)=true->Q false)/\(¬(((¬((↑r.Month.length:Int)=0 ∨ v8 r.Month (ofS n).Month=true) ∨ ¬B9 r.WeekNo (w8 n r.Wkst).snd x=true) ∨ ¬B9 r.YearDay (ydS (a67 n)) (ydS (Dy.mk (ofS n).Year (12:Int) (31:Int)))=true) ∨ ¬B9 r.MonthDay (ofS n).Date (u6 (ofS n).Year (ofS n).Month)=true)->((0:Int)<(↑r.Days.length:Int)->∃ (J:Int->Int->Prop),((r.Freq=1 ∨ (0:Int)<(↑r.Month.length:Int)->J (ofS n).Date (u6 (ofS n).Year (ofS n).Month))/\(¬(r.Freq=1 ∨ (0:Int)<(↑r.Month.length:Int))->J (ydS (a67 n)) (ydS (Dy.mk (ofS n).Year (12:Int) (31:Int)))))/\∀ (x x_1:Int),J x x_1->∃ (I:Int->Prop),∃ (m:Int->Nat),I (0:Int)/\∀ (x_2:Int),I x_2->(x_2<(↑r.Days.length:Int)->(0:Int)<=x_2/\x_2<(↑r.Days.length:Int)/\(b9 (ix r.Days x_2).N->b9 (ix r.Days x_2).Day->((ix r.Days x_2).Day=wdS n/\¬(ix r.Days x_2).N=0->b9 (x-1))/\(((ix r.Days x_2).Day=wdS n/\¬(ix r.Days x_2).N=0->(7:Int)≠0)/\((ix r.Days x_2).Day=wdS n/\¬(ix r.Days x_2).N=0->b9 ((x-1).tdiv (7:Int))))/\((ix r.Days x_2).Day=wdS n/\¬(ix r.Days x_2).N=0->b9 ((1:Int)+(x-1).tdiv (7:Int)))/\((ix r.Days x_2).Day=wdS n/\¬((ix r.Days x_2).N=0 ∨ (ix r.Days x_2).N=(1:Int)+(x-1).tdiv (7:Int))->b9 ((0:Int)-(ix r.Days x_2).N))/\((ix r.Days x_2).Day=wdS n/\¬((ix r.Days x_2).N=0 ∨ (ix r.Days x_2).N=(1:Int)+(x-1).tdiv (7:Int))->b9 (x_1-x))/\(((ix r.Days x_2).Day=wdS n/\¬((ix r.Days x_2).N=0 ∨ (ix r.Days x_2).N=(1:Int)+(x-1).tdiv (7:Int))->(7:Int)≠0)/\((ix r.Days x_2).Day=wdS n/\¬((ix r.Days x_2).N=0 ∨ (ix r.Days x_2).N=(1:Int)+(x-1).tdiv (7:Int))->b9 ((x_1-x).tdiv (7:Int))))/\((ix r.Days x_2).Day=wdS n/\¬((ix r.Days x_2).N=0 ∨ (ix r.Days x_2).N=(1:Int)+(x-1).tdiv (7:Int))->b9 ((1:Int)+(x_1-x).tdiv (7:Int)))/\((ix r.Days x_2).Day=wdS n/\(((ix r.Days x_2).N=0 ∨ (ix r.Days x_2).N=(1:Int)+(x-1).tdiv (7:Int)) ∨ (0:Int)-(ix r.Days x_2).N=(1:Int)+(x_1-x).tdiv (7:Int))->Q true)/\(¬((ix r.Days x_2).Day=wdS n/\(((ix r.Days x_2).N=0 ∨ (ix r.Days x_2).N=(1:Int)+(x-1).tdiv (7:Int)) ∨ (0:Int)-(ix r.Days x_2).N=(1:Int)+(x_1-x).tdiv (7:Int)))->b9 (x_2+1)/\I (x_2+1)/\m (x_2+1)<m x_2)))/\(¬x_2<(↑r.Days.length:Int)->Q false))/\(¬(0:Int)<(↑r.Days.length:Int)->((0:Int)<(↑r.YearDay.length:Int) ∨ (0:Int)<(↑r.MonthDay.length:Int)->Q true)/\(¬((0:Int)<(↑r.YearDay.length:Int) ∨ (0:Int)<(↑r.MonthDay.length:Int))->((0:Int)<(↑r.WeekNo.length:Int)->Q (decide (wdS n=wdS (m6 (Dy.mk s.Day.Year s.Day.Month s.Day.Date)))))/\(¬(0:Int)<(↑r.WeekNo.length:Int)->(r.Freq<=1/\(ofS n).Date≠s.Day.Date ∨ (r.Freq=0/\(↑r.Month.length:Int)=0)/\(ofS n).Month≠s.Day.Month->Q false)/\(¬(r.Freq<=1/\(ofS n).Date≠s.Day.Date ∨ (r.Freq=0/\(↑r.Month.length:Int)=0)/\(ofS n).Month≠s.Day.Month)->Q (decide (r.Freq≠2 ∨ wdS n=wdS (m6 (Dy.mk s.Day.Year s.Day.Month s.Day.Date)))))))))
theorem d6k {s:Tm} {r:Rl} {n:Int} {Q:Bool->Prop}:@Eq Prop (VxD s r n Q) (i7 (E:=NxI) (j7 NxI H0 c97 2) (c97 49) Tryz.f49 [.agg [.int .i64 s.Day.Year,.int .i64 s.Day.Month,.int .i64 s.Day.Date,.int .i64 s.Hour,.int .i64 s.Min,.int .i64 s.Sec,blB s.Bare,blB s.UTC],.agg [.int .i64 r.Freq,.int .i64 r.Interval,.int .i64 r.Count,.sl (N:=U) 25 r.Until,.sl (N:=U) 3 r.Month,.sl (N:=U) 3 r.WeekNo,.sl (N:=U) 3 r.YearDay,.sl (N:=U) 3 r.MonthDay,.sl (N:=U) 60 r.Days,.sl (N:=U) 3 r.Hour,.sl (N:=U) 3 r.Minute,.sl (N:=U) 3 r.Second,.sl (N:=U) 3 r.SetPos,.int .i64 r.Wkst],.int .i64 n] [] [] 0 (n5 NxI [.bool] Q)):=by kernel_rfl
theorem d7e {s:Tm} {r:Rl} {n:Int} {Q:Bool->Prop} (h:VxD s r n Q):i7 (E:=NxI) (j7 NxI H0 c97 2) (c97 49) Tryz.f49 [.agg [.int .i64 s.Day.Year,.int .i64 s.Day.Month,.int .i64 s.Day.Date,.int .i64 s.Hour,.int .i64 s.Min,.int .i64 s.Sec,blB s.Bare,blB s.UTC],.agg [.int .i64 r.Freq,.int .i64 r.Interval,.int .i64 r.Count,.sl (N:=U) 25 r.Until,.sl (N:=U) 3 r.Month,.sl (N:=U) 3 r.WeekNo,.sl (N:=U) 3 r.YearDay,.sl (N:=U) 3 r.MonthDay,.sl (N:=U) 60 r.Days,.sl (N:=U) 3 r.Hour,.sl (N:=U) 3 r.Minute,.sl (N:=U) 3 r.Second,.sl (N:=U) 3 r.SetPos,.int .i64 r.Wkst],.int .i64 n] [] [] 0 (n5 NxI [.bool] Q):=by rw [<- d6k]; exact h
set_option maxHeartbeats 2000000 in
theorem pxD (s:Tm) (r:Rl) (n:Int) (hfw:A5 r=true) (n0:1<=n) (n1:n<=3652059) (hR:A6 r=true):VxD s r n (fun y0=>y0=J0 s r (m6 s.Day) n):=by
 unfold VxD a67
 rw [show Dy.mk (ofS n).Year (ofS n).Month (ofS n).Date=ofS n from rfl,show Dy.mk s.Day.Year s.Day.Month s.Day.Date=s.Day from rfl]
 obtain ⟨wmo,wwn,wyd,wmd,wdy,who,wmi,wse,wsp,wti⟩:=Q7 hfw
 refine ⟨fun x=>x=O3 (w8 n r.Wkst).1 r.Wkst,⟨fun h=>by unfold O3; rw [if_pos h],fun h=>by unfold O3; rw [if_neg h]⟩,?_⟩
 rintro _ rfl
 have k1:=d4e n r.Wkst
 have k2:=c5b (w8 n r.Wkst).1 r.Wkst
 have k3:=a8p (ofS n)
 have k4:=a8p ⟨(ofS n).Year,12,31⟩
 have k5:=a9o (ofS n).Year (ofS n).Month
 obtain ⟨_,_,k6⟩:=a8l n
 refine ⟨fun _=>by omega,⟨fun _=>by omega,fun _=>by omega,fun _=>by omega,fun _=>by omega,fun _=>by omega⟩,⟨fun _=>by omega,fun _=>by omega,fun _=>by omega,fun _=>by omega,fun _=>by omega⟩,⟨fun _=>by omega,fun _=>by omega,fun _=>by omega,fun _=>by omega,fun _=>by omega⟩,fun hn=>?_,fun hn=>?_⟩
 . refine Eq.symm (Bool.eq_false_iff.2 fun hb=>?_)
   unfold J0 at hb
   simp only [Bool.and_eq_true,Bool.or_eq_true,decide_eq_true_eq] at hb
   obtain ⟨⟨⟨a,b⟩,c,d⟩,_⟩:=hb
   rcases hn with ((hn | hn) | hn) | hn
   . exact hn a
   . exact hn b
   . exact hn c
   . exact hn d
 have hA:J0 s r (m6 s.Day) n=(if 0<(r.Days.length:Int) then wdB r n else if 0<(r.YearDay.length:Int) ∨ 0<(r.MonthDay.length:Int) then true else decide (O5 s r (m6 s.Day) n)):=by
  simp only [not_or,Classical.not_not] at hn
  obtain ⟨⟨⟨a,b⟩,c⟩,d⟩:=hn
  unfold J0
  rw [b,c,d,show (decide ((r.Month.length:Int)=0) || v8 r.Month (ofS n).Month)=true from by rw [Bool.or_eq_true,decide_eq_true_eq]; exact Classical.byContradiction fun hh=>a ⟨fun x=>hh (.inl x),fun x=>hh (.inr x)⟩]
  rfl
 rw [hA]
 clear hn hA
 refine ⟨fun h=>?_,fun h=>?_⟩
 . rw [if_pos h]
   refine ⟨fun x y=>x=atW r n/\y=Z6 r n,⟨fun h=>by unfold atW Z6; rw [if_pos h,if_pos h]; exact ⟨rfl,rfl⟩,fun h=>by unfold atW Z6; rw [if_neg h,if_neg h]; exact ⟨rfl,rfl⟩⟩,?_⟩
   rintro _ _ ⟨rfl,rfl⟩
   obtain ⟨g1,g2,g3,g4⟩:=c39 r n
   obtain ⟨g5,g6⟩:=d4c (r:=r) n0 n1
   have e1:(atW r n-1).tdiv 7=(atW r n-1) / 7:=Int.tdiv_eq_ediv_of_nonneg (by omega)
   have e2:(Z6 r n-atW r n).tdiv 7=(Z6 r n-atW r n) / 7:=Int.tdiv_eq_ediv_of_nonneg (by omega)
   have z:∀ n:Int,0-n=-n:=fun n=>by omega
   simp only [e1,e2,z]
   refine ⟨fun i=>0<=i/\∀ j:Int,0<=j->j<i->¬ WdP r n (ix r.Days j),fun i=>((r.Days.length:Int)-i).toNat,⟨by omega,fun j a b=>absurd b (by omega)⟩,?_⟩
   rintro i ⟨i0,hi⟩
   refine ⟨fun h=>⟨i0,h,fun _ _=>?_⟩,fun h=>c85 fun j a b=>hi j a (by omega)⟩
   obtain ⟨d1,d2,d3,d4⟩:=(n7.1 hR).days.ok i i0 h
   have hm:0<=D4 r/\D4 r<=53:=by
    unfold D4
    split
    . omega
    . split <;> omega
   refine ⟨fun _=>⟨by omega,by omega⟩,⟨fun _=>by decide,fun _=>⟨by omega,by omega⟩⟩,fun _=>⟨by omega,by omega⟩,fun _=>⟨by omega,by omega⟩,fun _=>⟨by omega,by omega⟩,⟨fun _=>by decide,fun _=>⟨by omega,by omega⟩⟩,fun _=>⟨by omega,by omega⟩,fun hy=>b94 i0 h hy,fun hy=>⟨⟨by omega,by omega⟩,⟨by omega,fun j a b=>?_⟩,by dsimp only; omega⟩⟩
   by_cases e:j=i
   . subst e; exact hy
   . exact hi j a (by omega)
 . rw [if_neg h]
   refine ⟨fun h2=>by rw [if_pos h2],fun h2=>?_⟩
   rw [if_neg h2]
   unfold O5
   refine ⟨fun h3=>?_,fun h3=>⟨fun h4=>?_,fun h4=>?_⟩⟩
   . exact decide_eq_decide.2 (by rw [if_pos h3])
   . exact (decide_eq_false (by rw [if_neg h3]; exact fun hh=>hh.1 h4)).symm
   . exact decide_eq_decide.2 (by rw [if_neg h3]; exact ⟨fun hh=>⟨h4,hh⟩,fun hh=>hh.2⟩)
noncomputable def e81 (s:Tm) (r:Rl) (n:Int):Q1 U:=⟨[A5 r=true,1<=n,n<=3652059,A6 r=true],[],blB (J0 s r (m6 s.Day) n)⟩
noncomputable def cxD (a:List (SV U)):Option (Q1 U):=match a with | [.agg l_s,.agg l_r,.int .i64 n]=>(y25.bk (.agg l_s)).bind fun s=>(y30.bk (.agg l_r)).bind fun r=>some (e81 s r n) | _=>none
theorem d4p (args:List (SV U)) (q:Q1 U) (h:cxD args=some q) (ho:m8 q.ob):l8 NxI 49 args ⟨q.ob,q.hy,q.v,[]⟩:=by
 unfold cxD at h
 split at h
 . rename_i l_s l_r n
   obtain ⟨s,hb_s,h⟩:=Option.bind_eq_some_iff.1 h
   obtain ⟨r,hb_r,h⟩:=Option.bind_eq_some_iff.1 h
   cases h
   refine l8.conv (E:=NxI) (args':=[.agg [.int .i64 s.Day.Year,.int .i64 s.Day.Month,.int .i64 s.Day.Date,.int .i64 s.Hour,.int .i64 s.Min,.int .i64 s.Sec,blB s.Bare,blB s.UTC],.agg [.int .i64 r.Freq,.int .i64 r.Interval,.int .i64 r.Count,.sl 25 r.Until,.sl 3 r.Month,.sl 3 r.WeekNo,.sl 3 r.YearDay,.sl 3 r.MonthDay,.sl 60 r.Days,.sl 3 r.Hour,.sl 3 r.Minute,.sl 3 r.Second,.sl 3 r.SetPos,.int .i64 r.Wkst],.int .i64 n]) (s8 b7j (j8 b7j p9 c97 2) Tryz.func49 (k:=.bool) trivial (d7e (pxD s r n ho.1 ho.2.1 ho.2.2.1 ho.2.2.2.1)) 0) fun D w vs hr=>u7 [.agg l_s,.agg l_r,.int .i64 n] [.agg [.int .i64 s.Day.Year,.int .i64 s.Day.Month,.int .i64 s.Day.Date,.int .i64 s.Hour,.int .i64 s.Min,.int .i64 s.Sec,blB s.Bare,blB s.UTC],.agg [.int .i64 r.Freq,.int .i64 r.Interval,.int .i64 r.Count,.sl (N:=U) 25 r.Until,.sl (N:=U) 3 r.Month,.sl (N:=U) 3 r.WeekNo,.sl (N:=U) 3 r.YearDay,.sl (N:=U) 3 r.MonthDay,.sl (N:=U) 60 r.Days,.sl (N:=U) 3 r.Hour,.sl (N:=U) 3 r.Minute,.sl (N:=U) 3 r.Second,.sl (N:=U) 3 r.SetPos,.int .i64 r.Wkst],.int .i64 n] _ ⟨fun _ h=>s7 hb_s h,fun _ h=>w6 hb_r h,fun _ h=>h,trivial⟩ hr
 . cases h
noncomputable def NxD:Env:=NxI.addL 49 cxD
theorem b82:l5 NxD:=b7j.addL Tryz.call49 d4p
end Go.Proofs.YtdjfeninmbpflaaGreat
end
section
namespace Go.Proofs.YtdjfeninmbpflaaGreat
open Go Go.Wk Go.Wl Go.Rx Go.Re 
attribute [local irreducible] i7
def b5y:Nat->Ann:=fun | 96=>⟨40,fun | 5=>some ⟨[1,2],[.slot 5 (.acc 3),.slot 6 (.int .i64)]⟩ | _=>none,fun _=>none⟩ | _=>⟨0,fun _=>none,fun _=>none⟩
def VxP (r:Rl) (l:List Int) (Q:List Int->Prop):Prop :=
((↑r.SetPos.length:Int)=0->Q l)/\(¬(↑r.SetPos.length:Int)=0->∃ (I:List Int->Int->Prop),∃ (m:List Int->Int->Nat),I [] (0:Int)/\∀ (x:List Int) (x_1:Int),I x x_1->(x_1<(↑l.length:Int)->b9 (x_1+1)/\r.SetPos.length<=1000000/\(¬v8 r.SetPos (x_1+1)=true->b9 (x_1-(↑l.length:Int)))/\(¬v8 r.SetPos (x_1+1)=true->r.SetPos.length<=1000000)/\(v8 r.SetPos (x_1+1)=true ∨ v8 r.SetPos (x_1-(↑l.length:Int))=true->(0:Int)<=x_1/\x_1<(↑l.length:Int)/\(b9 (ix l x_1)->(x.length+[ix l x_1].length) * (some (8:Nat)).getD (0:Nat)<=140737488355328/\b9 (x_1+1)/\I (x++[ix l x_1]) (x_1+1)/\m (x++[ix l x_1]) (x_1+1)<m x x_1))/\(¬(v8 r.SetPos (x_1+1)=true ∨ v8 r.SetPos (x_1-(↑l.length:Int))=true)->b9 (x_1+1)/\I x (x_1+1)/\m x (x_1+1)<m x x_1))/\(¬x_1<(↑l.length:Int)->Q x))
def WxP (r:Rl) (l:List Int) (Q:List Int->Prop):Prop:=i7 (E:=NxD) (j7 NxD H0 b5y 2) (b5y 96) Tryz.f96 [.agg [.int .i64 r.Freq,.int .i64 r.Interval,.int .i64 r.Count,.sl (N:=U) 25 r.Until,.sl (N:=U) 3 r.Month,.sl (N:=U) 3 r.WeekNo,.sl (N:=U) 3 r.YearDay,.sl (N:=U) 3 r.MonthDay,.sl (N:=U) 60 r.Days,.sl (N:=U) 3 r.Hour,.sl (N:=U) 3 r.Minute,.sl (N:=U) 3 r.Second,.sl (N:=U) 3 r.SetPos,.int .i64 r.Wkst],.sl (N:=U) 3 l] [] [] 0 (c8j NxD 1 [.sl 3] Q)
attribute [local irreducible] WxP HZ
theorem e04 {r:Rl} {l:List Int} {Q:List Int->Prop}:VxP r l Q=WxP r l Q:=by kernel_rfl
theorem d9j {r:Rl} {l:List Int} {Q:List Int->Prop} (h:VxP r l Q):WxP r l Q:=by rw [<- e04]; exact h
theorem pxP (r:Rl) (l:List Int) (hfw:A5 r=true) (hl:l.length<=400000000000):VxP r l (fun y0=>y0=u4 r l):=by
 unfold VxP u4
 obtain ⟨wmo,wwn,wyd,wmd,wdy,who,wmi,wse,wsp,wti⟩:=Q7 hfw
 refine ⟨fun h=>by rw [if_pos h],fun h=>?_⟩
 rw [if_neg h]
 refine ⟨fun x i=>R1 r.SetPos l x i,fun _ i=>((l.length:Int)-i).toNat,R1.init,?_⟩
 rintro x i hI
 have a:=hI.a
 have c:=hI.c
 refine ⟨fun hi=>⟨⟨by omega,by omega⟩,by omega,fun _=>⟨by omega,by omega⟩,fun _=>by omega,fun hp=>⟨a,hi,fun _=>⟨?_,⟨by omega,by omega⟩,hI.yes hi hp,by dsimp only; omega⟩⟩,fun hp=>⟨⟨by omega,by omega⟩,hI.no hi hp,by dsimp only; omega⟩⟩,fun hi=>hI.fin hi⟩
 show (x.length+1) * 8<=140737488355328
 omega
theorem e1n {r:Rl} {l:List Int}:WxP r l (fun y0=>y0=u4 r l)=HZ NxD (j7 NxD H0 b5y 2) (b5y 96) Tryz.f96 [.agg [.int .i64 r.Freq,.int .i64 r.Interval,.int .i64 r.Count,.sl (N:=U) 25 r.Until,.sl (N:=U) 3 r.Month,.sl (N:=U) 3 r.WeekNo,.sl (N:=U) 3 r.YearDay,.sl (N:=U) 3 r.MonthDay,.sl (N:=U) 60 r.Days,.sl (N:=U) 3 r.Hour,.sl (N:=U) 3 r.Minute,.sl (N:=U) 3 r.Second,.sl (N:=U) 3 r.SetPos,.int .i64 r.Wkst],.sl (N:=U) 3 l] 1 [.sl 3] (u4 r l,()):=by kernel_rfl
theorem e46 (r:Rl) (l:List Int) (hfw:A5 r=true) (hl:l.length<=400000000000):HZ NxD (j7 NxD H0 b5y 2) (b5y 96) Tryz.f96 [.agg [.int .i64 r.Freq,.int .i64 r.Interval,.int .i64 r.Count,.sl (N:=U) 25 r.Until,.sl (N:=U) 3 r.Month,.sl (N:=U) 3 r.WeekNo,.sl (N:=U) 3 r.YearDay,.sl (N:=U) 3 r.MonthDay,.sl (N:=U) 60 r.Days,.sl (N:=U) 3 r.Hour,.sl (N:=U) 3 r.Minute,.sl (N:=U) 3 r.Second,.sl (N:=U) 3 r.SetPos,.int .i64 r.Wkst],.sl (N:=U) 3 l] 1 [.sl 3] (u4 r l,()):=by
 rw [<- e1n]
 exact d9j (pxP r l hfw hl)
def d8f (r:Rl) (l:List Int):CR U:=⟨[A5 r=true,List.length (α:=Int) l<=400000000000],[],.sl 3 (u4 r l),[]⟩
theorem d0l (r:Rl) (l:List Int):(⟨[A5 r=true,List.length (α:=Int) l<=400000000000],[],a6w 1 (a7s NxD [.sl 3] (u4 r l,())),[]⟩:CR NxD.N)=d8f r l:=by kernel_rfl
theorem d0h (r:Rl) (l:List Int) (hfw:A5 r=true) (hl:l.length<=400000000000) (nx:Nat) (hp:([.agg [.int .i64 r.Freq,.int .i64 r.Interval,.int .i64 r.Count,.sl (N:=U) 25 r.Until,.sl (N:=U) 3 r.Month,.sl (N:=U) 3 r.WeekNo,.sl (N:=U) 3 r.YearDay,.sl (N:=U) 3 r.MonthDay,.sl (N:=U) 60 r.Days,.sl (N:=U) 3 r.Hour,.sl (N:=U) 3 r.Minute,.sl (N:=U) 3 r.Second,.sl (N:=U) 3 r.SetPos,.int .i64 r.Wkst],.sl (N:=U) 3 l]:List (SV U)).all z8=true):C4 NxD.P NxD.N NxD.T NxD.G 96 [.agg [.int .i64 r.Freq,.int .i64 r.Interval,.int .i64 r.Count,.sl (N:=U) 25 r.Until,.sl (N:=U) 3 r.Month,.sl (N:=U) 3 r.WeekNo,.sl (N:=U) 3 r.YearDay,.sl (N:=U) 3 r.MonthDay,.sl (N:=U) 60 r.Days,.sl (N:=U) 3 r.Hour,.sl (N:=U) 3 r.Minute,.sl (N:=U) 3 r.Second,.sl (N:=U) 3 r.SetPos,.int .i64 r.Wkst],.sl (N:=U) 3 l] nx (d8f r l):=by
 rw [<- d0l]
 exact e66 b82 (j8 b82 p9 b5y 2) Tryz.func96 rfl hp (e46 r l hfw hl)
def cxP (a:List (SV U)) (nx:Nat):Option (CR U):=match a with | [.agg l_r,.sl 3 l]=>(y30.bk (.agg l_r)).bind fun r=>some (d8f r l) | _=>none
theorem d9p (args:List (SV U)) (nx:Nat) (c:CR U) (h:cxP args nx=some c) (hp:args.all z8=true) (ho:m8 c.ob):C4 NxD.P NxD.N NxD.T NxD.G 96 args nx c:=by
 unfold cxP at h
 split at h
 . rename_i l_r l
   obtain ⟨r,hb_r,h⟩:=Option.bind_eq_some_iff.1 h
   cases h
   exact C4.weak (b:=[.agg [.int .i64 r.Freq,.int .i64 r.Interval,.int .i64 r.Count,.sl (N:=U) 25 r.Until,.sl (N:=U) 3 r.Month,.sl (N:=U) 3 r.WeekNo,.sl (N:=U) 3 r.YearDay,.sl (N:=U) 3 r.MonthDay,.sl (N:=U) 60 r.Days,.sl (N:=U) 3 r.Hour,.sl (N:=U) 3 r.Minute,.sl (N:=U) 3 r.Second,.sl (N:=U) 3 r.SetPos,.int .i64 r.Wkst],.sl (N:=U) 3 l]) (d0h r l ho.1 ho.2.1 nx rfl) fun ρ Z w v hr=>u7 [.agg l_r,.sl 3 l] [.agg [.int .i64 r.Freq,.int .i64 r.Interval,.int .i64 r.Count,.sl (N:=U) 25 r.Until,.sl (N:=U) 3 r.Month,.sl (N:=U) 3 r.WeekNo,.sl (N:=U) 3 r.YearDay,.sl (N:=U) 3 r.MonthDay,.sl (N:=U) 60 r.Days,.sl (N:=U) 3 r.Hour,.sl (N:=U) 3 r.Minute,.sl (N:=U) 3 r.Second,.sl (N:=U) 3 r.SetPos,.int .i64 r.Wkst],.sl (N:=U) 3 l] _ ⟨fun _ h=>w6 hb_r h,fun _ h=>h,trivial⟩ hr
 . cases h
noncomputable def NxP:Env:=NxD.addC 96 cxP
theorem b5m:l5 NxP:=b82.addC Tryz.call96 d9p
end Go.Proofs.YtdjfeninmbpflaaGreat
end
section
namespace Go.Proofs.YtdjfeninmbpflaaGreat
open Go Go.Wk Go.Wl Go.Rx Go.Re 
attribute [local irreducible] i7
def c6n:Nat->Ann:=fun | 51=>⟨115,fun | 3=>some ⟨[2,3],[.slot 5 (.acc 3),.slot 6 (.int .i64)]⟩ | 7=>some ⟨[2,3,6],[.slot 5 (.acc 3),.slot 7 (.int .i64)]⟩ | 11=>some ⟨[2,3,6,7],[.slot 5 (.acc 3),.slot 8 (.int .i64)]⟩ | _=>none,fun _=>none⟩ | _=>⟨0,fun _=>none,fun _=>none⟩
def VxC (s:Tm) (r:Rl) (Q:List Int->Prop):Prop :=
∃ (I:List Int->Int->Prop),∃ (m:List Int->Int->Nat),I [] (0:Int)/\∀ (x:List Int) (x_1:Int),I x x_1->(x_1<24->((0:Int)<(↑r.Hour.length:Int)->r.Hour.length<=1000000)/\((0:Int)<(↑r.Hour.length:Int)/\¬v8 r.Hour x_1=true ∨ ((↑r.Hour.length:Int)=0/\r.Freq<=3)/\x_1≠s.Hour->b9 (x_1+1)/\I x (x_1+1)/\m x (x_1+1)<m x x_1)/\(¬((0:Int)<(↑r.Hour.length:Int)/\¬v8 r.Hour x_1=true ∨ ((↑r.Hour.length:Int)=0/\r.Freq<=3)/\x_1≠s.Hour)->∃ (I_1:List Int->Int->Prop),∃ (m_1:List Int->Int->Nat),I_1 x (0:Int)/\∀ (x_2:List Int) (x_3:Int),I_1 x_2 x_3->(x_3<60->((0:Int)<(↑r.Minute.length:Int)->r.Minute.length<=1000000)/\((0:Int)<(↑r.Minute.length:Int)/\¬v8 r.Minute x_3=true ∨ ((↑r.Minute.length:Int)=0/\r.Freq<=4)/\x_3≠s.Min->b9 (x_3+1)/\I_1 x_2 (x_3+1)/\m_1 x_2 (x_3+1)<m_1 x_2 x_3)/\(¬((0:Int)<(↑r.Minute.length:Int)/\¬v8 r.Minute x_3=true ∨ ((↑r.Minute.length:Int)=0/\r.Freq<=4)/\x_3≠s.Min)->∃ (I:List Int->Int->Prop),∃ (m:List Int->Int->Nat),I x_2 (0:Int)/\∀ (x:List Int) (x_4:Int),I x x_4->(x_4<60->((0:Int)<(↑r.Second.length:Int)->r.Second.length<=1000000)/\((0:Int)<(↑r.Second.length:Int)/\v8 r.Second x_4=true ∨ (↑r.Second.length:Int)=0/\((5:Int)<r.Freq ∨ x_4=s.Sec)->b9 ((3600:Int) * x_1)/\b9 ((60:Int) * x_3)/\b9 ((3600:Int) * x_1+60 * x_3)/\b9 ((3600:Int) * x_1+60 * x_3+x_4)/\(x.length+[(3600:Int) * x_1+60 * x_3+x_4].length) * (some (8:Nat)).getD (0:Nat)<=140737488355328/\b9 (x_4+1)/\I (x++[(3600:Int) * x_1+60 * x_3+x_4]) (x_4+1)/\m (x++[(3600:Int) * x_1+60 * x_3+x_4]) (x_4+1)<m x x_4)/\(¬((0:Int)<(↑r.Second.length:Int)/\v8 r.Second x_4=true ∨ (↑r.Second.length:Int)=0/\((5:Int)<r.Freq ∨ x_4=s.Sec))->b9 (x_4+1)/\I x (x_4+1)/\m x (x_4+1)<m x x_4))/\(¬x_4<60->b9 (x_3+1)/\I_1 x (x_3+1)/\m_1 x (x_3+1)<m_1 x_2 x_3)))/\(¬x_3<60->b9 (x_1+1)/\I x_2 (x_1+1)/\m x_2 (x_1+1)<m x x_1)))/\(¬x_1<24->Q x)
theorem e0q {s:Tm} {r:Rl} {Q:List Int->Prop}:@Eq Prop (VxC s r Q) (i7 (E:=NxP) (j7 NxP H0 c6n 2) (c6n 51) Tryz.f51 [.agg [.int .i64 s.Day.Year,.int .i64 s.Day.Month,.int .i64 s.Day.Date,.int .i64 s.Hour,.int .i64 s.Min,.int .i64 s.Sec,blB s.Bare,blB s.UTC],.agg [.int .i64 r.Freq,.int .i64 r.Interval,.int .i64 r.Count,.sl (N:=U) 25 r.Until,.sl (N:=U) 3 r.Month,.sl (N:=U) 3 r.WeekNo,.sl (N:=U) 3 r.YearDay,.sl (N:=U) 3 r.MonthDay,.sl (N:=U) 60 r.Days,.sl (N:=U) 3 r.Hour,.sl (N:=U) 3 r.Minute,.sl (N:=U) 3 r.Second,.sl (N:=U) 3 r.SetPos,.int .i64 r.Wkst]] [] [] 0 (n5 NxP [.acc 3] Q)):=by kernel_rfl
theorem d6p {s:Tm} {r:Rl} {Q:List Int->Prop} (h:VxC s r Q):i7 (E:=NxP) (j7 NxP H0 c6n 2) (c6n 51) Tryz.f51 [.agg [.int .i64 s.Day.Year,.int .i64 s.Day.Month,.int .i64 s.Day.Date,.int .i64 s.Hour,.int .i64 s.Min,.int .i64 s.Sec,blB s.Bare,blB s.UTC],.agg [.int .i64 r.Freq,.int .i64 r.Interval,.int .i64 r.Count,.sl (N:=U) 25 r.Until,.sl (N:=U) 3 r.Month,.sl (N:=U) 3 r.WeekNo,.sl (N:=U) 3 r.YearDay,.sl (N:=U) 3 r.MonthDay,.sl (N:=U) 60 r.Days,.sl (N:=U) 3 r.Hour,.sl (N:=U) 3 r.Minute,.sl (N:=U) 3 r.Second,.sl (N:=U) 3 r.SetPos,.int .i64 r.Wkst]] [] [] 0 (n5 NxP [.acc 3] Q):=by rw [<- e0q]; exact h
set_option maxHeartbeats 2000000 in
theorem pxC (s:Tm) (r:Rl) (hfw:A5 r=true):VxC s r (fun y0=>y0=A3 s r):=by
 unfold VxC
 obtain ⟨wmo,wwn,wyd,wmd,wdy,who,wmi,wse,wsp,wti⟩:=Q7 hfw
 refine ⟨fun x i=>0<=i/\i<=24/\x=R4 s r i.toNat,fun _ i=>(24-i).toNat,⟨by decide,by decide,rfl⟩,?_⟩
 rintro _ i ⟨i0,i1,rfl⟩
 refine ⟨fun hi=>⟨fun _=>by omega,fun hn=>⟨⟨by omega,by omega⟩,⟨by omega,by omega,(e4i i0 (not_not_intro hn)).symm⟩,by dsimp only; omega⟩,fun hy=>?_⟩,fun hi=>by rw [show i=24 by omega]; rfl⟩
 have l1:=a2o s r i.toNat
 refine ⟨fun x j=>0<=j/\j<=60/\x=R4 s r i.toNat++P3 s r i j.toNat,fun _ j=>(60-j).toNat,⟨by decide,by decide,(List.append_nil _).symm⟩,?_⟩
 rintro _ j ⟨j0,j1,rfl⟩
 refine ⟨fun hj=>⟨fun _=>by omega,fun hn=>⟨⟨by omega,by omega⟩,⟨by omega,by omega,by rw [e2g j0 (not_not_intro hn)]⟩,by dsimp only; omega⟩,fun hz=>?_⟩,fun hj=>⟨⟨by omega,by omega⟩,⟨by omega,by omega,by rw [d02 i0 hy,show j=60 by omega]; rfl⟩,by dsimp only; omega⟩⟩
 have l2:=a6l s r i j.toNat
 refine ⟨fun x k=>0<=k/\k<=60/\x=R4 s r i.toNat++P3 s r i j.toNat++P5 s r i j k.toNat,fun _ k=>(60-k).toNat,⟨by decide,by decide,(List.append_nil _).symm⟩,?_⟩
 rintro _ k ⟨k0,k1,rfl⟩
 have l3:=a73 s r i j k.toNat
 refine ⟨fun hk=>⟨fun _=>by omega,fun hp=>⟨⟨by omega,by omega⟩,⟨by omega,by omega⟩,⟨by omega,by omega⟩,⟨by omega,by omega⟩,?_,⟨by omega,by omega⟩,⟨by omega,by omega,by rw [d2i k0 hp]; simp only [List.append_assoc]⟩,by dsimp only; omega⟩,fun hp=>⟨⟨by omega,by omega⟩,⟨by omega,by omega,by rw [e3h k0 hp]⟩,by dsimp only; omega⟩⟩,fun hk=>⟨⟨by omega,by omega⟩,⟨by omega,by omega,by rw [d0i j0 hz,show k=60 by omega,List.append_assoc]; rfl⟩,by dsimp only; omega⟩⟩
 show ((R4 s r i.toNat++P3 s r i j.toNat++P5 s r i j k.toNat).length+1) * 8<=140737488355328
 rw [List.length_append,List.length_append]
 omega
def e75 (s:Tm) (r:Rl) (nx:Nat):CR U:=⟨[A5 r=true],[],.acc nx,[.ac 3 (A3 s r)]⟩
def cxC (a:List (SV U)) (nx:Nat):Option (CR U):=match a with | [.agg l_s,.agg l_r]=>(y25.bk (.agg l_s)).bind fun s=>(y30.bk (.agg l_r)).bind fun r=>some (e75 s r nx) | _=>none
theorem d4m (args:List (SV U)) (nx:Nat) (c:CR U) (h:cxC args nx=some c) (hp:args.all z8=true) (ho:m8 c.ob):C4 NxP.P NxP.N NxP.T NxP.G 51 args nx c:=by
 unfold cxC at h
 split at h
 . rename_i l_s l_r
   obtain ⟨s,hb_s,h⟩:=Option.bind_eq_some_iff.1 h
   obtain ⟨r,hb_r,h⟩:=Option.bind_eq_some_iff.1 h
   cases h
   exact C4.weak (b:=[.agg [.int .i64 s.Day.Year,.int .i64 s.Day.Month,.int .i64 s.Day.Date,.int .i64 s.Hour,.int .i64 s.Min,.int .i64 s.Sec,blB s.Bare,blB s.UTC],.agg [.int .i64 r.Freq,.int .i64 r.Interval,.int .i64 r.Count,.sl (N:=U) 25 r.Until,.sl (N:=U) 3 r.Month,.sl (N:=U) 3 r.WeekNo,.sl (N:=U) 3 r.YearDay,.sl (N:=U) 3 r.MonthDay,.sl (N:=U) 60 r.Days,.sl (N:=U) 3 r.Hour,.sl (N:=U) 3 r.Minute,.sl (N:=U) 3 r.Second,.sl (N:=U) 3 r.SetPos,.int .i64 r.Wkst]]) (e0l b5m (j8 b5m p9 c6n 2) Tryz.func51 (k:=.acc 3) rfl (d6p (pxC s r ho.1))) fun ρ Z w v hr=>u7 [.agg l_s,.agg l_r] [.agg [.int .i64 s.Day.Year,.int .i64 s.Day.Month,.int .i64 s.Day.Date,.int .i64 s.Hour,.int .i64 s.Min,.int .i64 s.Sec,blB s.Bare,blB s.UTC],.agg [.int .i64 r.Freq,.int .i64 r.Interval,.int .i64 r.Count,.sl (N:=U) 25 r.Until,.sl (N:=U) 3 r.Month,.sl (N:=U) 3 r.WeekNo,.sl (N:=U) 3 r.YearDay,.sl (N:=U) 3 r.MonthDay,.sl (N:=U) 60 r.Days,.sl (N:=U) 3 r.Hour,.sl (N:=U) 3 r.Minute,.sl (N:=U) 3 r.Second,.sl (N:=U) 3 r.SetPos,.int .i64 r.Wkst]] _ ⟨fun _ h=>s7 hb_s h,fun _ h=>w6 hb_r h,trivial⟩ hr
 . cases h
noncomputable def NxC:Env:=NxP.addC 51 cxC
theorem b67:l5 NxC:=b5m.addC Tryz.call51 d4m
end Go.Proofs.YtdjfeninmbpflaaGreat
end
section
namespace Go.Proofs.YtdjfeninmbpflaaGreat
open Go Go.Wk Go.Wl Go.Rx Go.Re 
attribute [local irreducible] i7
def c3h:Nat->Ann:=fun | 60=>⟨74,fun _=>none,fun _=>none⟩ | _=>⟨0,fun _=>none,fun _=>none⟩
def VxB (s:Tm) (r:Rl) (k:Int) (Q:Int->Prop):Prop :=
((0:Int)<=b8 (etT s)/\b8 (etT s)<=400000000000/\(0:Int)<=r.Wkst/\r.Wkst<=6)/\b9 (k * r.Interval)/\b9 (s4 (etR r) (b8 (etT s))+k * r.Interval)/\(r.Freq=0->(m6 (Dy.mk (s4 (etR r) (b8 (etT s))+k * r.Interval) (1:Int) (1:Int))<1/\r.Freq<2 ∨ (3652059:Int)<m6 (Dy.mk (s4 (etR r) (b8 (etT s))+k * r.Interval) (1:Int) (1:Int))->Q (315537897600:Int))/\(¬(m6 (Dy.mk (s4 (etR r) (b8 (etT s))+k * r.Interval) (1:Int) (1:Int))<1/\r.Freq<2 ∨ (3652059:Int)<m6 (Dy.mk (s4 (etR r) (b8 (etT s))+k * r.Interval) (1:Int) (1:Int)))->b9 (m6 (Dy.mk (s4 (etR r) (b8 (etT s))+k * r.Interval) (1:Int) (1:Int))-1)/\b9 ((86400:Int) * (m6 (Dy.mk (s4 (etR r) (b8 (etT s))+k * r.Interval) (1:Int) (1:Int))-1))/\Q (E5 ((86400:Int) * (m6 (Dy.mk (s4 (etR r) (b8 (etT s))+k * r.Interval) (1:Int) (1:Int))-1)))))/\(¬r.Freq=0->(r.Freq=1->b9 (s4 (etR r) (b8 (etT s))+k * r.Interval-1)/\(12:Int)≠0/\b9 ((s4 (etR r) (b8 (etT s))+k * r.Interval-1).tdiv (12:Int))/\b9 (s4 (etR r) (b8 (etT s))+k * r.Interval-1)/\(12:Int)≠0/\b9 ((s4 (etR r) (b8 (etT s))+k * r.Interval-1).tmod (12:Int)+1)/\(m6 (Dy.mk ((s4 (etR r) (b8 (etT s))+k * r.Interval-1).tdiv (12:Int)) ((s4 (etR r) (b8 (etT s))+k * r.Interval-1).tmod (12:Int)+1) (1:Int))<1/\r.Freq<2 ∨ (3652059:Int)<m6 (Dy.mk ((s4 (etR r) (b8 (etT s))+k * r.Interval-1).tdiv (12:Int)) ((s4 (etR r) (b8 (etT s))+k * r.Interval-1).tmod (12:Int)+1) (1:Int))->Q (315537897600:Int))/\(¬(m6 (Dy.mk ((s4 (etR r) (b8 (etT s))+k * r.Interval-1).tdiv (12:Int)) ((s4 (etR r) (b8 (etT s))+k * r.Interval-1).tmod (12:Int)+1) (1:Int))<1/\r.Freq<2 ∨ (3652059:Int)<m6 (Dy.mk ((s4 (etR r) (b8 (etT s))+k * r.Interval-1).tdiv (12:Int)) ((s4 (etR r) (b8 (etT s))+k * r.Interval-1).tmod (12:Int)+1) (1:Int)))->b9 (m6 (Dy.mk ((s4 (etR r) (b8 (etT s))+k * r.Interval-1).tdiv (12:Int)) ((s4 (etR r) (b8 (etT s))+k * r.Interval-1).tmod (12:Int)+1) (1:Int))-1)/\b9 ((86400:Int) * (m6 (Dy.mk ((s4 (etR r) (b8 (etT s))+k * r.Interval-1).tdiv (12:Int)) ((s4 (etR r) (b8 (etT s))+k * r.Interval-1).tmod (12:Int)+1) (1:Int))-1))/\Q (E5 ((86400:Int) * (m6 (Dy.mk ((s4 (etR r) (b8 (etT s))+k * r.Interval-1).tdiv (12:Int)) ((s4 (etR r) (b8 (etT s))+k * r.Interval-1).tmod (12:Int)+1) (1:Int))-1)))))/\(¬r.Freq=1->(r.Freq=2->b9 ((7:Int) * (s4 (etR r) (b8 (etT s))+k * r.Interval))/\b9 ((7:Int) * (s4 (etR r) (b8 (etT s))+k * r.Interval)-6)/\b9 ((7:Int) * (s4 (etR r) (b8 (etT s))+k * r.Interval)-6+r.Wkst)/\((7:Int) * (s4 (etR r) (b8 (etT s))+k * r.Interval)-6+r.Wkst<1/\r.Freq<2 ∨ (3652059:Int)<(7:Int) * (s4 (etR r) (b8 (etT s))+k * r.Interval)-6+r.Wkst->Q (315537897600:Int))/\(¬((7:Int) * (s4 (etR r) (b8 (etT s))+k * r.Interval)-6+r.Wkst<1/\r.Freq<2 ∨ (3652059:Int)<(7:Int) * (s4 (etR r) (b8 (etT s))+k * r.Interval)-6+r.Wkst)->b9 ((7:Int) * (s4 (etR r) (b8 (etT s))+k * r.Interval)-6+r.Wkst-1)/\b9 ((86400:Int) * ((7:Int) * (s4 (etR r) (b8 (etT s))+k * r.Interval)-6+r.Wkst-1))/\Q (E5 ((86400:Int) * ((7:Int) * (s4 (etR r) (b8 (etT s))+k * r.Interval)-6+r.Wkst-1)))))/\(¬r.Freq=2->(r.Freq=4->b9 ((3600:Int) * (s4 (etR r) (b8 (etT s))+k * r.Interval))/\Q (E5 ((3600:Int) * (s4 (etR r) (b8 (etT s))+k * r.Interval))))/\(¬r.Freq=4->(r.Freq=5->b9 ((60:Int) * (s4 (etR r) (b8 (etT s))+k * r.Interval))/\Q (E5 ((60:Int) * (s4 (etR r) (b8 (etT s))+k * r.Interval))))/\(¬r.Freq=5->(r.Freq=6->Q (E5 (s4 (etR r) (b8 (etT s))+k * r.Interval)))/\(¬r.Freq=6->(s4 (etR r) (b8 (etT s))+k * r.Interval<1/\r.Freq<2 ∨ (3652059:Int)<s4 (etR r) (b8 (etT s))+k * r.Interval->Q (315537897600:Int))/\(¬(s4 (etR r) (b8 (etT s))+k * r.Interval<1/\r.Freq<2 ∨ (3652059:Int)<s4 (etR r) (b8 (etT s))+k * r.Interval)->b9 (s4 (etR r) (b8 (etT s))+k * r.Interval-1)/\b9 ((86400:Int) * (s4 (etR r) (b8 (etT s))+k * r.Interval-1))/\Q (E5 ((86400:Int) * (s4 (etR r) (b8 (etT s))+k * r.Interval-1))))))))))
theorem e32 {s:Tm} {r:Rl} {k:Int} {Q:Int->Prop}:@Eq Prop (VxB s r k Q) (i7 (E:=NxC) (j7 NxC H0 c3h 2) (c3h 60) Tryz.f60 [.agg [.int .i64 s.Day.Year,.int .i64 s.Day.Month,.int .i64 s.Day.Date,.int .i64 s.Hour,.int .i64 s.Min,.int .i64 s.Sec,blB s.Bare,blB s.UTC],.agg [.int .i64 r.Freq,.int .i64 r.Interval,.int .i64 r.Count,.sl (N:=U) 25 r.Until,.sl (N:=U) 3 r.Month,.sl (N:=U) 3 r.WeekNo,.sl (N:=U) 3 r.YearDay,.sl (N:=U) 3 r.MonthDay,.sl (N:=U) 60 r.Days,.sl (N:=U) 3 r.Hour,.sl (N:=U) 3 r.Minute,.sl (N:=U) 3 r.Second,.sl (N:=U) 3 r.SetPos,.int .i64 r.Wkst],.int .i64 k] [] [] 0 (n5 NxC [.int .i64] Q)):=by kernel_rfl
theorem e21 {s:Tm} {r:Rl} {k:Int} {Q:Int->Prop} (h:VxB s r k Q):i7 (E:=NxC) (j7 NxC H0 c3h 2) (c3h 60) Tryz.f60 [.agg [.int .i64 s.Day.Year,.int .i64 s.Day.Month,.int .i64 s.Day.Date,.int .i64 s.Hour,.int .i64 s.Min,.int .i64 s.Sec,blB s.Bare,blB s.UTC],.agg [.int .i64 r.Freq,.int .i64 r.Interval,.int .i64 r.Count,.sl (N:=U) 25 r.Until,.sl (N:=U) 3 r.Month,.sl (N:=U) 3 r.WeekNo,.sl (N:=U) 3 r.YearDay,.sl (N:=U) 3 r.MonthDay,.sl (N:=U) 60 r.Days,.sl (N:=U) 3 r.Hour,.sl (N:=U) 3 r.Minute,.sl (N:=U) 3 r.Second,.sl (N:=U) 3 r.SetPos,.int .i64 r.Wkst],.int .i64 k] [] [] 0 (n5 NxC [.int .i64] Q):=by rw [<- e32]; exact h
set_option maxHeartbeats 2000000 in
theorem pxB (s:Tm) (r:Rl) (k:Int) (hs:p4 s=true) (hR:A6 r=true) (k0:0<=k) (k1:k<=40000):VxB s r k (fun y0=>y0=Y1 s r k):=by
 unfold VxB Y1
 simp only [Y9,a32,a5g]
 obtain ⟨t0,t1⟩:=w9 hs
 obtain ⟨f0,f1,i0,i1,c0,c1,w0,w1⟩:=(n7.1 hR).head
 obtain ⟨a0,a1,a2⟩:=a0a (r:=r) t0 t1 w0 w1
 obtain ⟨b0,b1⟩:=c6y hR k0 k1
 refine ⟨⟨t0,by omega,w0,w1⟩,⟨by omega,by omega⟩,⟨by omega,by omega⟩,?_⟩
 have h0:0<=s4 r (b8 s)+k * r.Interval:=by omega
 have h1:s4 r (b8 s)+k * r.Interval<=400000000000:=by omega
 have h2:r.Freq=1->13<=s4 r (b8 s)+k * r.Interval:=fun h=>by have:=a2 h; omega
 clear a0 a1 a2 b0 b1
 generalize s4 r (b8 s)+k * r.Interval=i at h0 h1 h2 ⊢
 unfold d9c
 have nb:∀ n:Int,((n<1/\r.Freq<2) ∨ 3652059<n->(315537897600:Int)=nbR r n)/\(¬ ((n<1/\r.Freq<2) ∨ 3652059<n)->E5 (86400 * (n-1))=nbR r n):=fun n=>by
  unfold nbR
  exact ⟨fun h=>by rw [if_pos h],fun h=>by rw [if_neg h]⟩
 refine ⟨fun h=>?_,fun g0=>⟨fun h=>?_,fun g1=>⟨fun h=>⟨⟨by omega,by omega⟩,⟨by omega,by omega⟩,⟨by omega,by omega⟩,?_⟩,fun g2=>⟨fun h=>⟨⟨by omega,by omega⟩,?_⟩,fun g4=>⟨fun h=>⟨⟨by omega,by omega⟩,?_⟩,fun g5=>⟨fun h=>?_,fun g6=>?_⟩⟩⟩⟩⟩⟩
 . have n1:=G1 ⟨i,1,1⟩
   rw [if_pos h]
   exact ⟨(nb _).1,fun hn=>⟨⟨by omega,by omega⟩,⟨by omega,by omega⟩,(nb _).2 hn⟩⟩
 . have g:=h2 h
   have e0:(i-1).tdiv 12=(i-1) / 12:=Int.tdiv_eq_ediv_of_nonneg (by omega)
   have e1:(i-1).tmod 12=(i-1) % 12:=Int.tmod_eq_emod_of_nonneg (by omega)
   have n2:=G1 ⟨(i-1) / 12,(i-1) % 12+1,1⟩
   rw [e0,e1,if_neg g0,if_pos h]
   exact ⟨⟨by omega,by omega⟩,by decide,⟨by omega,by omega⟩,⟨by omega,by omega⟩,by decide,⟨by omega,by omega⟩,(nb _).1,fun hn=>⟨⟨by omega,by omega⟩,⟨by omega,by omega⟩,(nb _).2 hn⟩⟩
 . rw [if_neg g0,if_neg g1,if_pos h]
   exact ⟨(nb _).1,fun hn=>⟨⟨by omega,by omega⟩,⟨by omega,by omega⟩,(nb _).2 hn⟩⟩
 . rw [if_neg g0,if_neg g1,if_neg g2,if_pos h]
 . rw [if_neg g0,if_neg g1,if_neg g2,if_neg g4,if_pos h]
 . rw [if_neg g0,if_neg g1,if_neg g2,if_neg g4,if_neg g5,if_pos h]
 . rw [if_neg g0,if_neg g1,if_neg g2,if_neg g4,if_neg g5,if_neg g6]
   exact ⟨(nb _).1,fun hn=>⟨⟨by omega,by omega⟩,⟨by omega,by omega⟩,(nb _).2 hn⟩⟩
noncomputable def e85 (s:Tm) (r:Rl) (k:Int):Q1 U:=⟨[p4 s=true,A6 r=true,0<=k,k<=40000],[],.int .i64 (Y1 s r k)⟩
noncomputable def cxB (a:List (SV U)):Option (Q1 U):=match a with | [.agg l_s,.agg l_r,.int .i64 k]=>(y25.bk (.agg l_s)).bind fun s=>(y30.bk (.agg l_r)).bind fun r=>some (e85 s r k) | _=>none
theorem e0i (args:List (SV U)) (q:Q1 U) (h:cxB args=some q) (ho:m8 q.ob):l8 NxC 60 args ⟨q.ob,q.hy,q.v,[]⟩:=by
 unfold cxB at h
 split at h
 . rename_i l_s l_r k
   obtain ⟨s,hb_s,h⟩:=Option.bind_eq_some_iff.1 h
   obtain ⟨r,hb_r,h⟩:=Option.bind_eq_some_iff.1 h
   cases h
   refine l8.conv (E:=NxC) (args':=[.agg [.int .i64 s.Day.Year,.int .i64 s.Day.Month,.int .i64 s.Day.Date,.int .i64 s.Hour,.int .i64 s.Min,.int .i64 s.Sec,blB s.Bare,blB s.UTC],.agg [.int .i64 r.Freq,.int .i64 r.Interval,.int .i64 r.Count,.sl 25 r.Until,.sl 3 r.Month,.sl 3 r.WeekNo,.sl 3 r.YearDay,.sl 3 r.MonthDay,.sl 60 r.Days,.sl 3 r.Hour,.sl 3 r.Minute,.sl 3 r.Second,.sl 3 r.SetPos,.int .i64 r.Wkst],.int .i64 k]) (s8 b67 (j8 b67 p9 c3h 2) Tryz.func60 (k:=.int .i64) trivial (e21 (pxB s r k ho.1 ho.2.1 ho.2.2.1 ho.2.2.2.1)) 0) fun D w vs hr=>u7 [.agg l_s,.agg l_r,.int .i64 k] [.agg [.int .i64 s.Day.Year,.int .i64 s.Day.Month,.int .i64 s.Day.Date,.int .i64 s.Hour,.int .i64 s.Min,.int .i64 s.Sec,blB s.Bare,blB s.UTC],.agg [.int .i64 r.Freq,.int .i64 r.Interval,.int .i64 r.Count,.sl (N:=U) 25 r.Until,.sl (N:=U) 3 r.Month,.sl (N:=U) 3 r.WeekNo,.sl (N:=U) 3 r.YearDay,.sl (N:=U) 3 r.MonthDay,.sl (N:=U) 60 r.Days,.sl (N:=U) 3 r.Hour,.sl (N:=U) 3 r.Minute,.sl (N:=U) 3 r.Second,.sl (N:=U) 3 r.SetPos,.int .i64 r.Wkst],.int .i64 k] _ ⟨fun _ h=>s7 hb_s h,fun _ h=>w6 hb_r h,fun _ h=>h,trivial⟩ hr
 . cases h
noncomputable def NxB:Env:=NxC.addL 60 cxB
theorem e3q:l5 NxB:=b67.addL Tryz.call60 e0i
end Go.Proofs.YtdjfeninmbpflaaGreat
end
section
namespace Go.Proofs.YtdjfeninmbpflaaGreat
open Go Go.Wk Go.Wl Go.Rx Go.Re 
noncomputable def a4e:Env:=NxB.addI 61 Tryz.f61
theorem b09:l5 a4e:=e3q.addI Tryz.call61 Tryz.func61
end Go.Proofs.YtdjfeninmbpflaaGreat
end
section
namespace Go.Proofs.YtdjfeninmbpflaaGreat
open Go Go.Wk Go.Wl Go.Rx Go.Re 
attribute [local irreducible] i7
def c7q:Nat->Ann:=fun | 37=>⟨121,fun | 11=>some ⟨[2,4,8,10,11,12],[.slot 13 (.int .i64),.slot 14 (.int .i64),.slot 15 (.acc 3),.slot 16 (.int .i64)]⟩ | _=>none,fun | 10=>some ⟨[2,4,8,10,11,12,13,14],[.slot 15 (.acc 3)]⟩ | 18=>some ⟨[2,4,8,10,11,12,13,15,16,17],[.slot 14 (.int .i64)]⟩ | _=>none⟩ | 61=>⟨170,fun | 41=>some ⟨[4,15,16],[.slot 13 (.acc 3),.slot 14 (.acc 3),.slot 22 (.int .i64)]⟩ | 20=>some ⟨[2,3,4,10,11,12],[.slot 13 (.acc 3),.slot 14 (.acc 3),.slot 15 (.acc 3),.slot 16 (.int .i64),.slot 17 (.int .i64)]⟩ | 24=>some ⟨[2,3,4,10,11,12,17],[.slot 13 (.acc 3),.slot 14 (.acc 3),.slot 15 (.acc 3),.slot 16 (.int .i64),.slot 18 (.int .i64)]⟩ | 32=>some ⟨[2,3,4,10,11,12,15,16,17,18,19,20],[.slot 13 (.acc 3),.slot 14 (.acc 3),.slot 21 (.int .i64)]⟩ | _=>none,fun | 5=>some ⟨[2,3,4,8],[.slot 9 (.int .i64)]⟩ | 8=>some ⟨[2,3,4,8,9],[.slot 10 (.int .i64)]⟩ | 10=>some ⟨[2,3,4,8,9],[.slot 10 (.int .i64)]⟩ | 12=>some ⟨[2,3,4,8,10],[.slot 9 (.int .i64)]⟩ | 15=>some ⟨[2,3,4,8],[.slot 9 (.int .i64),.slot 10 (.int .i64)]⟩ | _=>none⟩ | _=>⟨0,fun _=>none,fun _=>none⟩
def VxA (s:Tm) (r:Rl) (to:Int) (Q:List Int->Bool->Prop):Prop :=
p4 (etT s)=true/\A6 (etR r)=true/\(0:Int)<=40000/\(40000:Int)<=40000/\(Y1 (etT s) (etR r) (40000:Int)<to/\¬(↑r.Until.length:Int)=0->(0:Int)<=0)/\(Y1 (etT s) (etR r) (40000:Int)<to/\¬(↑r.Until.length:Int)=0->(0:Int)<(↑r.Until.length:Int))/\((Y1 (etT s) (etR r) (40000:Int)<to/\¬(↑r.Until.length:Int)=0->b9 (ix r.Until (0:Int)).Day.Year)->(Y1 (etT s) (etR r) (40000:Int)<to/\¬(↑r.Until.length:Int)=0->b9 (ix r.Until (0:Int)).Day.Month)->(Y1 (etT s) (etR r) (40000:Int)<to/\¬(↑r.Until.length:Int)=0->b9 (ix r.Until (0:Int)).Day.Date)->(Y1 (etT s) (etR r) (40000:Int)<to/\¬(↑r.Until.length:Int)=0->b9 (ix r.Until (0:Int)).Hour)->(Y1 (etT s) (etR r) (40000:Int)<to/\¬(↑r.Until.length:Int)=0->b9 (ix r.Until (0:Int)).Min)->(Y1 (etT s) (etR r) (40000:Int)<to/\¬(↑r.Until.length:Int)=0->b9 (ix r.Until (0:Int)).Sec)->b9 (m6 (Dy.mk s.Day.Year (1:Int) (1:Int))-7)/\∃ (J:Int->Prop),((m6 (Dy.mk s.Day.Year (1:Int) (1:Int))-7<1->J (1:Int))/\(¬m6 (Dy.mk s.Day.Year (1:Int) (1:Int))-7<1->J (m6 (Dy.mk s.Day.Year (1:Int) (1:Int))-7)))/\∀ (x:Int),J x->∃ (J:Int->Prop),((r.Freq=0->J (400:Int))/\(¬r.Freq=0->J (8:Int)))/\∀ (x_1:Int),J x_1->∃ (J:Int->Prop),((r.Freq=1->J (40:Int))/\(¬r.Freq=1->J x_1))/\∀ (x_2:Int),J x_2->∃ (J:Int->Prop),(((0:Int)<r.Freq->b9 (m6 (etD s.Day)-45))/\((0:Int)<r.Freq/\x<m6 (etD s.Day)-45->b9 (m6 (etD s.Day)-45)/\J (m6 (etD s.Day)-45))/\(¬((0:Int)<r.Freq/\x<m6 (etD s.Day)-45)->J x))/\∀ (x:Int),J x->∃ (J:Int->Int->Prop),(((3:Int)<=r.Freq->J (m6 (etD s.Day)) (1:Int))/\(¬(3:Int)<=r.Freq->J x x_2))/\∀ (x x_3:Int),J x x_3->A5 (etR r)=true/\(0:Int)<=b8 (etT s)/\b8 (etT s)<=400000000000/\(0:Int)<=r.Wkst/\r.Wkst<=6/\∃ (I:List Int->List Int->List Int->Int->Int->Prop),∃ (m:List Int->List Int->List Int->Int->Int->Nat),I [] [] [] (-1:Int) x/\∀ (x x_4 x_5:List Int) (x_6 x_7:Int),I x x_4 x_5 x_6 x_7->(x_7<=3652059->b9 (x_7-1))/\(x_7<=3652059->b9 ((86400:Int) * (x_7-1)))/\(x_7<=3652059->b9 ((86400:Int) * x_3))/\(x_7<=3652059->b9 (to+86400 * x_3))/\(x_7<=3652059/\(86400:Int) * (x_7-1)<to+86400 * x_3->A5 (etR r)=true/\(1:Int)<=x_7/\x_7<=3652059/\A6 (etR r)=true/\(¬J0 (etT s) (etR r) (m6 (etD s.Day)) x_7=true->b9 (x_7+1)/\I x x_4 x_5 x_6 (x_7+1)/\m x x_4 x_5 x_6 (x_7+1)<m x x_4 x_5 x_6 x_7)/\(¬¬J0 (etT s) (etR r) (m6 (etD s.Day)) x_7=true->∃ (I_1:List Int->List Int->List Int->Int->Int->Prop),∃ (m_1:List Int->List Int->List Int->Int->Int->Nat),I_1 x x_4 x_5 x_6 (0:Int)/\∀ (x_8 x_9 x_10:List Int) (x_11 x_12:Int),I_1 x_8 x_9 x_10 x_11 x_12->(x_12<(↑(A3 (etT s) (etR r)).length:Int)->b9 (x_7-1)/\b9 ((86400:Int) * (x_7-1))/\(0:Int)<=x_12/\x_12<(↑(A3 (etT s) (etR r)).length:Int)/\(b9 (ix (A3 (etT s) (etR r)) x_12)->b9 ((86400:Int) * (x_7-1)+ix (A3 (etT s) (etR r)) x_12)/\(0:Int)<=(86400:Int) * (x_7-1)+ix (A3 (etT s) (etR r)) x_12/\(86400:Int) * (x_7-1)+ix (A3 (etT s) (etR r)) x_12<=400000000000/\(0:Int)<=r.Wkst/\r.Wkst<=6/\b9 (s4 (etR r) ((86400:Int) * (x_7-1)+ix (A3 (etT s) (etR r)) x_12)-s4 (etR r) (b8 (etT s)))/\(¬s4 (etR r) ((86400:Int) * (x_7-1)+ix (A3 (etT s) (etR r)) x_12)-s4 (etR r) (b8 (etT s))<0->r.Interval≠0)/\(s4 (etR r) ((86400:Int) * (x_7-1)+ix (A3 (etT s) (etR r)) x_12)-s4 (etR r) (b8 (etT s))<0 ∨ (s4 (etR r) ((86400:Int) * (x_7-1)+ix (A3 (etT s) (etR r)) x_12)-s4 (etR r) (b8 (etT s))).tmod r.Interval≠0->b9 (x_12+1)/\I_1 x_8 x_9 x_10 x_11 (x_12+1)/\m_1 x_8 x_9 x_10 x_11 (x_12+1)<m_1 x_8 x_9 x_10 x_11 x_12)/\(¬(s4 (etR r) ((86400:Int) * (x_7-1)+ix (A3 (etT s) (etR r)) x_12)-s4 (etR r) (b8 (etT s))<0 ∨ (s4 (etR r) ((86400:Int) * (x_7-1)+ix (A3 (etT s) (etR r)) x_12)-s4 (etR r) (b8 (etT s))).tmod r.Interval≠0)->(s4 (etR r) ((86400:Int) * (x_7-1)+ix (A3 (etT s) (etR r)) x_12)-s4 (etR r) (b8 (etT s))≠x_11->A5 (etR r)=true/\x_10.length<=400000000000/\∃ (I:List Int->List Int->Int->Prop),∃ (m:List Int->List Int->Int->Nat),I x_8 x_9 (0:Int)/\∀ (x x_13:List Int) (x_14:Int),I x x_13 x_14->(x_14<(↑(u4 (etR r) x_10).length:Int)->(0:Int)<=x_14/\x_14<(↑(u4 (etR r) x_10).length:Int)/\(b9 (ix (u4 (etR r) x_10) x_14)->(x.length+[ix (u4 (etR r) x_10) x_14].length) * (some (8:Nat)).getD (0:Nat)<=140737488355328/\r.Interval≠0/\b9 (x_11.tdiv r.Interval)/\(x_13.length+[x_11.tdiv r.Interval].length) * (some (8:Nat)).getD (0:Nat)<=140737488355328/\b9 (x_14+1)/\I (x++[ix (u4 (etR r) x_10) x_14]) (x_13++[x_11.tdiv r.Interval]) (x_14+1)/\m (x++[ix (u4 (etR r) x_10) x_14]) (x_13++[x_11.tdiv r.Interval]) (x_14+1)<m x x_13 x_14))/\(¬x_14<(↑(u4 (etR r) x_10).length:Int)->[(86400:Int) * (x_7-1)+ix (A3 (etT s) (etR r)) x_12].length * (some (8:Nat)).getD (0:Nat)<=140737488355328/\b9 (x_12+1)/\I_1 x x_13 [(86400:Int) * (x_7-1)+ix (A3 (etT s) (etR r)) x_12] (s4 (etR r) ((86400:Int) * (x_7-1)+ix (A3 (etT s) (etR r)) x_12)-s4 (etR r) (b8 (etT s))) (x_12+1)/\m_1 x x_13 [(86400:Int) * (x_7-1)+ix (A3 (etT s) (etR r)) x_12] (s4 (etR r) ((86400:Int) * (x_7-1)+ix (A3 (etT s) (etR r)) x_12)-s4 (etR r) (b8 (etT s))) (x_12+1)<m_1 x_8 x_9 x_10 x_11 x_12))/\(¬s4 (etR r) ((86400:Int) * (x_7-1)+ix (A3 (etT s) (etR r)) x_12)-s4 (etR r) (b8 (etT s))≠x_11->(x_10.length+[(86400:Int) * (x_7-1)+ix (A3 (etT s) (etR r)) x_12].length) * (some (8:Nat)).getD (0:Nat)<=140737488355328/\b9 (x_12+1)/\I_1 x_8 x_9 (x_10++[(86400:Int) * (x_7-1)+ix (A3 (etT s) (etR r)) x_12]) x_11 (x_12+1)/\m_1 x_8 x_9 (x_10++[(86400:Int) * (x_7-1)+ix (A3 (etT s) (etR r)) x_12]) x_11 (x_12+1)<m_1 x_8 x_9 x_10 x_11 x_12))))/\(¬x_12<(↑(A3 (etT s) (etR r)).length:Int)->b9 (x_7+1)/\I x_8 x_9 x_10 x_11 (x_7+1)/\m x_8 x_9 x_10 x_11 (x_7+1)<m x x_4 x_5 x_6 x_7)))/\(¬(x_7<=3652059/\(86400:Int) * (x_7-1)<to+86400 * x_3)->A5 (etR r)=true/\x_5.length<=400000000000/\∃ (I:List Int->List Int->Int->Prop),∃ (m:List Int->List Int->Int->Nat),I x x_4 (0:Int)/\∀ (x x_8:List Int) (x_9:Int),I x x_8 x_9->(x_9<(↑(u4 (etR r) x_5).length:Int)->(0:Int)<=x_9/\x_9<(↑(u4 (etR r) x_5).length:Int)/\(b9 (ix (u4 (etR r) x_5) x_9)->(x.length+[ix (u4 (etR r) x_5) x_9].length) * (some (8:Nat)).getD (0:Nat)<=140737488355328/\r.Interval≠0/\b9 (x_6.tdiv r.Interval)/\(x_8.length+[x_6.tdiv r.Interval].length) * (some (8:Nat)).getD (0:Nat)<=140737488355328/\b9 (x_9+1)/\I (x++[ix (u4 (etR r) x_5) x_9]) (x_8++[x_6.tdiv r.Interval]) (x_9+1)/\m (x++[ix (u4 (etR r) x_5) x_9]) (x_8++[x_6.tdiv r.Interval]) (x_9+1)<m x x_8 x_9))/\(¬x_9<(↑(u4 (etR r) x_5).length:Int)->∃ (J:List Int->Prop),((b8 (etT s)<to->[b8 (etT s)].length * (some (8:Nat)).getD (0:Nat)<=140737488355328/\J [b8 (etT s)])/\(¬b8 (etT s)<to->J []))/\∀ (x_10:List Int),J x_10->∃ (I:Int->Int->List Int->Int->Prop),∃ (m:Int->Int->List Int->Int->Nat),I (1:Int) (1:Int) x_10 (0:Int)/\∀ (x_11 x_12:Int) (x_13:List Int) (x_14:Int),I x_11 x_12 x_13 x_14->(x_14<(↑x.length:Int)->(0:Int)<=x_14/\x_14<(↑x.length:Int)/\(b9 (ix x x_14)->(¬ix x x_14<=b8 (etT s)/\(0:Int)<(↑r.Until.length:Int)->(0:Int)<=0)/\(¬ix x x_14<=b8 (etT s)/\(0:Int)<(↑r.Until.length:Int)->(0:Int)<(↑r.Until.length:Int))/\((¬ix x x_14<=b8 (etT s)/\(0:Int)<(↑r.Until.length:Int)->b9 (ix r.Until (0:Int)).Day.Year)->(¬ix x x_14<=b8 (etT s)/\(0:Int)<(↑r.Until.length:Int)->b9 (ix r.Until (0:Int)).Day.Month)->(¬ix x x_14<=b8 (etT s)/\(0:Int)<(↑r.Until.length:Int)->b9 (ix r.Until (0:Int)).Day.Date)->(¬ix x x_14<=b8 (etT s)/\(0:Int)<(↑r.Until.length:Int)->b9 (ix r.Until (0:Int)).Hour)->(¬ix x x_14<=b8 (etT s)/\(0:Int)<(↑r.Until.length:Int)->b9 (ix r.Until (0:Int)).Min)->(¬ix x x_14<=b8 (etT s)/\(0:Int)<(↑r.Until.length:Int)->b9 (ix r.Until (0:Int)).Sec)->((ix x x_14<=b8 (etT s) ∨ (0:Int)<(↑r.Until.length:Int)/\b8 (etT (ix r.Until (0:Int)))<ix x x_14) ∨ (0:Int)<r.Count/\r.Count<=x_11->b9 (x_14+1)/\I x_11 x_12 x_13 (x_14+1)/\m x_11 x_12 x_13 (x_14+1)<m x_11 x_12 x_13 x_14)/\(¬((ix x x_14<=b8 (etT s) ∨ (0:Int)<(↑r.Until.length:Int)/\b8 (etT (ix r.Until (0:Int)))<ix x x_14) ∨ (0:Int)<r.Count/\r.Count<=x_11)->b9 (x_11+1)/\∃ (J:Int->Prop),((0:Int)<=x_14/\x_14<(↑x_8.length:Int)/\(b9 (ix x_8 x_14)->(ix x_8 x_14<40000->b9 (x_12+1)/\J (x_12+1))/\(¬ix x_8 x_14<40000->J x_12)))/\∀ (x_15:Int),J x_15->(ix x x_14<to->(x_13.length+[ix x x_14].length) * (some (8:Nat)).getD (0:Nat)<=140737488355328/\b9 (x_14+1)/\I (x_11+1) x_15 (x_13++[ix x x_14]) (x_14+1)/\m (x_11+1) x_15 (x_13++[ix x x_14]) (x_14+1)<m x_11 x_12 x_13 x_14)/\(¬ix x x_14<to->b9 (x_14+1)/\I (x_11+1) x_15 x_13 (x_14+1)/\m (x_11+1) x_15 x_13 (x_14+1)<m x_11 x_12 x_13 x_14)))))/\(¬x_14<(↑x.length:Int)->((0:Int)<r.Count/\r.Count<=x_12->Q x_13 false)/\(¬((0:Int)<r.Count/\r.Count<=x_12)->Q x_13 (decide (Y1 (etT s) (etR r) (40000:Int)<to/\((↑r.Until.length:Int)=0 ∨ Y1 (etT s) (etR r) (40000:Int)<=b8 (etT (ix r.Until (0:Int)))))))))))
theorem d6b {s:Tm} {r:Rl} {to:Int} {Q:List Int->Bool->Prop}:@Eq Prop (VxA s r to Q) (i7 (E:=a4e) (j7 a4e H0 c7q 2) (c7q 37) Tryz.f37 [.agg [.int .i64 s.Day.Year,.int .i64 s.Day.Month,.int .i64 s.Day.Date,.int .i64 s.Hour,.int .i64 s.Min,.int .i64 s.Sec,blB s.Bare,blB s.UTC],.agg [.int .i64 r.Freq,.int .i64 r.Interval,.int .i64 r.Count,.sl (N:=U) 25 r.Until,.sl (N:=U) 3 r.Month,.sl (N:=U) 3 r.WeekNo,.sl (N:=U) 3 r.YearDay,.sl (N:=U) 3 r.MonthDay,.sl (N:=U) 60 r.Days,.sl (N:=U) 3 r.Hour,.sl (N:=U) 3 r.Minute,.sl (N:=U) 3 r.Second,.sl (N:=U) 3 r.SetPos,.int .i64 r.Wkst],.int .i64 to] [] [] 0 (n5 a4e [.acc 3,.bool] Q)):=by kernel_rfl
theorem e24 {s:Tm} {r:Rl} {to:Int} {Q:List Int->Bool->Prop} (h:VxA s r to Q):i7 (E:=a4e) (j7 a4e H0 c7q 2) (c7q 37) Tryz.f37 [.agg [.int .i64 s.Day.Year,.int .i64 s.Day.Month,.int .i64 s.Day.Date,.int .i64 s.Hour,.int .i64 s.Min,.int .i64 s.Sec,blB s.Bare,blB s.UTC],.agg [.int .i64 r.Freq,.int .i64 r.Interval,.int .i64 r.Count,.sl (N:=U) 25 r.Until,.sl (N:=U) 3 r.Month,.sl (N:=U) 3 r.WeekNo,.sl (N:=U) 3 r.YearDay,.sl (N:=U) 3 r.MonthDay,.sl (N:=U) 60 r.Days,.sl (N:=U) 3 r.Hour,.sl (N:=U) 3 r.Minute,.sl (N:=U) 3 r.Second,.sl (N:=U) 3 r.SetPos,.int .i64 r.Wkst],.int .i64 to] [] [] 0 (n5 a4e [.acc 3,.bool] Q):=by rw [<- d6b]; exact h
set_option maxHeartbeats 2000000 in
theorem pxA (s:Tm) (r:Rl) (to:Int) (hfw:A5 r=true) (hft:C6 s r=true) (hto:0<=to) (hto1:to<=400000000000):VxA s r to (fun y0 y1=>y0=(allS s r to).1/\y1=(allS s r to).2):=by
 unfold VxA
 simp only [Y9,a32,a5g]
 have hF:s9 s r:=G6.1 hft
 have hR:=hF.rr
 obtain ⟨s0,s1⟩:=w9 hF.rt
 obtain ⟨f0,f1,i0,i1,c0,c1,w0,w1⟩:=(n7.1 hR).head
 have nY:=G1 ⟨s.Day.Year,1,1⟩
 have nS:=G1 s.Day
 have nP:1<=m6 s.Day:=d2m hF.rt
 have cl:=b9t s r
 refine ⟨hF.rt,hR,by decide,by decide,fun _=>by decide,fun h=>by omega,fun _ _ _ _ _ _=>?_⟩
 refine ⟨by omega,fun x=>x=(if m6 ⟨s.Day.Year,1,1⟩-7<1 then 1 else m6 ⟨s.Day.Year,1,1⟩-7),⟨fun h=>by rw [if_pos h],fun h=>by rw [if_neg h]⟩,fun y hy=>?_⟩
 refine ⟨fun x=>x=(if r.Freq=0 then 400 else 8),⟨fun h=>by rw [if_pos h],fun h=>by rw [if_neg h]⟩,fun d hd=>?_⟩
 refine ⟨fun x=>x=(if r.Freq=1 then 40 else d),⟨fun h=>by rw [if_pos h],fun h=>by rw [if_neg h]⟩,fun e he=>?_⟩
 refine ⟨fun x=>x=(if 0<r.Freq/\y<m6 s.Day-45 then m6 s.Day-45 else y),⟨fun _=>by omega,fun h=>⟨by omega,by rw [if_pos h]⟩,fun h=>by rw [if_neg h]⟩,fun z hz=>?_⟩
 refine ⟨fun a b=>a=G5 s r/\b=a2m r,⟨fun h=>⟨by unfold G5; dsimp only; rw [if_pos h],by unfold a2m; rw [if_pos h]⟩,fun h=>⟨by unfold G5; dsimp only; rw [if_neg h,hz,hy],by unfold a2m; rw [if_neg h,he,hd]⟩⟩,?_⟩
 rintro A D ⟨hA,hD⟩
 have hA1:1<=A/\A<=3652059:=by rw [hA]; exact b9b nY nS nP
 have hD1:1<=D/\D<=400:=by rw [hD]; unfold a2m; split <;> (try split) <;> (try split) <;> omega
 refine ⟨hfw,by omega,by omega,w0,w1,fun T C run now n=>WhI s r to A D ⟨T,C,run,now⟩ n,fun _ _ _ _ n=>(3652060-n).toNat,WhI.init hA1,?_⟩
 intro T C run now n hI
 obtain ⟨n0,n1,now0,now1,l1,l2,hw⟩:=hI.rg
 refine ⟨fun _=>by omega,fun _=>by omega,fun _=>by omega,fun _=>by omega,fun hn=>⟨hfw,by omega,hn.1,hR,fun hd=>⟨by omega,hI.no hd hn,by dsimp only; omega⟩,fun hd=>?_⟩,fun hn=>?_⟩
 . have hd:=Classical.not_not.1 hd
   refine ⟨fun T C run now i=>WdI s r A n ⟨T,C,run,now⟩ i,fun _ _ _ _ i=>((A3 s r).length-i).toNat,hI.day,?_⟩
   intro T2 C2 run2 now2 i hJ
   obtain ⟨j0,j1,m0,m1,k1,k2⟩:=hJ.rg hA1.1 n1
   refine ⟨fun hi=>?_,fun hi=>⟨by omega,hJ.fin hI hn hi hd,by dsimp only; omega⟩⟩
   have hc:=e1b j0 hi
   have ht:=a0a (r:=r) (t:=86400 * (n-1)+ix (A3 s r) i) (by omega) (by omega) w0 w1
   have hs:=a0a (r:=r) s0 s1 w0 w1
   refine ⟨by omega,by omega,j0,hi,fun _=>⟨by omega,by omega,by omega,w0,w1,by omega,fun _=>by omega,fun ho=>⟨by omega,hJ.out hi ho,by dsimp only; omega⟩,fun ho=>⟨fun hk=>⟨hfw,by omega,?_⟩,fun hk=>⟨?_,by omega,hJ.on hi ho hk,by dsimp only; omega⟩⟩⟩⟩
   . have hp:=a1q (r:=r) (l:=run2)
     have td:=b85 (a:=now2) m0 m1 i0
     refine ⟨fun X Y j=>FlI r T2 C2 run2 now2 X Y j,fun _ _ j=>((u4 r run2).length-j).toNat,FlI.init,?_⟩
     intro X Y j hK
     have q0:=hK.j0
     have q1:=hK.j1
     have q2:=hK.lx
     have q3:=hK.ly
     refine ⟨fun hj=>⟨q0,hj,fun _=>⟨?_,by omega,by omega,?_,by omega,hK.step hj,by dsimp only; omega⟩⟩,fun hj=>⟨by show 1 * 8<=140737488355328; omega,by omega,hJ.new hi ho hk (by unfold D9; omega) (hK.fin hj),by dsimp only; omega⟩⟩
     . show (X.length+1) * 8<=140737488355328
       omega
     . show (Y.length+1) * 8<=140737488355328
       omega
   . show (run2.length+1) * 8<=140737488355328
     omega
 . have hp:=a1q (r:=r) (l:=run)
   have td:=b85 (a:=now) now0 now1 i0
   refine ⟨hfw,by omega,fun X Y j=>FlI r T C run now X Y j,fun _ _ j=>((u4 r run).length-j).toNat,FlI.init,?_⟩
   intro X Y j hK
   have q0:=hK.j0
   have q1:=hK.j1
   have q2:=hK.lx
   have q3:=hK.ly
   refine ⟨fun hj=>⟨q0,hj,fun _=>⟨?_,by omega,by omega,?_,by omega,hK.step hj,by dsimp only; omega⟩⟩,fun hj=>?_⟩
   . show (X.length+1) * 8<=140737488355328
     omega
   . show (Y.length+1) * 8<=140737488355328
     omega
   . have hx:=hK.fin hj
     have hq:=hI.fin hA hD hn
     have hsm:=hI.same
     have eX:X=(K5 s r to).1:=hx.1.trans (congrArg Prod.fst hq)
     have eY:Y=(K5 s r to).2:=hx.2.trans (congrArg Prod.snd hq)
     refine ⟨fun o=>o=(if b8 s<to then [b8 s] else []),⟨fun h=>⟨by show 1 * 8<=140737488355328; omega,by rw [if_pos h]⟩,fun h=>by rw [if_neg h]⟩,fun o ho=>?_⟩
     refine ⟨fun n k out i=>AlI s r to X Y n k out i,fun _ _ _ i=>((X.length:Int)-i).toNat,AlI.init ho,?_⟩
     intro m k out i hL
     have a0:=hL.i0
     have a1:=hL.i1
     have b0:=hL.n0
     have b1:=hL.k0
     have b2:=hL.o
     refine ⟨fun hi=>⟨a0,hi,fun _=>⟨fun _=>by decide,fun h=>h.2,fun _ _ _ _ _ _=>⟨fun ho=>⟨by omega,hL.off hi ho,by dsimp only; omega⟩,fun ho=>⟨by omega,fun q=>q=(if ix Y i<40000 then k+1 else k),⟨a0,by omega,fun _=>⟨fun h=>⟨by omega,by rw [if_pos h]⟩,fun h=>by rw [if_neg h]⟩⟩,fun q hq=>⟨fun h=>⟨?_,by omega,hL.on hi ho hq (by rw [if_pos h]),by dsimp only; omega⟩,fun h=>⟨by omega,hL.on hi ho hq (by rw [if_neg h]),by dsimp only; omega⟩⟩⟩⟩⟩⟩,fun hi=>?_⟩
     . show (out.length+1) * 8<=140737488355328
       omega
     . have he:(⟨m,k,out⟩:Al)=alS s r to:=by
         unfold alS
         rw [<- eX,<- eY,hL.e,show i.toNat=X.length by omega]
       have e1:out=(allS s r to).1:=congrArg Al.out he
       have e2:k=(alS s r to).k:=congrArg Al.k he
       refine ⟨fun h=>⟨e1,?_⟩,fun h=>⟨e1,?_⟩⟩
       . show false=a6n s r to (alS s r to).k
         unfold a6n
         rw [<- e2,if_pos h]
       . show _=a6n s r to (alS s r to).k
         unfold a6n
         rw [<- e2,if_neg h]
def e7i (s:Tm) (r:Rl) (to:Int) (nx:Nat):CR U:=⟨[A5 r=true,C6 s r=true,0<=to,to<=400000000000],[],.tup [.acc nx,blB ((allS s r to).2)],[.ac 3 ((allS s r to).1)]⟩
def cxA (a:List (SV U)) (nx:Nat):Option (CR U):=match a with | [.agg l_s,.agg l_r,.int .i64 to]=>(y25.bk (.agg l_s)).bind fun s=>(y30.bk (.agg l_r)).bind fun r=>some (e7i s r to nx) | _=>none
theorem d4r (args:List (SV U)) (nx:Nat) (c:CR U) (h:cxA args nx=some c) (hp:args.all z8=true) (ho:m8 c.ob):C4 a4e.P a4e.N a4e.T a4e.G 37 args nx c:=by
 unfold cxA at h
 split at h
 . rename_i l_s l_r to
   obtain ⟨s,hb_s,h⟩:=Option.bind_eq_some_iff.1 h
   obtain ⟨r,hb_r,h⟩:=Option.bind_eq_some_iff.1 h
   cases h
   exact C4.weak (b:=[.agg [.int .i64 s.Day.Year,.int .i64 s.Day.Month,.int .i64 s.Day.Date,.int .i64 s.Hour,.int .i64 s.Min,.int .i64 s.Sec,blB s.Bare,blB s.UTC],.agg [.int .i64 r.Freq,.int .i64 r.Interval,.int .i64 r.Count,.sl (N:=U) 25 r.Until,.sl (N:=U) 3 r.Month,.sl (N:=U) 3 r.WeekNo,.sl (N:=U) 3 r.YearDay,.sl (N:=U) 3 r.MonthDay,.sl (N:=U) 60 r.Days,.sl (N:=U) 3 r.Hour,.sl (N:=U) 3 r.Minute,.sl (N:=U) 3 r.Second,.sl (N:=U) 3 r.SetPos,.int .i64 r.Wkst],.int .i64 to]) (e4k b09 (j8 b09 p9 c7q 2) Tryz.func37 (k1:=.acc 3) (k2:=.bool) rfl rfl (e24 (pxA s r to ho.1 ho.2.1 ho.2.2.1 ho.2.2.2.1))) fun ρ Z w v hr=>u7 [.agg l_s,.agg l_r,.int .i64 to] [.agg [.int .i64 s.Day.Year,.int .i64 s.Day.Month,.int .i64 s.Day.Date,.int .i64 s.Hour,.int .i64 s.Min,.int .i64 s.Sec,blB s.Bare,blB s.UTC],.agg [.int .i64 r.Freq,.int .i64 r.Interval,.int .i64 r.Count,.sl (N:=U) 25 r.Until,.sl (N:=U) 3 r.Month,.sl (N:=U) 3 r.WeekNo,.sl (N:=U) 3 r.YearDay,.sl (N:=U) 3 r.MonthDay,.sl (N:=U) 60 r.Days,.sl (N:=U) 3 r.Hour,.sl (N:=U) 3 r.Minute,.sl (N:=U) 3 r.Second,.sl (N:=U) 3 r.SetPos,.int .i64 r.Wkst],.int .i64 to] _ ⟨fun _ h=>s7 hb_s h,fun _ h=>w6 hb_r h,fun _ h=>h,trivial⟩ hr
 . cases h
noncomputable def NxA:Env:=a4e.addC 37 cxA
theorem b5s:l5 NxA:=b09.addC Tryz.call37 d4r
end Go.Proofs.YtdjfeninmbpflaaGreat
end
section
namespace Go.Proofs.YtdjfeninmbpflaaGreat
open Go Go.Wk Go.Wl Go.Rx Go.Re 
attribute [local irreducible] i7
def c8g:Nat->Ann:=fun | 14=>⟨63,fun | 8=>some ⟨[4,6,10],[.slot 12 (.acc 25),.slot 13 (.int .i64)]⟩ | _=>none,fun _=>none⟩ | _=>⟨0,fun _=>none,fun _=>none⟩
def VxE (s:Tm) (r:Rl) (a:Tm) (b:Tm) (Q:List Tm->Int->Prop):Prop :=
A5 (etR r)=true/\((¬C6 (etT s) (etR r)=true ∨ ¬p4 (etT a)=true) ∨ ¬p4 (etT b)=true->Q [] (2:Int))/\(¬((¬C6 (etT s) (etR r)=true ∨ ¬p4 (etT a)=true) ∨ ¬p4 (etT b)=true)->(A5 (etR r)=true/\C6 (etT s) (etR r)=true/\(0:Int)<=b8 (etT b)/\b8 (etT b)<=400000000000)/\((Re.allS (etT s) (etR r) (b8 (etT b))).snd=true->Q [] (5:Int))/\(¬(Re.allS (etT s) (etR r) (b8 (etT b))).snd=true->∃ (I:List Tm->Int->Prop),∃ (m:List Tm->Int->Nat),I [] (0:Int)/\∀ (x:List Tm) (x_1:Int),I x x_1->(x_1<(↑(Re.allS (etT s) (etR r) (b8 (etT b))).fst.length:Int)->((0:Int)<=x_1/\x_1<(↑(Re.allS (etT s) (etR r) (b8 (etT b))).fst.length:Int))/\(b9 (ix (Re.allS (etT s) (etR r) (b8 (etT b))).fst x_1)->(b8 (etT a)<=ix (Re.allS (etT s) (etR r) (b8 (etT b))).fst x_1->((0:Int)<=x_1/\x_1<(↑(Re.allS (etT s) (etR r) (b8 (etT b))).fst.length:Int))/\(b9 (ix (Re.allS (etT s) (etR r) (b8 (etT b))).fst x_1)->(x.length+[etT (atS (ix (Re.allS (etT s) (etR r) (b8 (etT b))).fst x_1) (etT s))].length) * (some (56:Nat)).getD (0:Nat)<=140737488355328)/\(b9 (ix (Re.allS (etT s) (etR r) (b8 (etT b))).fst x_1)->b9 (x_1+1)/\I (x++[etT (atS (ix (Re.allS (etT s) (etR r) (b8 (etT b))).fst x_1) (etT s))]) (x_1+1)/\m (x++[etT (atS (ix (Re.allS (etT s) (etR r) (b8 (etT b))).fst x_1) (etT s))]) (x_1+1)<m x x_1))/\(¬b8 (etT a)<=ix (Re.allS (etT s) (etR r) (b8 (etT b))).fst x_1->b9 (x_1+1)/\I x (x_1+1)/\m x (x_1+1)<m x x_1)))/\(¬x_1<(↑(Re.allS (etT s) (etR r) (b8 (etT b))).fst.length:Int)->((1000:Int)<(↑x.length:Int)->Q [] (16:Int))/\(¬(1000:Int)<(↑x.length:Int)->Q x (0:Int)))))
theorem e3e {s:Tm} {r:Rl} {a:Tm} {b:Tm} {Q:List Tm->Int->Prop}:@Eq Prop (VxE s r a b Q) (i7 (E:=NxA) (j7 NxA H0 c8g 2) (c8g 14) Tryz.f14 [.agg [.int .i64 s.Day.Year,.int .i64 s.Day.Month,.int .i64 s.Day.Date,.int .i64 s.Hour,.int .i64 s.Min,.int .i64 s.Sec,blB s.Bare,blB s.UTC],.agg [.int .i64 r.Freq,.int .i64 r.Interval,.int .i64 r.Count,.sl (N:=U) 25 r.Until,.sl (N:=U) 3 r.Month,.sl (N:=U) 3 r.WeekNo,.sl (N:=U) 3 r.YearDay,.sl (N:=U) 3 r.MonthDay,.sl (N:=U) 60 r.Days,.sl (N:=U) 3 r.Hour,.sl (N:=U) 3 r.Minute,.sl (N:=U) 3 r.Second,.sl (N:=U) 3 r.SetPos,.int .i64 r.Wkst],.agg [.int .i64 a.Day.Year,.int .i64 a.Day.Month,.int .i64 a.Day.Date,.int .i64 a.Hour,.int .i64 a.Min,.int .i64 a.Sec,blB a.Bare,blB a.UTC],.agg [.int .i64 b.Day.Year,.int .i64 b.Day.Month,.int .i64 b.Day.Date,.int .i64 b.Hour,.int .i64 b.Min,.int .i64 b.Sec,blB b.Bare,blB b.UTC]] [] [] 0 (n5 NxA [.acc 25,.int .i64] Q)):=by kernel_rfl
theorem e42 {s:Tm} {r:Rl} {a:Tm} {b:Tm} {Q:List Tm->Int->Prop} (h:VxE s r a b Q):i7 (E:=NxA) (j7 NxA H0 c8g 2) (c8g 14) Tryz.f14 [.agg [.int .i64 s.Day.Year,.int .i64 s.Day.Month,.int .i64 s.Day.Date,.int .i64 s.Hour,.int .i64 s.Min,.int .i64 s.Sec,blB s.Bare,blB s.UTC],.agg [.int .i64 r.Freq,.int .i64 r.Interval,.int .i64 r.Count,.sl (N:=U) 25 r.Until,.sl (N:=U) 3 r.Month,.sl (N:=U) 3 r.WeekNo,.sl (N:=U) 3 r.YearDay,.sl (N:=U) 3 r.MonthDay,.sl (N:=U) 60 r.Days,.sl (N:=U) 3 r.Hour,.sl (N:=U) 3 r.Minute,.sl (N:=U) 3 r.Second,.sl (N:=U) 3 r.SetPos,.int .i64 r.Wkst],.agg [.int .i64 a.Day.Year,.int .i64 a.Day.Month,.int .i64 a.Day.Date,.int .i64 a.Hour,.int .i64 a.Min,.int .i64 a.Sec,blB a.Bare,blB a.UTC],.agg [.int .i64 b.Day.Year,.int .i64 b.Day.Month,.int .i64 b.Day.Date,.int .i64 b.Hour,.int .i64 b.Min,.int .i64 b.Sec,blB b.Bare,blB b.UTC]] [] [] 0 (n5 NxA [.acc 25,.int .i64] Q):=by rw [<- e3e]; exact h
set_option maxHeartbeats 2000000 in
theorem pxE (s:Tm) (r:Rl) (a:Tm) (b:Tm) (hfw:A5 r=true):VxE s r a b (fun y0 y1=>y0=(a0k s r a b).1/\y1=(a0k s r a b).2):=by
 unfold VxE
 simp only [Y9,a32,a5g]
 refine ⟨hfw,fun h=>?_,fun h=>?_⟩
 . unfold a0k
   rw [if_pos (show a5i s r a b from h)]
   exact ⟨rfl,rfl⟩
 have hft:C6 s r=true:=Classical.not_not.1 fun hn=>h (.inl (.inl hn))
 have hb:p4 b=true:=Classical.not_not.1 fun hn=>h (.inr hn)
 obtain ⟨b0,b1⟩:=w9 hb
 have hl:=d01 (s:=s) (r:=r) (to:=b8 b)
 refine ⟨⟨hfw,hft,b0,by omega⟩,fun hm=>?_,fun hm=>?_⟩
 . unfold a0k
   rw [if_neg (show ¬ a5i s r a b from h),if_pos hm]
   exact ⟨rfl,rfl⟩
 refine ⟨fun x i=>ExI s a (allS s r (b8 b)).1 x i,fun _ i=>(((allS s r (b8 b)).1.length:Int)-i).toNat,ExI.init,?_⟩
 intro x i hI
 have a0:=hI.i0
 have a1:=hI.i1
 have a2:=hI.lx
 refine ⟨fun hi=>⟨⟨a0,hi⟩,fun _=>⟨fun hy=>⟨⟨a0,hi⟩,fun _=>?_,fun _=>⟨by omega,hI.yes hi hy,by dsimp only; omega⟩⟩,fun hy=>⟨by omega,hI.no hi hy,by dsimp only; omega⟩⟩⟩,fun hi=>?_⟩
 . show (x.length+1) * 56<=140737488355328
   omega
 have e:=hI.fin hi
 unfold a0k
 rw [if_neg (show ¬ a5i s r a b from h),if_neg hm,<- e]
 exact ⟨fun hx=>by rw [if_pos hx]; exact ⟨rfl,rfl⟩,fun hx=>by rw [if_neg hx]; exact ⟨rfl,rfl⟩⟩
noncomputable def e7y (s:Tm) (r:Rl) (a:Tm) (b:Tm) (nx:Nat):CR U:=⟨[A5 r=true],[],.tup [.acc nx,.int .i64 ((a0k s r a b).2)],[.ac 25 ((a0k s r a b).1)]⟩
noncomputable def cxE (a:List (SV U)) (nx:Nat):Option (CR U):=match a with | [.agg l_s,.agg l_r,.agg l_a,.agg l_b]=>(y25.bk (.agg l_s)).bind fun s=>(y30.bk (.agg l_r)).bind fun r=>(y25.bk (.agg l_a)).bind fun a=>(y25.bk (.agg l_b)).bind fun b=>some (e7y s r a b nx) | _=>none
theorem d8i (args:List (SV U)) (nx:Nat) (c:CR U) (h:cxE args nx=some c) (hp:args.all z8=true) (ho:m8 c.ob):C4 NxA.P NxA.N NxA.T NxA.G 14 args nx c:=by
 unfold cxE at h
 split at h
 . rename_i l_s l_r l_a l_b
   obtain ⟨s,hb_s,h⟩:=Option.bind_eq_some_iff.1 h
   obtain ⟨r,hb_r,h⟩:=Option.bind_eq_some_iff.1 h
   obtain ⟨a,hb_a,h⟩:=Option.bind_eq_some_iff.1 h
   obtain ⟨b,hb_b,h⟩:=Option.bind_eq_some_iff.1 h
   cases h
   exact C4.weak (b:=[.agg [.int .i64 s.Day.Year,.int .i64 s.Day.Month,.int .i64 s.Day.Date,.int .i64 s.Hour,.int .i64 s.Min,.int .i64 s.Sec,blB s.Bare,blB s.UTC],.agg [.int .i64 r.Freq,.int .i64 r.Interval,.int .i64 r.Count,.sl (N:=U) 25 r.Until,.sl (N:=U) 3 r.Month,.sl (N:=U) 3 r.WeekNo,.sl (N:=U) 3 r.YearDay,.sl (N:=U) 3 r.MonthDay,.sl (N:=U) 60 r.Days,.sl (N:=U) 3 r.Hour,.sl (N:=U) 3 r.Minute,.sl (N:=U) 3 r.Second,.sl (N:=U) 3 r.SetPos,.int .i64 r.Wkst],.agg [.int .i64 a.Day.Year,.int .i64 a.Day.Month,.int .i64 a.Day.Date,.int .i64 a.Hour,.int .i64 a.Min,.int .i64 a.Sec,blB a.Bare,blB a.UTC],.agg [.int .i64 b.Day.Year,.int .i64 b.Day.Month,.int .i64 b.Day.Date,.int .i64 b.Hour,.int .i64 b.Min,.int .i64 b.Sec,blB b.Bare,blB b.UTC]]) (e4k b5s (j8 b5s p9 c8g 2) Tryz.func14 (k1:=.acc 25) (k2:=.int .i64) rfl rfl (e42 (pxE s r a b ho.1))) fun ρ Z w v hr=>u7 [.agg l_s,.agg l_r,.agg l_a,.agg l_b] [.agg [.int .i64 s.Day.Year,.int .i64 s.Day.Month,.int .i64 s.Day.Date,.int .i64 s.Hour,.int .i64 s.Min,.int .i64 s.Sec,blB s.Bare,blB s.UTC],.agg [.int .i64 r.Freq,.int .i64 r.Interval,.int .i64 r.Count,.sl (N:=U) 25 r.Until,.sl (N:=U) 3 r.Month,.sl (N:=U) 3 r.WeekNo,.sl (N:=U) 3 r.YearDay,.sl (N:=U) 3 r.MonthDay,.sl (N:=U) 60 r.Days,.sl (N:=U) 3 r.Hour,.sl (N:=U) 3 r.Minute,.sl (N:=U) 3 r.Second,.sl (N:=U) 3 r.SetPos,.int .i64 r.Wkst],.agg [.int .i64 a.Day.Year,.int .i64 a.Day.Month,.int .i64 a.Day.Date,.int .i64 a.Hour,.int .i64 a.Min,.int .i64 a.Sec,blB a.Bare,blB a.UTC],.agg [.int .i64 b.Day.Year,.int .i64 b.Day.Month,.int .i64 b.Day.Date,.int .i64 b.Hour,.int .i64 b.Min,.int .i64 b.Sec,blB b.Bare,blB b.UTC]] _ ⟨fun _ h=>s7 hb_s h,fun _ h=>w6 hb_r h,fun _ h=>s7 hb_a h,fun _ h=>s7 hb_b h,trivial⟩ hr
 . cases h
noncomputable def NxE:Env:=NxA.addC 14 cxE
theorem c3r:l5 NxE:=b5s.addC Tryz.call14 d8i
end Go.Proofs.YtdjfeninmbpflaaGreat
end
section
namespace Go.Re
open Go Go.Wk Go.Wl Go.Rx
abbrev Up (l:List Int):Prop:=l.Pairwise (· < ·)
theorem e5u {l:List Int} (h:UpL l):Up l:=List.pairwise_iff_getElem.2 fun i j hi hj hij=>b43 h j i hij hj
theorem e36 (n:Nat):Up (a7z n):=by
 unfold a7z
 refine List.pairwise_map.2 (List.pairwise_lt_range.imp fun h=>?_)
 show ((_:Nat):Int)<((_:Nat):Int)
 omega
theorem a66 {l:List Int} {f:Bool} {own all:Int} (h:UpL l):Up (l9 l f own all):=by
 unfold l9
 split
 . exact e5u h
 . split
   . exact e36 _
   . exact List.pairwise_singleton ..
theorem a8w {n x:Int} {l:List Int} (h:inB n l) (hx:x∈l):0<=x/\x<=n:=by
 obtain ⟨i,i0,i1,rfl⟩:=I5 hx
 exact h i i0 i1
theorem b12 {fr to b:Int}:∀ {l:List Int},Up l->Up (a0l fr to b l)
 | [],_=>List.Pairwise.nil
 | s::r,h=>by
  obtain ⟨h1,h2⟩:=List.pairwise_cons.1 h
  unfold a0l
  split
  . refine List.pairwise_cons.2 ⟨fun t ht=>?_,b12 h2⟩
    obtain ⟨u,hu,e,_⟩:=Y3.1 ht
    have:=h1 u hu
    omega
  . exact b12 h2
theorem b04 {fr to b:Int} {ss:List Int} (hs:inB 59 ss) (us:Up ss):∀ {l:List Int},Up l->Up (V1 fr to b ss l)
 | [],_=>List.Pairwise.nil
 | m::r,h=>by
  obtain ⟨h1,h2⟩:=List.pairwise_cons.1 h
  unfold V1
  split
  . exact b04 hs us h2
  . refine List.pairwise_append.2 ⟨b12 us,b04 hs us h2,fun t ht u hu=>?_⟩
    obtain ⟨x,hx,e,_⟩:=Y3.1 ht
    obtain ⟨m2,hm2,y,hy,e2,_⟩:=(a2t hs).1 hu
    have:=h1 m2 hm2
    have:=a8w hs hx
    have:=a8w hs hy
    omega
theorem b15 {fr to:Int} {ms ss:List Int} (hm:inB 59 ms) (hs:inB 59 ss) (um:Up ms) (us:Up ss):∀ {l:List Int},Up l->Up (X4 fr to ms ss l)
 | [],_=>List.Pairwise.nil
 | m::r,h=>by
  obtain ⟨h1,h2⟩:=List.pairwise_cons.1 h
  unfold X4
  split
  . exact b15 hm hs um us h2
  . refine List.pairwise_append.2 ⟨b04 hs us um,b15 hm hs um us h2,fun t ht u hu=>?_⟩
    obtain ⟨m1,hm1,x,hx,e,_⟩:=(a2t hs).1 ht
    obtain ⟨k,hk,m2,hm2,y,hy,e2,_⟩:=(a6d hm hs).1 hu
    have:=h1 k hk
    have:=a8w hs hx
    have:=a8w hs hy
    have:=a8w hm hm1
    have:=a8w hm hm2
    omega
theorem c9n {s:Tm} {r:Rl} {fr to:Int} (hF:s9 s r):Up (L5 s r fr to):=by
 have L:=(n7.1 hF.rr).lists
 exact b15 (b77 hF) (b6e hF) (a66 L.mi.up) (a66 L.se.up) (a66 L.ho.up)
theorem b97 {s:Tm} {r:Rl} {c:Int} (h:c∈A3 s r):0<=c/\c<86400:=a9p 24 (by omega) _ h
def b3p (s:Tm) (r:Rl) (day t:Int):Prop:=J0 s r day (t / 86400+1)=true/\t % 86400∈A3 s r
theorem b44 {s:Tm} {r:Rl} {day fr to n t:Int} (hF:s9 s r):t∈a7v s r day fr to n↔(b3p s r day t/\t / 86400+1=n)/\fr<=t/\t<to:=by
 unfold a7v b3p
 constructor
 . intro h
   split at h
   . rename_i hd
     obtain ⟨c,hc,rfl⟩:=List.mem_map.1 h
     obtain ⟨h1,h2,h3⟩:=(a29 hF).1 hc
     have:=b97 h1
     have e1:((n-1) * 86400+c) / 86400+1=n:=by omega
     have e2:((n-1) * 86400+c) % 86400=c:=by omega
     rw [e1,e2]
     exact ⟨⟨⟨hd,h1⟩,rfl⟩,by omega,by omega⟩
   . cases h
 . rintro ⟨⟨⟨h1,h2⟩,rfl⟩,h3,h4⟩
   rw [if_pos h1]
   refine List.mem_map.2 ⟨t % 86400,(a29 hF).2 ⟨h2,by omega,by omega⟩,by omega⟩
theorem d1z {s:Tm} {r:Rl} {day fr to n:Int} (hF:s9 s r):Up (a7v s r day fr to n):=by
 unfold a7v
 split
 . exact List.pairwise_map.2 ((c9n hF).imp fun h=>by omega)
 . exact List.Pairwise.nil
theorem a6r {s:Tm} {r:Rl} {day fr to t:Int} (hF:s9 s r):∀ {k:Nat} {n:Int},t∈a4g s r day fr to k n↔(b3p s r day t/\n<=t / 86400+1/\t / 86400+1<n+k)/\fr<=t/\t<to
 | 0,n=>by
  unfold a4g
  constructor
  . intro h; cases h
  . rintro ⟨⟨_,h1,h2⟩,_⟩; omega
 | k+1,n=>by
  unfold a4g
  rw [List.mem_append,b44 hF,a6r hF]
  constructor
  . rintro (⟨⟨a,b⟩,c⟩ | ⟨⟨a,b⟩,c⟩)
    . exact ⟨⟨a,by omega⟩,c⟩
    . exact ⟨⟨a,by omega⟩,c⟩
  . rintro ⟨⟨a,b⟩,c⟩
    by_cases e:t / 86400+1=n
    . exact .inl ⟨⟨a,e⟩,c⟩
    . exact .inr ⟨⟨a,by omega⟩,c⟩
theorem b8o {s:Tm} {r:Rl} {day fr to:Int} (hF:s9 s r):∀ {k:Nat} {n:Int},Up (a4g s r day fr to k n)
 | 0,_=>List.Pairwise.nil
 | k+1,n=>by
  unfold a4g
  refine List.pairwise_append.2 ⟨d1z hF,b8o hF,fun t ht u hu=>?_⟩
  have:=(b44 hF).1 ht
  have:=(a6r hF).1 hu
  omega
theorem b4l {s:Tm} {r:Rl} {day fr to t:Int} (hF:s9 s r):t∈a7x s r day fr to↔b3p s r day t/\fr<=t/\t<to:=by
 unfold a7x
 rw [a6r hF]
 constructor
 . rintro ⟨⟨a,_⟩,b⟩; exact ⟨a,b⟩
 . rintro ⟨a,b⟩; exact ⟨⟨a,by omega⟩,b⟩
theorem c03 {s:Tm} {r:Rl} {day fr to:Int} (hF:s9 s r):Up (a7x s r day fr to):=b8o hF
theorem a30 {sp:List Int} {n:Int}:∀ {l:List Int} {i:Int},(N3 sp n i l).Sublist l
 | [],_=>List.Sublist.slnil
 | t::l,i=>by
  rw [V4]
  split
  . exact List.Sublist.cons_cons _ a30
  . exact List.Sublist.cons _ a30
theorem U6 {r:Rl} {l:List Int}:(u4 r l).Sublist l:=by
 unfold u4
 split
 . exact List.Sublist.refl _
 . exact a30
theorem b9a {s:Tm} {r:Rl} {day i:Int} (hF:s9 s r):Up (A8 s r day i):=(c03 hF).sublist U6
theorem a1o {s:Tm} {r:Rl} {day i t:Int} (hF:s9 s r) (h:t∈A8 s r day i):b3p s r day t/\q8 r i<=t/\t<q8 r (i+1):=(b4l hF).1 (U6.subset h)
structure LoP (r:Rl) (i:Int):Prop where
 a:0<=i
 y:r.Freq=0->1<=i
 m:r.Freq=1->12<=i
 d:r.Freq=3->1<=i
theorem LoP.up {r:Rl} {i j:Int} (h:LoP r i) (hj:i<=j):LoP r j:=by
 obtain ⟨a,b,c,d⟩:=h
 exact ⟨by omega,fun e=>by have:=b e; omega,fun e=>by have:=c e; omega,fun e=>by have:=d e; omega⟩
theorem Q8 {y m:Int} (y0:1<=y) (y1:y<=9999) (m0:1<=m) (m1:m<=12):B3 ⟨y,m,1⟩:=by
 have:=a4x y0 y1 m0 m1
 exact ⟨Int.le_refl 1,by show (1:Int)<=u6 y m; omega⟩
theorem b2f {d:Dy} {y m:Int} (h:B3 d) (y0:1<=y) (y1:y<=9999) (m0:1<=m) (m1:m<=12):E2 ⟨y,m,1⟩<=E2 d↔12 * y+m<=12 * d.Year+d.Month:=by
 have hr:=Q8 y0 y1 m0 m1
 obtain ⟨a0,a1⟩:=K6 h
 obtain ⟨b0,b1⟩:=K6 hr
 obtain ⟨c0,c1,c2,c3,c4,c5⟩:=h.ym
 have h2:=h.2
 have b0:j6 y<E2 ⟨y,m,1⟩:=b0
 have b1:E2 ⟨y,m,1⟩<=j6 (y+1):=b1
 have e1:E2 ⟨y,m,1⟩=j6 y+F9 y m+1:=rfl
 have e2:E2 d=j6 d.Year+F9 d.Year d.Month+d.Date:=rfl
 rcases Int.lt_trichotomy y d.Year with hl | hl | hl
 . have:=A4 (show y+1<=d.Year by omega)
   constructor <;> intro <;> omega
 . subst hl
   rcases Int.lt_trichotomy m d.Month with hm | hm | hm
   . have:=a1a y0 y1 m0 c3 hm
     have:=a4x y0 y1 m0 m1
     constructor <;> intro <;> omega
   . subst hm
     constructor <;> intro <;> omega
   . have:=a1a y0 y1 c2 m1 hm
     constructor <;> intro <;> omega
 . have:=A4 (show d.Year+1<=y by omega)
   constructor <;> intro <;> omega
theorem a9y {n t:Int} (h0:1<=n) (t1:t<315537897600):nbP n<=t↔n<=t / 86400+1:=by
 unfold nbP
 split <;> omega
theorem K7 {r:Rl} {i t:Int} (hi:LoP r i) (t0:0<=t) (t1:t<315537897600):q8 r i<=t↔i<=l4 r t:=by
 obtain ⟨hd,hn⟩:=Q3 (n:=t / 86400+1) (by omega) (by omega)
 obtain ⟨c0,c1,c2,c3,_⟩:=hd.ym
 have a:=hi.a
 unfold q8 l4 s4
 generalize ofS (t / 86400+1)=D at *
 by_cases f0:r.Freq=0
 . have b:=hi.y f0
   rw [if_pos f0,if_pos f0,if_neg (by omega)]
   by_cases hy:i<=9999
   . have hr:=Q8 b hy (by decide:(1:Int)<=1) (by decide)
     have e:m6 ⟨i,1,1⟩=E2 ⟨i,1,1⟩:=by unfold m6; rw [if_pos hr]
     rw [e,a9y (H9 hr).1 t1,<- hn,b2f hd b hy (by decide) (by decide)]
     constructor <;> intro <;> omega
   . have e:m6 ⟨i,1,1⟩=0:=by
       unfold m6
       rw [if_neg fun h=>?_]
       have:i<=9999:=h.ym.2.1
       omega
     rw [e]
     unfold nbP
     rw [if_pos (.inl rfl)]
     constructor <;> intro <;> omega
 rw [if_neg f0,if_neg f0]
 by_cases f1:r.Freq=1
 . have b:=hi.m f1
   rw [if_pos f1,if_pos f1,if_pos f1]
   by_cases hy:i / 12<=9999
   . have hr:=Q8 (y:=i / 12) (m:=i % 12+1) (by omega) hy (by omega) (by omega)
     have e:m6 ⟨i / 12,i % 12+1,1⟩=E2 ⟨i / 12,i % 12+1,1⟩:=by unfold m6; rw [if_pos hr]
     rw [e,a9y (H9 hr).1 t1,<- hn,b2f hd (by omega) hy (by omega) (by omega)]
     constructor <;> intro <;> omega
   . have e:m6 ⟨i / 12,i % 12+1,1⟩=0:=by
       unfold m6
       rw [if_neg fun h=>?_]
       have:i / 12<=9999:=h.ym.2.1
       omega
     rw [e]
     unfold nbP
     rw [if_pos (.inl rfl)]
     constructor <;> intro <;> omega
 rw [if_neg f1,if_neg f1,if_neg f1]
 by_cases f2:r.Freq=2
 . rw [if_pos f2,if_pos f2,a9y (by omega) t1]
   constructor <;> intro <;> omega
 rw [if_neg f2,if_neg f2]
 by_cases f3:r.Freq=3
 . have b:=hi.d f3
   rw [if_pos f3,if_pos f3,a9y b t1]
   constructor <;> intro <;> omega
 rw [if_neg f3,if_neg f3]
 by_cases f4:r.Freq=4
 . rw [if_pos f4,if_pos f4]; constructor <;> intro <;> omega
 rw [if_neg f4,if_neg f4]
 by_cases f5:r.Freq=5
 . rw [if_pos f5,if_pos f5]; constructor <;> intro <;> omega
 rw [if_neg f5,if_neg f5]
 constructor <;> intro <;> omega
theorem H6 {r:Rl} {i j:Int} (hi:LoP r i) (hj:i<=j):q8 r i<=q8 r j:=by
 obtain ⟨a0,a1⟩:=I9 (r:=r) hi.a
 obtain ⟨b0,b1⟩:=I9 (r:=r) (i:=j) (by have:=hi.a; omega)
 by_cases h:q8 r j<315537897600
 . exact (K7 hi b0 h).2 (Int.le_trans hj ((K7 (hi.up hj) b0 h).1 (Int.le_refl _)))
 . omega
theorem K9 {r:Rl} {t:Int} (t0:0<=t) (t1:t<315537897600) (w0:0<=r.Wkst) (w1:r.Wkst<=6):LoP r (l4 r t):=by
 obtain ⟨hd,hn⟩:=Q3 (n:=t / 86400+1) (by omega) (by omega)
 obtain ⟨c0,c1,c2,c3,_⟩:=hd.ym
 refine ⟨(a09 t0 t1 w0 w1).1,fun f=>?_,fun f=>?_,fun f=>?_⟩
 . unfold l4 s4; rw [if_pos f,if_neg (by omega)]; omega
 . unfold l4 s4; rw [if_neg (by omega),if_pos f,if_pos f]; omega
 . unfold l4 s4; rw [if_neg (by omega),if_neg (by omega),if_neg (by omega),if_pos f,if_neg (by omega)]; omega
theorem T8 {r:Rl} {t u:Int} (t0:0<=t) (h:t<=u) (u1:u<315537897600) (w0:0<=r.Wkst) (w1:r.Wkst<=6):l4 r t<=l4 r u:=by
 have hl:=K9 (r:=r) (t:=t) t0 (by omega) w0 w1
 have:=(K7 hl t0 (by omega)).2 (Int.le_refl _)
 exact (K7 hl (by omega) u1).1 (by omega)
end Go.Re
end
section
namespace Go.Re
open Go Go.Wk Go.Wl Go.Rx
def H2 (s:Tm) (r:Rl) (day i0:Int):Nat->Int->List Int
 | 0,_=>[]
 | n+1,k=>A8 s r day (i0+k * r.Interval)++H2 s r day i0 n (k+1)
def H3 (r:Rl) (c:Int) (l:List Int):List Int:=if 0<r.Count then l.take (r.Count-c).toNat else l
def PT (first to til t:Int):Bool:=decide (first<t/\t<to/\t<=til)
theorem R9 {first to til t:Int}:PT first to til t=true↔first<t/\t<to/\t<=til:=decide_eq_true_iff
theorem a0j {r:Rl} {c:Int}:H3 r c []=[]:=by unfold H3; split <;> simp
theorem b1v {r:Rl} {c:Int} {l:List Int} (h:0<r.Count) (h1:r.Count<=c):H3 r c l=[]:=by
 unfold H3
 rw [if_pos h,show (r.Count-c).toNat=0 by omega,List.take_zero]
theorem e45 {r:Rl} {c:Int} {l:List Int} (h:¬ 0<r.Count):H3 r c l=l:=if_neg h
theorem b2t {r:Rl} {c t:Int} {l:List Int} (h:¬ (0<r.Count/\r.Count<=c)):H3 r c (t::l)=t::H3 r (c+1) l:=by
 unfold H3
 by_cases hc:0<r.Count
 . rw [if_pos hc,if_pos hc,show (r.Count-c).toNat=(r.Count-(c+1)).toNat+1 by omega,List.take_succ_cons]
 . rw [if_neg hc,if_neg hc]
theorem b99 {r:Rl} {c:Int} {A B:List Int}:H3 r c (A++B)=H3 r c A++H3 r (c+(H3 r c A).length) B:=by
 unfold H3
 by_cases hc:0<r.Count
 . rw [if_pos hc,if_pos hc,if_pos hc,List.take_append,List.length_take]
   congr 2
   omega
 . rw [if_neg hc,if_neg hc,if_neg hc]
theorem filter_nil {p:Int->Bool} {l:List Int} (h:∀ t∈l,¬ p t=true):l.filter p=[]:=List.filter_eq_nil_iff.2 h
theorem b19 {r:Rl} {first to til:Int}:∀ {L:List Int} {c:Int},Up L ->
  a14 r first to til c L=(H3 r c (L.filter (PT first to til)),c+(H3 r c (L.filter (PT first to til))).length)
 | [],c,_=>by
  rw [List.filter_nil,a0j]
  unfold a14
  simp
 | t::L,c,h=>by
  obtain ⟨h1,h2⟩:=List.pairwise_cons.1 h
  unfold a14
  by_cases hf:t<=first
  . rw [if_pos hf,List.filter_cons_of_neg (by rw [R9]; omega)]
    exact b19 h2
  rw [if_neg hf]
  by_cases hb:(to<=t ∨ til<t) ∨ (0<r.Count/\r.Count<=c)
  . have e:H3 r c ((t::L).filter (PT first to til))=[]:=by
      rcases hb with hb | hb
      . rw [filter_nil,a0j]
        intro u hu
        have:t<=u:=by
         rcases List.mem_cons.1 hu with rfl | hu
         . exact Int.le_refl _
         . exact Int.le_of_lt (h1 u hu)
        rw [R9]; omega
      . exact b1v hb.1 hb.2
    rw [if_pos hb,e]
    simp
  . rw [if_neg hb,List.filter_cons_of_pos (R9.2 (by omega)),b2t (fun hh=>hb (.inr hh)),b19 h2,List.length_cons]
    refine Prod.ext rfl ?_
    show c+1+_=_
    rw [Int.natCast_add]
    omega
section
variable {s:Tm} {r:Rl} {day first to til i0 k c t:Int} {n:Nat}
theorem E1 (hF:s9 s r):1<=r.Interval:=(n7.1 hF.rr).head.2.2.1
theorem P0 (hF:s9 s r):0<=r.Wkst/\r.Wkst<=6:=(n7.1 hF.rr).head.2.2.2.2.2.2
theorem V8 {a b I:Int} (hI:1<=I) (h:a<=b):a * I<=b * I:=Int.mul_le_mul_of_nonneg_right h (by omega)
theorem mul_succ {a I:Int}:(a+1) * I=a * I+I:=by rw [Int.add_mul,Int.one_mul]
theorem LoP.at (hl:LoP r (i0+k * r.Interval)) (hI:1<=r.Interval) {j:Int} (hj:k<=j):LoP r (i0+j * r.Interval):=by
 have:=V8 hI hj
 exact hl.up (by omega)
theorem a1j:∀ {n:Nat} {k:Int},t∈H2 s r day i0 n k↔∃ j:Int,k<=j/\j<k+n/\t∈A8 s r day (i0+j * r.Interval)
 | 0,k=>by
  unfold H2
  constructor
  . intro h; cases h
  . rintro ⟨j,h1,h2,_⟩; omega
 | n+1,k=>by
  unfold H2
  rw [List.mem_append,a1j]
  constructor
  . rintro (h | ⟨j,h1,h2,h3⟩)
    . exact ⟨k,by omega,by omega,h⟩
    . exact ⟨j,by omega,by omega,h3⟩
  . rintro ⟨j,h1,h2,h3⟩
    by_cases e:j=k
    . subst e; exact .inl h3
    . exact .inr ⟨j,by omega,by omega,h3⟩
theorem c4i (hF:s9 s r) {i:Int} (hl:LoP r i) (h:t∈A8 s r day i):t<315537897600:=by
 have:=(a1o hF h).2.2
 have:=(I9 (r:=r) (i:=i+1) (by have:=hl.a; omega)).2
 omega
theorem a4m (hF:s9 s r) (hl:LoP r (i0+k * r.Interval)) (h:t∈H2 s r day i0 n k):q8 r (i0+k * r.Interval)<=t/\t<q8 r (i0+(k+n) * r.Interval)/\t<315537897600:=by
 obtain ⟨j,h1,h2,h3⟩:=a1j.1 h
 have hI:=E1 hF
 have a:=V8 hI h1
 have b:=V8 hI (show j+1<=k+n by omega)
 rw [mul_succ] at b
 have hj:=hl.at hI h1
 have c:=a1o hF h3
 have d:=H6 hl (show i0+k * r.Interval<=i0+j * r.Interval by omega)
 have e:=H6 (hj.up (j:=i0+j * r.Interval+1) (by omega)) (show i0+j * r.Interval+1<=i0+(k+n) * r.Interval by omega)
 have f:=c4i hF hj h3
 exact ⟨by omega,by omega,f⟩
theorem b87 (hF:s9 s r):∀ {n:Nat} {k:Int},LoP r (i0+k * r.Interval)->Up (H2 s r day i0 n k)
 | 0,_,_=>List.Pairwise.nil
 | n+1,k,hl=>by
  have hI:=E1 hF
  have h2:LoP r (i0+(k+1) * r.Interval):=hl.at hI (by omega)
  unfold H2
  refine List.pairwise_append.2 ⟨b9a hF,b87 hF h2,fun t ht u hu=>?_⟩
  have a:=a1o hF ht
  have b:=a4m hF h2 hu
  have c:=H6 (hl.up (j:=i0+k * r.Interval+1) (by omega)) (show i0+k * r.Interval+1<=i0+(k+1) * r.Interval by rw [mul_succ]; omega)
  omega
theorem T4.up {b b' c':Int} (h:T4 r to til b c) (hb:b<=b') (hc:c<=c'):T4 r to til b' c':=by
 unfold T4 at h ⊢
 omega
theorem b86 (hF:s9 s r):∀ {n:Nat} {k c:Int},LoP r (i0+k * r.Interval) ->
  (a0m s r day first to til i0 n k c).1=H3 r c ((H2 s r day i0 n k).filter (PT first to til)) /\
  ((a0m s r day first to til i0 n k c).2=true↔¬ T4 r to til (q8 r (i0+(k+n) * r.Interval)) (c+(H3 r c ((H2 s r day i0 n k).filter (PT first to til))).length))
 | 0,k,c,hl=>by
  have e:H2 s r day i0 0 k=[]:=rfl
  rw [e,List.filter_nil,a0j,show k+((0:Nat):Int)=k by omega,show c+(([]:List Int).length:Int)=c by simp]
  unfold a0m
  by_cases he:T4 r to til (q8 r (i0+k * r.Interval)) c
  . rw [if_pos he]; exact ⟨rfl,fun h=>absurd h Bool.false_ne_true,fun h=>absurd he h⟩
  . rw [if_neg he]; exact ⟨rfl,fun _=>he,fun _=>rfl⟩
 | n+1,k,c,hl=>by
  have hI:=E1 hF
  have h2:LoP r (i0+(k+1) * r.Interval):=hl.at hI (by omega)
  by_cases he:T4 r to til (q8 r (i0+k * r.Interval)) c
  . have e:H3 r c ((H2 s r day i0 (n+1) k).filter (PT first to til))=[]:=by
      by_cases hc:0<r.Count/\r.Count<=c
      . exact b1v hc.1 hc.2
      . rw [filter_nil,a0j]
        intro u hu
        have g:=a4m hF hl hu
        unfold T4 at he
        rw [R9]; omega
    have a:=V8 hI (show k<=k+((n+1:Nat):Int) by omega)
    have m:=H6 hl (show i0+k * r.Interval<=i0+(k+((n+1:Nat):Int)) * r.Interval by omega)
    rw [e]
    unfold a0m
    rw [if_pos he]
    exact ⟨rfl,fun h=>absurd h Bool.false_ne_true,fun h=>absurd (he.up m (by show c<=c+((0:Nat):Int); omega)) h⟩
  . have ic:=b19 (r:=r) (first:=first) (to:=to) (til:=til) (c:=c) (b9a (day:=day) (i:=i0+k * r.Interval) hF)
    have ih:=b86 hF (n:=n) (k:=k+1) (c:=c+(H3 r c ((A8 s r day (i0+k * r.Interval)).filter (PT first to til))).length) h2
    have ep:H2 s r day i0 (n+1) k=A8 s r day (i0+k * r.Interval)++H2 s r day i0 n (k+1):=rfl
    unfold a0m
    rw [if_neg he,ic,ep,List.filter_append,b99,List.length_append]
    dsimp only
    rw [ih.1]
    refine ⟨rfl,ih.2.trans ?_⟩
    have hn:∀ a b:Nat,c+((a+b:Nat):Int)=c+a+b:=fun a b=>by omega
    rw [show k+1+(n:Int)=k+((n+1:Nat):Int) by omega,hn]
theorem a0i {fr:Int} (hF:s9 s r) (h0:0<=k0S s r fr) :
  (I3 s r day fr to).1=(if b8 s<to then [b8 s] else [])++H3 r 1 ((H2 s r day (l4 r (b8 s)) (40000-k0S s r fr).toNat (k0S s r fr)).filter (PT (b8 s) to (L9 r))) /\
  ((I3 s r day fr to).2=true↔¬ T4 r to (L9 r) (q8 r (l4 r (b8 s)+(k0S s r fr+(40000-k0S s r fr).toNat) * r.Interval)) (1+(H3 r 1 ((H2 s r day (l4 r (b8 s)) (40000-k0S s r fr).toNat (k0S s r fr)).filter (PT (b8 s) to (L9 r)))).length)):=by
 obtain ⟨a,b⟩:=w9 hF.rt
 have hw:=P0 hF
 have hl:=K9 (r:=r) a b hw.1 hw.2
 have hl:LoP r (l4 r (b8 s)+k0S s r fr * r.Interval):=hl.up (by have:=Int.mul_nonneg h0 (show 0<=r.Interval by have:=E1 hF; omega); omega)
 obtain ⟨h1,h2⟩:=b86 (day:=day) (first:=b8 s) (to:=to) (til:=L9 r) hF (n:=(40000-k0S s r fr).toNat) (c:=1) hl
 unfold I3
 exact ⟨by rw [h1],h2⟩
end
end Go.Re
end
section
namespace Go.Re
open Go Go.Wk Go.Wl Go.Rx
theorem b55:∀ {l m:List Int},Up l->Up m->(∀ t,t∈l↔t∈m)->l=m
 | [],[],_,_,_=>rfl
 | [],y::m,_,_,h=>absurd ((h y).2 (List.mem_cons_self ..)) (by simp)
 | x::l,[],_,_,h=>absurd ((h x).1 (List.mem_cons_self ..)) (by simp)
 | x::l,y::m,hl,hm,h=>by
  obtain ⟨a1,a2⟩:=List.pairwise_cons.1 hl
  obtain ⟨b1,b2⟩:=List.pairwise_cons.1 hm
  have e:x=y:=by
   rcases List.mem_cons.1 ((h x).1 (List.mem_cons_self ..)) with e | e
   . exact e
   . rcases List.mem_cons.1 ((h y).2 (List.mem_cons_self ..)) with e2 | e2
     . exact e2.symm
     . have:=b1 x e; have:=a1 y e2; omega
  subst e
  rw [b55 a2 b2 fun t=>⟨fun ht=>?_,fun ht=>?_⟩]
  . rcases List.mem_cons.1 ((h t).1 (List.mem_cons_of_mem _ ht)) with e | e
    . subst e; have:=a1 t ht; omega
    . exact e
  . rcases List.mem_cons.1 ((h t).2 (List.mem_cons_of_mem _ ht)) with e | e
    . subst e; have:=b1 t ht; omega
    . exact e
def geB (x t:Int):Bool:=decide (x<=t)
def ltB (x t:Int):Bool:=decide (t<x)
theorem a6m {x t:Int}:geB x t=true↔x<=t:=decide_eq_true_iff
theorem lt_iff {x t:Int}:ltB x t=true↔t<x:=decide_eq_true_iff
theorem a50 {s a:Tm}:∀ {l:List Int},frA s a l=(l.filter (geB (b8 a))).map (fun t=>atS t s)
 | []=>rfl
 | t::l=>by
  show (if b8 a<=t then atS t s::frA s a l else frA s a l)=_
  by_cases h:b8 a<=t
  . rw [if_pos h,List.filter_cons_of_pos (a6m.2 h),a50]; rfl
  . rw [if_neg h,List.filter_cons_of_neg (fun e=>h (a6m.1 e)),a50]
theorem c74 {x:Int}:∀ {l:List Int},Up l->l=l.filter (ltB x)++l.filter (geB x)
 | [],_=>rfl
 | t::l,h=>by
  obtain ⟨a1,a2⟩:=List.pairwise_cons.1 h
  by_cases hx:t<x
  . rw [List.filter_cons_of_pos (lt_iff.2 hx),List.filter_cons_of_neg (fun e=>by have:=a6m.1 e; omega),List.cons_append,<- c74 a2]
  . have e:(t::l).filter (ltB x)=[]:=filter_nil fun u hu e=>by
      have:=lt_iff.1 e
      rcases List.mem_cons.1 hu with rfl | hu
      . exact hx this
      . have:=a1 u hu; omega
    rw [e,List.nil_append,List.filter_eq_self.2]
    intro u hu
    refine a6m.2 ?_
    rcases List.mem_cons.1 hu with rfl | hu
    . omega
    . have:=a1 u hu; omega
theorem b4j {s a:Tm} {l m:List Int}:(frA s a l).length<=(frA s a (l++m)).length:=by
 rw [a1t,List.length_append]; omega
theorem a9q {s a:Tm}:∀ {T y:List Int} {e:Bool},((frA s a (y++T)).length:Int)<=1000->N8 (a3k s a) y T e=(y++T,e)
 | [],y,e,_=>by unfold N8; rw [List.append_nil]
 | t::T,y,e,h=>by
  have e1:y++t::T=(y++[t])++T:=by simp
  rw [e1] at h ⊢
  have:=b4j (s:=s) (a:=a) (l:=y++[t]) (m:=T)
  have hr:a3k s a y t=true:=decide_eq_true (by omega)
  unfold N8
  rw [hr]
  exact a9q h
theorem a7d {s a:Tm}:∀ {T y:List Int} {e:Bool},((frA s a y).length:Int)<=1000->1000<((frA s a (y++T)).length:Int)->(N8 (a3k s a) y T e).2=false/\1000<((frA s a (N8 (a3k s a) y T e).1).length:Int)
 | [],y,e,h0,h=>by rw [List.append_nil] at h; omega
 | t::T,y,e,h0,h=>by
  have e1:y++t::T=(y++[t])++T:=by simp
  rw [e1] at h
  unfold N8
  by_cases hr:((frA s a (y++[t])).length:Int)<=1000
  . rw [show a3k s a y t=true from decide_eq_true hr]
    exact a7d hr h
  . rw [show a3k s a y t=false from decide_eq_false hr]
    exact ⟨rfl,by show 1000<((frA s a (y++[t])).length:Int); omega⟩
abbrev X5 (s:Tm) (r:Rl) (a b:Tm):List Int×Bool:=I3 s r (m6 s.Day) (b8 a) (b8 b)
structure d3l (s:Tm) (r:Rl) (a b:Tm):Prop where
 bad:¬ a5i s r a b
 far:S3 s r (m6 s.Day) (b8 b)=false
 many:(X5 s r a b).2=false
 few:((frA s a (X5 s r a b).1).length:Int)<=1000
theorem c8s {s a b:Tm} {r:Rl} (h:d3l s r a b):C3 s r a b=(frA s a (X5 s r a b).1,.nil):=by
 unfold C3 b3z
 rw [if_neg h.bad,h.far,if_neg Bool.false_ne_true,a9q (T:=(X5 s r a b).1) (y:=[]) (e:=(X5 s r a b).2) h.few]
 unfold b2h
 rw [h.many,if_neg Bool.false_ne_true]
 exact if_neg (show ¬ 1000<((frA s a (X5 s r a b).1).length:Int) by have:=h.few; omega)
theorem nr2:(Err.no 2).nr=2:=by decide
theorem nr5:(Err.no 5).nr=5:=by decide
theorem e5s:(Err.no 16).nr=16:=by decide
theorem c20 {s a b:Tm} {r:Rl}:d3l s r a b ∨ ((C3 s r a b).1=[]/\((C3 s r a b).2.nr=2 ∨ (C3 s r a b).2.nr=5 ∨ (C3 s r a b).2.nr=16)):=by
 by_cases h1:a5i s r a b
 . right; unfold C3; rw [if_pos h1]; exact ⟨rfl,.inl nr2⟩
 cases h2:S3 s r (m6 s.Day) (b8 b) with
 | true=>right; unfold C3; rw [if_neg h1,h2,if_pos rfl]; exact ⟨rfl,.inr (.inl nr5)⟩
 | false =>
 by_cases h4:((frA s a (X5 s r a b).1).length:Int)<=1000
 . cases h3:(X5 s r a b).2 with
   | true =>
    right
    unfold C3 b3z
    rw [if_neg h1,h2,if_neg Bool.false_ne_true,a9q (T:=(X5 s r a b).1) (y:=[]) (e:=(X5 s r a b).2) h4]
    unfold b2h
    rw [h3,if_pos rfl]
    exact ⟨rfl,.inr (.inl nr5)⟩
   | false=>exact .inl ⟨h1,h2,h3,h4⟩
 . right
   obtain ⟨q1,q2⟩:=a7d (s:=s) (a:=a) (T:=(X5 s r a b).1) (y:=[]) (e:=(X5 s r a b).2) (show ((0:Nat):Int)<=1000 by decide) (by rw [List.nil_append]; omega)
   unfold C3 b3z
   rw [if_neg h1,h2,if_neg Bool.false_ne_true]
   unfold b2h
   rw [q1,if_neg Bool.false_ne_true,if_pos q2]
   exact ⟨rfl,.inr (.inr e5s)⟩
theorem c9j {s a b:Tm} {r:Rl}:((C3 s r a b).1.length:Int)<=1000:=by
 rcases c20 (s:=s) (r:=r) (a:=a) (b:=b) with e | ⟨e,_⟩
 . rw [c8s e]; exact e.few
 . rw [e]; decide
theorem c1e {s a b:Tm} {r:Rl} (h:¬ a5i s r a b):s9 s r/\p4 a=true/\p4 b=true :=
 ⟨G6.1 (Classical.not_not.1 fun e=>h (.inl (.inl e))),Classical.not_not.1 fun e=>h (.inl (.inr e)),Classical.not_not.1 fun e=>h (.inr e)⟩
section
variable {s:Tm} {r:Rl} {day first to til i0 k c t m fr:Int} {n:Nat}
theorem b9r {x:Int}:∀ {l:List Int} {n:Nat},Up l->(l.take n).filter (ltB x)=(l.filter (ltB x)).take n
 | [],n,_=>by simp
 | t::l,0,_=>by simp
 | t::l,n+1,h=>by
  obtain ⟨a1,a2⟩:=List.pairwise_cons.1 h
  rw [List.take_succ_cons]
  by_cases hx:t<x
  . rw [List.filter_cons_of_pos (lt_iff.2 hx),List.filter_cons_of_pos (lt_iff.2 hx),List.take_succ_cons,b9r a2]
  . have no:∀ u∈l,¬ ltB x u=true:=fun u hu e=>by have:=lt_iff.1 e; have:=a1 u hu; omega
    rw [List.filter_cons_of_neg (fun e=>hx (lt_iff.1 e)),List.filter_cons_of_neg (fun e=>hx (lt_iff.1 e)),filter_nil no,filter_nil fun u hu=>no u (List.mem_of_mem_take hu),List.take_nil]
theorem e2i {x:Int} {l:List Int} (h:Up l):(H3 r c l).filter (ltB x)=H3 r c (l.filter (ltB x)):=by
 unfold H3
 split
 . exact b9r h
 . rfl
theorem W9 (hF:s9 s r) (h0:0<=fr):0<=k0S s r fr/\(k0S s r fr=0 ∨ (r.Count=0/\b8 s<fr/\q8 r (l4 r (b8 s)+k0S s r fr * r.Interval)<=fr)):=by
 obtain ⟨a,b⟩:=w9 hF.rt
 obtain ⟨w0,w1⟩:=P0 hF
 have hI:=E1 hF
 have hz:=d2x (s:=s) (r:=r) (fr:=fr) hI (fun x x0 x1=>a09 x0 x1 w0 w1) h0 ⟨a,b⟩
 refine ⟨hz.1,?_⟩
 by_cases hc:r.Count=0/\b8 s<fr
 . by_cases hk:k0S s r fr=0
   . exact .inl hk
   refine .inr ⟨hc.1,hc.2,?_⟩
   have h2:k0S s r fr=max 0 ((l4 r (min fr 315537897599)-l4 r (b8 s)).tdiv r.Interval-1):=if_pos hc
   have hm:=T8 (r:=r) (t:=b8 s) (u:=min fr 315537897599) a (by omega) (by omega) w0 w1
   rw [Int.tdiv_eq_ediv_of_nonneg (by omega)] at h2
   have h3:=Int.ediv_mul_le (l4 r (min fr 315537897599)-l4 r (b8 s)) (show r.Interval≠0 by omega)
   have h4:((l4 r (min fr 315537897599)-l4 r (b8 s)) / r.Interval-1) * r.Interval=(l4 r (min fr 315537897599)-l4 r (b8 s)) / r.Interval * r.Interval-r.Interval:=by rw [Int.sub_mul,Int.one_mul]
   have h5:k0S s r fr=(l4 r (min fr 315537897599)-l4 r (b8 s)) / r.Interval-1:=by omega
   have hl:LoP r (l4 r (b8 s)+k0S s r fr * r.Interval):=(K9 (r:=r) a b w0 w1).up (by omega)
   have:=(K7 hl (t:=min fr 315537897599) (by omega) (by omega)).2 (by rw [h5,h4]; omega)
   omega
 . exact .inl (if_neg hc)
theorem d0s (hF:s9 s r) (h0:0<=fr) (h:fr<=m):k0S s r fr<=k0S s r m:=by
 obtain ⟨a,b⟩:=w9 hF.rt
 obtain ⟨w0,w1⟩:=P0 hF
 have hI:=E1 hF
 by_cases hc:r.Count=0/\b8 s<fr
 . have h1:k0S s r fr=max 0 ((l4 r (min fr 315537897599)-l4 r (b8 s)).tdiv r.Interval-1):=if_pos hc
   have h2:k0S s r m=max 0 ((l4 r (min m 315537897599)-l4 r (b8 s)).tdiv r.Interval-1):=if_pos ⟨hc.1,by omega⟩
   have hm:=T8 (r:=r) (t:=b8 s) (u:=min fr 315537897599) a (by omega) (by omega) w0 w1
   have hm2:=T8 (r:=r) (t:=min fr 315537897599) (u:=min m 315537897599) (by omega) (by omega) (by omega) w0 w1
   rw [Int.tdiv_eq_ediv_of_nonneg (by omega)] at h1 h2
   have:=Int.ediv_le_ediv (show 0<r.Interval by omega) (show l4 r (min fr 315537897599)-l4 r (b8 s)<=l4 r (min m 315537897599)-l4 r (b8 s) by omega)
   omega
 . have h1:k0S s r fr=0:=if_neg hc
   have:=(W9 hF (show 0<=m by omega)).1
   omega
theorem c0d (hF:s9 s r) {k:Int} (h0:0<=k) {n:Nat}:Up (H2 s r day (l4 r (b8 s)) n k):=by
 obtain ⟨a,b⟩:=w9 hF.rt
 obtain ⟨w0,w1⟩:=P0 hF
 have hI:=E1 hF
 exact b87 hF ((K9 (r:=r) a b w0 w1).up (by have:=Int.mul_nonneg h0 (show 0<=r.Interval by omega); omega))
theorem d6e (hF:s9 s r) (h0:0<=fr) (hm:fr<=m):(I3 s r day m to).1.filter (geB m)=(I3 s r day fr to).1.filter (geB m)/\((I3 s r day fr to).2=false->(I3 s r day m to).2=false):=by
 have hk:=(W9 hF h0).1
 obtain ⟨hk2,hk3⟩:=W9 (fr:=m) hF (by omega)
 have hkm:=d0s hF h0 hm
 obtain ⟨a1,a2⟩:=a0i (day:=day) (to:=to) hF hk2
 obtain ⟨b1,b2⟩:=a0i (day:=day) (to:=to) hF hk
 obtain ⟨a,b⟩:=w9 hF.rt
 obtain ⟨w0,w1⟩:=P0 hF
 have hI:=E1 hF
 have U1:=c0d (day:=day) (n:=(40000-k0S s r fr).toNat) hF hk
 have U2:=c0d (day:=day) (n:=(40000-k0S s r m).toNat) hF hk2
 by_cases he:k0S s r m=k0S s r fr
 . rw [he] at a1 a2
   refine ⟨by rw [a1,b1],fun h=>?_⟩
   rw [<- Bool.not_eq_true,b2] at h
   rw [<- Bool.not_eq_true,a2]
   exact h
 have hc:=hk3.resolve_left (by omega)
 have nc:¬ 0<r.Count:=by omega
 have lo:∀ j:Int,0<=j->LoP r (l4 r (b8 s)+j * r.Interval):=fun j hj=>(K9 (r:=r) a b w0 w1).up (by have:=Int.mul_nonneg hj (show 0<=r.Interval by omega); omega)
 rw [e45 nc] at a1 b1
 refine ⟨?_,fun h=>?_⟩
 . rw [a1,b1,List.filter_append,List.filter_append]
   congr 1
   refine b55 ((U2.filter _).filter _) ((U1.filter _).filter _) fun t=>?_
   rw [List.mem_filter,List.mem_filter,List.mem_filter,List.mem_filter,a6m,a1j,a1j]
   have key:m<=t->((∃ j:Int,k0S s r m<=j/\j<k0S s r m+(40000-k0S s r m).toNat/\t∈A8 s r day (l4 r (b8 s)+j * r.Interval))↔∃ j:Int,k0S s r fr<=j/\j<k0S s r fr+(40000-k0S s r fr).toNat/\t∈A8 s r day (l4 r (b8 s)+j * r.Interval)):=fun hmt=>by
    constructor
    . rintro ⟨j,j0,j1,hj⟩
      exact ⟨j,by omega,by omega,hj⟩
    . rintro ⟨j,j0,j1,hj⟩
      have hjk:k0S s r m<=j:=by
       rcases Int.lt_or_le j (k0S s r m) with hlt | hge
       . exfalso
         have g:=(a1o hF hj).2.2
         have u:=V8 hI (show j+1<=k0S s r m by omega)
         rw [mul_succ] at u
         have:=H6 ((lo j (by omega)).up (j:=l4 r (b8 s)+j * r.Interval+1) (by omega)) (show l4 r (b8 s)+j * r.Interval+1<=l4 r (b8 s)+k0S s r m * r.Interval by omega)
         omega
       . exact hge
      exact ⟨j,hjk,by omega,hj⟩
   constructor
   . rintro ⟨⟨h1,h2⟩,h3⟩; exact ⟨⟨(key h3).1 h1,h2⟩,h3⟩
   . rintro ⟨⟨h1,h2⟩,h3⟩; exact ⟨⟨(key h3).2 h1,h2⟩,h3⟩
 . rw [<- Bool.not_eq_true,b2,Classical.not_not] at h
   rw [<- Bool.not_eq_true,a2,Classical.not_not]
   have u:=V8 hI (show k0S s r fr+(40000-k0S s r fr).toNat<=k0S s r m+(40000-k0S s r m).toNat by omega)
   have:=H6 (lo (k0S s r fr+(40000-k0S s r fr).toNat) (by omega)) (show l4 r (b8 s)+(k0S s r fr+(40000-k0S s r fr).toNat) * r.Interval<=l4 r (b8 s)+(k0S s r m+(40000-k0S s r m).toNat) * r.Interval by omega)
   unfold T4 at h ⊢
   omega
end
theorem c3j {s a:Tm} {l:List Int}:frA s a (l.filter (geB (b8 a)))=frA s a l:=by
 rw [a50,a50,List.filter_filter]
 congr 1
 exact List.filter_congr fun t _=>Bool.and_self ..
end Go.Re
end
section
namespace Go.Re
open Go Go.Wk Go.Wl Go.Rx
theorem c82:∀ {T y:List Int} {e:Bool},N8 (fun _ _=>true) y T e=(y++T,e)
 | [],y,e=>by unfold N8; rw [List.append_nil]
 | t::T,y,e=>by unfold N8; rw [cond_true,c82]; simp
theorem b9j {res:List Int->Int->Bool}:∀ {T y:List Int} {e:Bool},(N8 res y T e).1.length<=y.length+T.length
 | [],y,e=>by unfold N8; simp
 | t::T,y,e=>by
  unfold N8
  cases res y t with
  | true =>
   have:=b9j (res:=res) (T:=T) (y:=y++[t]) (e:=e)
   rw [List.length_append] at this
   simp only [List.length_cons,List.length_nil] at this ⊢
   rw [cond_true]
   omega
  | false=>simp
theorem b2x {s:Tm} {r:Rl} {day to fr:Int} (hF:s9 s r) (h0:0<=fr) (h:S3 s r day to=false):(I3 s r day fr to).2=false:=by
 obtain ⟨hk,hk1⟩:=W9 hF h0
 obtain ⟨a,b⟩:=w9 hF.rt
 obtain ⟨w0,w1⟩:=P0 hF
 have hI:=E1 hF
 have lo:∀ j:Int,0<=j->LoP r (l4 r (b8 s)+j * r.Interval):=fun j hj=>(K9 (r:=r) a b w0 w1).up (by have:=Int.mul_nonneg hj (show 0<=r.Interval by omega); omega)
 rw [<- Bool.not_eq_true,(a0i (day:=day) (to:=to) hF hk).2,Classical.not_not]
 have u:=V8 hI (show 40000<=k0S s r fr+(40000-k0S s r fr).toNat by omega)
 have hb:=H6 (lo 40000 (by decide)) (show l4 r (b8 s)+40000 * r.Interval<=l4 r (b8 s)+(k0S s r fr+(40000-k0S s r fr).toNat) * r.Interval by omega)
 obtain ⟨g0,g1⟩:=I9 (r:=r) (lo 40000 (by decide)).a
 have hin:=fun t ht=>a4m (t:=t) (day:=day) (n:=40000) hF (lo 0 (by decide)) ht
 unfold S3 at h
 rw [show (0:Int)+((40000:Nat):Int)=40000 by omega] at hin
 generalize q8 r (l4 r (b8 s)+40000 * r.Interval)=b4 at *
 by_cases h1:to<=b4 ∨ 315537897600<=b4
 . unfold T4; omega
 rw [if_neg h1] at h
 by_cases h2:0<(r.Until.length:Int)/\b8 (ix r.Until 0)<b4
 . have e:L9 r=b8 (ix r.Until 0):=if_pos h2.1
   unfold T4; omega
 rw [if_neg h2] at h
 by_cases h3:0<r.Count
 . rw [if_pos h3] at h
   have hz:k0S s r fr=0:=hk1.resolve_right (by omega)
   have hz0:k0S s r 0=0:=(W9 hF (show (0:Int)<=0 by decide)).2.resolve_right (by omega)
   have e1:=(a0i (day:=day) (fr:=0) (to:=b4) hF (by omega)).1
   rw [hz0] at e1
   rw [hz]
   have l1:=b9j (res:=a1b r) (T:=(I3 s r day 0 b4).1) (y:=[]) (e:=(I3 s r day 0 b4).2)
   unfold c4z at h
   generalize N8 (a1b r) [] (I3 s r day 0 b4).1 (I3 s r day 0 b4).2=g at *
   have hg:r.Count<=(g.1.length:Int):=by
    by_cases hh:r.Count<=(g.1.length:Int) ∨ g.2=true
    . rw [if_pos hh] at h
      exact hh.resolve_right (by rw [h]; decide)
    . rw [if_neg hh] at h; cases h
   rw [e1,List.length_append] at l1
   have l2:(if b8 s<b4 then [b8 s] else []).length<=1:=by split <;> simp
   have e:(H2 s r day (l4 r (b8 s)) (40000-(0:Int)).toNat 0).filter (PT (b8 s) to (L9 r))=(H2 s r day (l4 r (b8 s)) (40000-(0:Int)).toNat 0).filter (PT (b8 s) b4 (L9 r)):=List.filter_congr fun t ht=>by
    have:=hin t ht
    rw [Bool.eq_iff_iff,R9,R9]
    omega
   rw [e]
   rw [List.length_nil] at l1
   unfold T4
   omega
 . rw [if_neg h3] at h; cases h
section
variable {s:Tm} {r:Rl} {day tl k to:Int}
end
end Go.Re
end
section
namespace Go.Re
open Go Go.Wk Go.Wl Go.Rx
structure AtP (s:Tm) (u:Int):Prop where
 a:0<=u
 b:u<315537897600
 c:s.Bare=true->s.UTC=false/\u % 86400=0
section
variable {s:Tm} {r:Rl} {day t u to fr:Int}
structure e6j (s:Tm) (r:Rl) (day to t:Int):Prop where
 a:AtP s t
 b:t<to
 c:t=b8 s ∨ b8 s<t/\∃ j:Int,0<=j/\t∈A8 s r day (l4 r (b8 s)+j * r.Interval)
theorem e6j.ge (h:e6j s r day to t):b8 s<=t:=by
 rcases h.c with e | e <;> omega
end
end Go.Re
end
section
namespace Go.Re
open Go Go.Wk Go.Wl Go.Rx
def inK (s:Tm) (r:Rl) (k t:Int):Bool:=decide (D9 s r t=k * r.Interval)
def grp (s:Tm) (r:Rl) (X:List Int) (k:Int):List Int:=X.filter (inK s r k)
def D5 (s:Tm) (r:Rl) (X:List Int):Nat->Int->List (Int×Int)
 | 0,_=>[]
 | n+1,k=>(u4 r (grp s r X k)).map (fun t=>(t,k))++D5 s r X n (k+1)
section
variable {s:Tm} {r:Rl} {X:List Int} {t k:Int}
theorem b9y:t∈grp s r X k↔t∈X/\D9 s r t=k * r.Interval:=by
 unfold grp inK
 rw [List.mem_filter,decide_eq_true_iff]
theorem a6v:grp s r (X++[t]) k=if D9 s r t=k * r.Interval then grp s r X k++[t] else grp s r X k:=by
 unfold grp
 rw [List.filter_append]
 by_cases h:D9 s r t=k * r.Interval
 . rw [if_pos h,List.filter_cons_of_pos (show inK s r k t=true from decide_eq_true h),List.filter_nil]
 . rw [if_neg h,List.filter_cons_of_neg (show ¬ inK s r k t=true from fun e=>h (of_decide_eq_true (show decide (D9 s r t=k * r.Interval)=true from e))),List.filter_nil,List.append_nil]
theorem b91 (h:∀ t∈X,D9 s r t≠k * r.Interval):grp s r X k=[]:=filter_nil fun t ht e=>h t ht (of_decide_eq_true (show decide (D9 s r t=k * r.Interval)=true from e))
theorem a2n:u4 r []=[]:=by unfold u4; split <;> rfl
theorem a5w:∀ {n m:Nat} {k:Int},D5 s r X (n+m) k=D5 s r X n k++D5 s r X m (k+n)
 | 0,m,k=>by
  rw [Nat.zero_add,show k+((0:Nat):Int)=k by omega]; rfl
 | n+1,m,k=>by
  rw [show n+1+m=(n+m)+1 by omega]
  show _++D5 s r X (n+m) (k+1)=(_++D5 s r X n (k+1))++_
  rw [a5w,List.append_assoc,show k+1+(n:Int)=k+((n+1:Nat):Int) by omega]
theorem a2r:∀ {n:Nat} {k:Int},(∀ j:Int,k<=j->j<k+n->grp s r X j=[])->D5 s r X n k=[]
 | 0,_,_=>rfl
 | n+1,k,h=>by
  unfold D5
  rw [h k (Int.le_refl _) (by omega),a2n,a2r fun j h1 h2=>h j (by omega) (by omega)]
  rfl
theorem W5 {Y:List Int}:∀ {n:Nat} {k:Int},(∀ j:Int,k<=j->j<k+n->grp s r X j=grp s r Y j)->D5 s r X n k=D5 s r Y n k
 | 0,_,_=>rfl
 | n+1,k,h=>by
  unfold D5
  rw [h k (Int.le_refl _) (by omega),W5 fun j h1 h2=>h j (by omega) (by omega)]
theorem a1n {p:Int×Int}:∀ {n:Nat} {k:Int},p∈D5 s r X n k↔∃ j:Int,k<=j/\j<k+n/\p.1∈u4 r (grp s r X j)/\p.2=j
 | 0,k=>by
  unfold D5
  constructor
  . intro h; cases h
  . rintro ⟨j,h1,h2,_⟩; omega
 | n+1,k=>by
  unfold D5
  rw [List.mem_append,a1n,List.mem_map]
  constructor
  . rintro (⟨t,ht,rfl⟩ | ⟨j,h1,h2,h3⟩)
    . exact ⟨k,Int.le_refl _,by omega,ht,rfl⟩
    . exact ⟨j,by omega,by omega,h3⟩
  . rintro ⟨j,h1,h2,h3,h4⟩
    by_cases e:j=k
    . subst e; exact .inl ⟨p.1,h3,by rw [<- h4]⟩
    . exact .inr ⟨j,by omega,by omega,h3,h4⟩
structure GrI (s:Tm) (r:Rl) (X:List Int) (w:Ws):Prop where
 a:(w.now=-1/\w.T=[]/\w.C=[]/\w.run=[]/\∀ t∈X,Z7 s r t) ∨
  ∃ j:Nat,w.now=(j:Int) * r.Interval/\w.T=(D5 s r X j 0).map (·.1)/\w.C=(D5 s r X j 0).map (·.2)/\w.run=grp s r X j/\(∀ t∈X,¬ Z7 s r t->D9 s r t<=(j:Int) * r.Interval)/\∃ t∈X,D9 s r t=(j:Int) * r.Interval
theorem b0p {a b I:Int} (hI:1<=I):a * I<b * I↔a<b:=Int.mul_lt_mul_right (by omega)
theorem b8m {a b I:Int} (hI:1<=I) (h:a * I=b * I):a=b:=Int.eq_of_mul_eq_mul_right (by omega) h
theorem b0d (hI:1<=r.Interval) {j:Int} (hj:0<=j) (e:D9 s r t=j * r.Interval):¬ Z7 s r t:=fun h=>by
 rcases h with h | h
 . have:=Int.mul_nonneg hj (show 0<=r.Interval by omega); omega
 . rw [e] at h; exact h (Int.mul_tmod_left ..)
theorem e4m (hI:1<=r.Interval) (h:¬ Z7 s r t):∃ j:Nat,D9 s r t=(j:Int) * r.Interval:=by
 have h0:0<=D9 s r t:=by
  rcases Int.lt_or_le (D9 s r t) 0 with e | e
  . exact absurd (.inl e) h
  . exact e
 have h1:(D9 s r t).tmod r.Interval=0:=Classical.not_not.1 fun e=>h (.inr e)
 have h2:=(tm0 (a:=D9 s r t) (b:=r.Interval)).1 h1
 have h3:=Int.ediv_mul_cancel (Int.dvd_of_emod_eq_zero h2)
 have hp:=Int.ediv_nonneg h0 (show 0<=r.Interval by omega)
 exact ⟨(D9 s r t / r.Interval).toNat,by rw [show (((D9 s r t / r.Interval).toNat:Nat):Int)=D9 s r t / r.Interval by omega]; exact h3.symm⟩
theorem a9x (hI:1<=r.Interval) (h:∀ t∈X,Z7 s r t) {j:Int} (hj:0<=j):grp s r X j=[]:=b91 fun t ht e=>b0d hI hj e (h t ht)
theorem b17 (hI:1<=r.Interval) {j:Nat} (h:∀ t∈X,¬ Z7 s r t->D9 s r t<=(j:Int) * r.Interval) {i:Int} (hi:(j:Int)<i):grp s r X i=[]:=b91 fun t ht e=>by
 have:=h t ht (b0d hI (by omega) e)
 have:=(b0p (a:=(j:Int)) (b:=i) hI).2 hi
 omega
theorem b9s {j d:Nat} (h:∀ i:Int,(j:Int)<i->i<(j:Int)+1+d->grp s r X i=[]):D5 s r X (j+1+d) 0=D5 s r X j 0++(u4 r (grp s r X j)).map (fun t=>(t,(j:Int))):=by
 rw [show j+1+d=j+(d+1) by omega,a5w,show (0:Int)+(j:Int)=j by omega]
 show _++(_++D5 s r X d ((j:Int)+1))=_
 rw [a2r (n:=d) (k:=(j:Int)+1) fun i h1 h2=>h i (by omega) (by omega),List.append_nil]
theorem a4l {l:List Int} {k:Int}:(l.map fun t=>(t,k)).map (·.1)=l:=by
 rw [List.map_map]
 exact List.map_id' ..
theorem c01 {l:List Int} {k:Int}:(l.map fun t=>(t,k)).map (·.2)=List.replicate l.length k:=by
 rw [List.map_map]
 exact List.map_const ..
theorem GrI.step {w:Ws} (h:GrI s r X w) (hI:1<=r.Interval) (hm:∀ u∈X,D9 s r u<=D9 s r t):GrI s r (X++[t]) (stW s r w t):=by
 by_cases ho:Z7 s r t
 . have hg:∀ j:Int,0<=j->grp s r (X++[t]) j=grp s r X j:=fun j hj=>by
     rw [a6v,if_neg (fun e=>b0d hI hj e ho)]
   rw [b0o ho]
   rcases h.a with ⟨h1,h2,h3,h4,h5⟩ | ⟨j,h1,h2,h3,h4,h5,u,h6,h7⟩
   . refine ⟨.inl ⟨h1,h2,h3,h4,fun u hu=>?_⟩⟩
     rcases List.mem_append.1 hu with hu | hu
     . exact h5 u hu
     . cases List.mem_singleton.1 hu; exact ho
   . have e:D5 s r (X++[t]) j 0=D5 s r X j 0:=W5 fun i i0 _=>hg i i0
     refine ⟨.inr ⟨j,h1,by rw [e]; exact h2,by rw [e]; exact h3,by rw [hg j (by omega)]; exact h4,fun u hu hn=>?_,u,List.mem_append_left _ h6,h7⟩⟩
     rcases List.mem_append.1 hu with hu | hu
     . exact h5 u hu hn
     . cases List.mem_singleton.1 hu; exact absurd ho hn
 obtain ⟨j2,e2⟩:=e4m hI ho
 have h0:=Int.mul_nonneg (show (0:Int)<=(j2:Int) by omega) (show 0<=r.Interval by omega)
 have hg:∀ j:Int,j≠j2->grp s r (X++[t]) j=grp s r X j:=fun j hj=>by
  rw [a6v,if_neg (fun e=>hj (b8m hI (e.symm.trans e2)))]
 have hg2:grp s r (X++[t]) j2=grp s r X j2++[t]:=by rw [a6v,if_pos e2]
 by_cases hn:D9 s r t≠w.now
 . rw [b0u ho hn]
   refine ⟨.inr ⟨j2,e2,?_⟩⟩
   rcases h.a with ⟨h1,h2,h3,h4,h5⟩ | ⟨j,h1,h2,h3,h4,h5,u,h6,h7⟩
   . have e:D5 s r (X++[t]) j2 0=[]:=a2r fun i i0 i1=>by
       rw [hg i (by omega)]; exact a9x hI h5 i0
     refine ⟨?_,?_,?_,fun u hu hn=>?_,t,by simp,e2⟩
     . rw [e]; show w.T++u4 r w.run=[]; rw [h2,h4,a2n]; rfl
     . rw [e]; show w.C++List.replicate (u4 r w.run).length _=[]; rw [h3,h4,a2n]; rfl
     . rw [hg2,a9x hI h5 (by omega)]; rfl
     . rcases List.mem_append.1 hu with hu | hu
       . exact absurd (h5 u hu) hn
       . cases List.mem_singleton.1 hu; omega
   . have hj:j<j2:=by
       have a:=hm u h6
       rw [h7,e2] at a
       rcases Int.lt_trichotomy (j:Int) j2 with q | q | q
       . omega
       . exact absurd (by rw [e2,h1,q]) hn
       . have:=(b0p (a:=(j2:Int)) (b:=j) hI).2 q; omega
     have e:D5 s r (X++[t]) j2 0=D5 s r X j 0++(u4 r (grp s r X j)).map (fun t=>(t,(j:Int))):=by
      have q:=b9s (s:=s) (r:=r) (X:=X++[t]) (j:=j) (d:=j2-(j+1)) fun i i0 i1=>by
       rw [hg i (by omega)]; exact b17 hI h5 i0
      rw [show j+1+(j2-(j+1))=j2 by omega] at q
      rw [q,hg j (by omega),W5 fun i i0 i1=>hg i (by omega)]
     refine ⟨?_,?_,?_,fun u hu hn=>?_,t,by simp,e2⟩
     . rw [e,List.map_append,a4l]
       show w.T++u4 r w.run=_
       rw [h2,h4]
     . rw [e,List.map_append,c01]
       show w.C++List.replicate (u4 r w.run).length (w.now.tdiv r.Interval)=_
       rw [h3,h4,h1,Int.mul_tdiv_cancel _ (show r.Interval≠0 by omega)]
     . rw [hg2,b17 hI h5 (by omega)]; rfl
     . rcases List.mem_append.1 hu with hu | hu
       . have:=h5 u hu hn
         have:=(b0p (a:=(j:Int)) (b:=j2) hI).2 (by omega)
         omega
       . cases List.mem_singleton.1 hu; omega
 . rw [b93 ho hn]
   have hn:=Classical.not_not.1 hn
   rcases h.a with ⟨h1,h2,h3,h4,h5⟩ | ⟨j,h1,h2,h3,h4,h5,u,h6,h7⟩
   . omega
   . have ej:j=j2:=by
       have:=b8m hI (h1.symm.trans (hn.symm.trans e2)); omega
     subst ej
     have e:D5 s r (X++[t]) j 0=D5 s r X j 0:=W5 fun i i0 i1=>hg i (by omega)
     refine ⟨.inr ⟨j,h1,by rw [e]; exact h2,by rw [e]; exact h3,by rw [hg2]; show w.run++[t]=_; rw [h4],fun u hu hn=>?_,u,List.mem_append_left _ h6,h7⟩⟩
     rcases List.mem_append.1 hu with hu | hu
     . exact h5 u hu hn
     . cases List.mem_singleton.1 hu; omega
theorem GrI.all (hI:1<=r.Interval):∀ {m X:List Int} {w:Ws},GrI s r X w->(X++m).Pairwise (fun a b=>D9 s r a<=D9 s r b)->GrI s r (X++m) (m.foldl (stW s r) w)
 | [],X,w,h,_=>by rw [List.append_nil]; exact h
 | t::m,X,w,h,hp=>by
  have e:X++t::m=(X++[t])++m:=by simp
  have hm:∀ u∈X,D9 s r u<=D9 s r t:=fun u hu=>(List.pairwise_append.1 hp).2.2 u hu t (List.mem_cons_self ..)
  rw [e] at hp ⊢
  exact GrI.all hI (h.step hI hm) hp
theorem GrI.fin {w:Ws} {N:Nat} (h:GrI s r X w) (hI:1<=r.Interval) (hN:∀ t∈X,D9 s r t<(N:Int) * r.Interval):(flW r w).T=(D5 s r X N 0).map (·.1)/\(flW r w).C=(D5 s r X N 0).map (·.2):=by
 rcases h.a with ⟨h1,h2,h3,h4,h5⟩ | ⟨j,h1,h2,h3,h4,h5,u,h6,h7⟩
 . have e:D5 s r X N 0=[]:=a2r fun i i0 i1=>a9x hI h5 i0
   rw [e]
   unfold flW
   rw [h2,h3,h4,a2n]
   exact ⟨rfl,rfl⟩
 . have hj:j<N:=by
     have a:=hN u h6
     rw [h7] at a
     have:=(b0p (a:=(j:Int)) (b:=N) hI).1 a
     omega
   have e:=b9s (s:=s) (r:=r) (X:=X) (j:=j) (d:=N-(j+1)) fun i i0 i1=>b17 hI h5 i0
   rw [show j+1+(N-(j+1))=N by omega] at e
   rw [e,List.map_append,List.map_append,a4l,c01]
   unfold flW
   rw [h2,h3,h4,h1,Int.mul_tdiv_cancel _ (show r.Interval≠0 by omega)]
   exact ⟨rfl,rfl⟩
end
end Go.Re
end
section
namespace Go.Re
open Go Go.Wk Go.Wl Go.Rx
section
variable {s:Tm} {r:Rl} {t u to k:Int}
theorem b88 {h m:Int}:∀ {k:Nat},Up (P5 s r h m k)
 | 0=>List.Pairwise.nil
 | k+1=>by
  unfold P5
  refine List.pairwise_append.2 ⟨b88,by split; exact List.pairwise_singleton ..; exact List.Pairwise.nil,fun t ht u hu=>?_⟩
  obtain ⟨x,hx,_,e⟩:=M7.1 ht
  split at hu
  . cases List.mem_singleton.1 hu; omega
  . cases hu
theorem c02 {h:Int}:∀ {k:Nat},Up (P3 s r h k)
 | 0=>List.Pairwise.nil
 | k+1=>by
  unfold P3
  refine List.pairwise_append.2 ⟨c02,by split; exact b88; exact List.Pairwise.nil,fun t ht u hu=>?_⟩
  obtain ⟨m,hm,_,h1⟩:=S8.1 ht
  obtain ⟨x,hx,_,e⟩:=M7.1 h1
  split at hu
  . obtain ⟨y,hy,_,e2⟩:=M7.1 hu; omega
  . cases hu
theorem b9l:∀ {k:Nat},Up (R4 s r k)
 | 0=>List.Pairwise.nil
 | k+1=>by
  unfold R4
  refine List.pairwise_append.2 ⟨b9l,by split; exact c02; exact List.Pairwise.nil,fun t ht u hu=>?_⟩
  obtain ⟨h,hh,_,h1⟩:=a7c.1 ht
  obtain ⟨m,hm,_,h1⟩:=S8.1 h1
  obtain ⟨x,hx,_,e⟩:=M7.1 h1
  split at hu
  . obtain ⟨m2,hm2,_,h2⟩:=S8.1 hu
    obtain ⟨y,hy,_,e2⟩:=M7.1 h2
    omega
  . cases hu
theorem b9e {n:Int}:t∈dyW s r n↔b3p s r (m6 s.Day) t/\t / 86400+1=n:=by
 unfold dyW b3p
 constructor
 . intro h
   split at h
   . rename_i hd
     obtain ⟨c,hc,rfl⟩:=List.mem_map.1 h
     have:=b97 hc
     have e1:(86400 * (n-1)+c) / 86400+1=n:=by omega
     have e2:(86400 * (n-1)+c) % 86400=c:=by omega
     rw [e1,e2]
     exact ⟨⟨hd,hc⟩,rfl⟩
   . cases h
 . rintro ⟨⟨h1,h2⟩,rfl⟩
   rw [if_pos h1]
   exact List.mem_map.2 ⟨t % 86400,h2,by omega⟩
theorem d4s {n:Int}:Up (dyW s r n):=by
 unfold dyW
 split
 . exact List.pairwise_map.2 ((b9l (k:=24)).imp fun h=>by omega)
 . exact List.Pairwise.nil
theorem a2i {a:Int}:∀ {k:Nat},t∈spW s r a k↔b3p s r (m6 s.Day) t/\a<=t / 86400+1/\t / 86400+1<a+k
 | 0=>by
  unfold spW
  constructor
  . intro h; cases h
  . rintro ⟨_,h1,h2⟩; omega
 | k+1=>by
  unfold spW
  rw [List.mem_append,a2i,b9e]
  constructor
  . rintro (⟨p,q⟩ | ⟨p,q⟩)
    . exact ⟨p,by omega⟩
    . exact ⟨p,by omega⟩
  . rintro ⟨p,q⟩
    by_cases e:t / 86400+1<a+k
    . exact .inl ⟨p,q.1,e⟩
    . exact .inr ⟨p,by omega⟩
theorem a9u {a:Int}:∀ {k:Nat},Up (spW s r a k)
 | 0=>List.Pairwise.nil
 | k+1=>by
  unfold spW
  refine List.pairwise_append.2 ⟨a9u,d4s,fun t ht u hu=>?_⟩
  have:=(a2i.1 ht).2
  have:=(b9e.1 hu).2
  omega
theorem a2c:D9 s r t=l4 r t-l4 r (b8 s):=by unfold D9 l4; omega
theorem c1g (hF:s9 s r):b8 s / 86400+1=m6 s.Day:=by
 have hr:=z6.1 hF.rt
 have e:b8 s=a3s s:=if_pos hr
 obtain ⟨hd,hh,hm,hs,_⟩:=hr
 have e2:m6 s.Day=E2 s.Day:=if_pos hd
 rw [e,e2]
 unfold a3s
 omega
theorem c78 (t0:0<=t) (h:t<=u) (u1:u<315537897600) (he:l4 r t=l4 r u):u-t<86400 * a2m r:=by
 obtain ⟨hd,hn⟩:=Q3 (n:=t / 86400+1) (by omega) (by omega)
 obtain ⟨hd2,hn2⟩:=Q3 (n:=u / 86400+1) (by omega) (by omega)
 obtain ⟨c0,c1,c2,c3,c4,c5⟩:=hd.ym
 obtain ⟨d0,d1,d2,d3,d4,d5⟩:=hd2.ym
 unfold l4 s4 at he
 unfold a2m
 generalize ofS (t / 86400+1)=D at *
 generalize ofS (u / 86400+1)=D2 at *
 by_cases f0:r.Freq=0
 . rw [if_pos f0,if_pos f0] at he
   rw [if_neg (by omega),if_neg (by omega),if_pos f0]
   have a:=K6 hd
   have b:=K6 hd2
   have st:=I0 D.Year
   rw [show D2.Year=D.Year by omega] at b
   split at st <;> omega
 rw [if_neg f0,if_neg f0] at he
 by_cases f1:r.Freq=1
 . rw [if_pos f1,if_pos f1,if_pos f1] at he
   rw [if_neg (by omega),if_pos f1]
   have ey:D2.Year=D.Year:=by omega
   have em:D2.Month=D.Month:=by omega
   have e1:E2 D=j6 D.Year+F9 D.Year D.Month+D.Date:=rfl
   have e2:E2 D2=j6 D.Year+F9 D.Year D.Month+D2.Date:=by unfold E2; rw [ey,em]
   omega
 rw [if_neg f1,if_neg f1,if_neg f1] at he
 by_cases f2:r.Freq=2
 . rw [if_pos f2,if_pos f2] at he
   rw [if_neg (by omega),if_neg f1,if_neg f0]
   omega
 rw [if_neg f2,if_neg f2] at he
 by_cases f3:r.Freq=3
 . rw [if_pos f3,if_pos f3] at he
   rw [if_pos (by omega)]
   omega
 rw [if_neg f3,if_neg f3] at he
 by_cases f4:r.Freq=4
 . rw [if_pos f4,if_pos f4] at he
   rw [if_pos (by omega)]
   omega
 rw [if_neg f4,if_neg f4] at he
 by_cases f5:r.Freq=5
 . rw [if_pos f5,if_pos f5] at he
   rw [if_pos (by omega)]
   omega
 rw [if_neg f5,if_neg f5] at he
 by_cases f6:3<=r.Freq
 . rw [if_pos f6]; omega
 . rw [if_neg f6,if_neg f1,if_neg f0]; omega
theorem a0w {d:Dy} (h:B3 d):m6 ⟨d.Year,1,1⟩=j6 d.Year+1:=by
 have hr:=Q8 (y:=d.Year) (m:=1) h.ym.1 h.ym.2.1 (by decide) (by decide)
 unfold m6
 rw [if_pos hr]
 show j6 d.Year+F9 d.Year 1+1=_
 have:F9 d.Year 1=0:=by unfold F9; rw [if_pos (by decide)]
 omega
theorem d0j (hF:s9 s r):G5 s r<=m6 s.Day:=by
 have hr:=z6.1 hF.rt
 have e2:m6 s.Day=E2 s.Day:=if_pos hr.1
 have a:=K6 hr.1
 have b:=a0w hr.1
 have c:=H9 hr.1
 unfold G5
 dsimp only
 (repeat' split) <;> omega
theorem d1y (hF:s9 s r) (t0:0<=t) (t1:t<315537897600) (h:l4 r (b8 s)<=l4 r t):G5 s r<=t / 86400+1:=by
 have hr:=z6.1 hF.rt
 obtain ⟨s0,s1⟩:=w9 hF.rt
 obtain ⟨w0,w1⟩:=P0 hF
 have fl:=d0j hF
 have fd:=c1g hF
 by_cases hlt:b8 s<=t
 . omega
 have hm:=T8 (r:=r) (t:=t) (u:=b8 s) t0 (by omega) s1 w0 w1
 have he:l4 r t=l4 r (b8 s):=by omega
 have e2:m6 s.Day=E2 s.Day:=if_pos hr.1
 have a:=K6 hr.1
 have b:=a0w hr.1
 have c:=H9 hr.1
 obtain ⟨hd,hn⟩:=Q3 (n:=t / 86400+1) (by omega) (by omega)
 obtain ⟨c0,c1,c2,c3,c4,c5⟩:=hd.ym
 obtain ⟨d0,d1,d2,d3,d4,d5⟩:=hr.1.ym
 have es:ofS (b8 s / 86400+1)=s.Day:=by rw [fd,e2,d9r hr.1]
 unfold l4 s4 at he
 rw [es,fd] at he
 generalize ofS (t / 86400+1)=D at *
 have a2:=K6 hd
 unfold G5
 dsimp only
 by_cases f0:r.Freq=0
 . rw [if_pos f0,if_pos f0] at he
   rw [show D.Year=s.Day.Year by omega] at a2
   rw [if_neg (by omega),if_neg (by omega)]
   split <;> omega
 rw [if_neg f0,if_neg f0] at he
 by_cases f1:r.Freq=1
 . rw [if_pos f1,if_pos f1,if_pos f1] at he
   have ey:D.Year=s.Day.Year:=by omega
   have em:D.Month=s.Day.Month:=by omega
   have e3:E2 D=j6 s.Day.Year+F9 s.Day.Year s.Day.Month+D.Date:=by unfold E2; rw [ey,em]
   have e4:E2 s.Day=j6 s.Day.Year+F9 s.Day.Year s.Day.Month+s.Day.Date:=rfl
   rw [ey] at a2
   rw [if_neg (by omega)]
   (repeat' split) <;> omega
 rw [if_neg f1,if_neg f1,if_neg f1] at he
 by_cases f2:r.Freq=2
 . rw [if_pos f2,if_pos f2] at he
   rw [if_neg (by omega)]
   (repeat' split) <;> omega
 rw [if_neg f2,if_neg f2] at he
 have hq:=(n7.1 hF.rr).head.1
 rw [if_pos (by omega)]
 by_cases f3:r.Freq=3
 . rw [if_pos f3,if_pos f3] at he
   omega
 rw [if_neg f3,if_neg f3] at he
 by_cases f4:r.Freq=4
 . rw [if_pos f4,if_pos f4] at he
   omega
 rw [if_neg f4,if_neg f4] at he
 by_cases f5:r.Freq=5
 . rw [if_pos f5,if_pos f5] at he
   omega
 rw [if_neg f5,if_neg f5] at he
 omega
abbrev G4 (s:Tm) (r:Rl) (to:Int):List Int:=spW s r (G5 s r) (P7 s r to)
theorem a2k (hF:s9 s r) (h:t∈G4 s r to):0<=t/\t<315537897600:=by
 have h1:=(a2i.1 h).2
 have hr:=z6.1 hF.rt
 have b:=a0w hr.1
 have c:=H9 hr.1
 have e2:m6 s.Day=E2 s.Day:=if_pos hr.1
 have f:=(b9b (s:=s) (r:=r) (G1 _) (G1 _) (by omega)).1
 unfold P7 at h1
 omega
theorem c42 (hF:s9 s r) (k0:0<=k) (h:q8 r (l4 r (b8 s)+k * r.Interval)<to) :
  grp s r (G4 s r to) k=a7x s r (m6 s.Day) (q8 r (l4 r (b8 s)+k * r.Interval)) (q8 r (l4 r (b8 s)+k * r.Interval+1)):=by
 obtain ⟨s0,s1⟩:=w9 hF.rt
 obtain ⟨w0,w1⟩:=P0 hF
 have hI:=E1 hF
 have hk:=Int.mul_nonneg k0 (show 0<=r.Interval by omega)
 have lo:LoP r (l4 r (b8 s)+k * r.Interval):=(K9 (r:=r) s0 s1 w0 w1).up (by omega)
 have lo1:=lo.up (j:=l4 r (b8 s)+k * r.Interval+1) (by omega)
 have b0:=(I9 (r:=r) lo.a).1
 have b1:=(I9 (r:=r) lo1.a).2
 refine b55 (a9u.filter _) (c03 hF) fun t=>?_
 rw [b9y,b4l hF,a2c]
 constructor
 . rintro ⟨h1,h2⟩
   obtain ⟨t0,t1⟩:=a2k hF h1
   refine ⟨(a2i.1 h1).1,(K7 lo t0 t1).2 (by omega),?_⟩
   rcases Int.lt_or_le t (q8 r (l4 r (b8 s)+k * r.Interval+1)) with q | q
   . exact q
   . have:=(K7 lo1 t0 t1).1 q; omega
 . rintro ⟨h1,h2,h3⟩
   have t0:0<=t:=by omega
   have t1:t<315537897600:=by omega
   have i1:=(K7 lo t0 t1).1 h2
   have i2:¬ l4 r (b8 s)+k * r.Interval+1<=l4 r t:=fun e=>by
    have:=(K7 lo1 t0 t1).2 e; omega
   have i3:=(K7 lo b0 (by omega)).1 (Int.le_refl _)
   have i4:=T8 (r:=r) (t:=q8 r (l4 r (b8 s)+k * r.Interval)) (u:=t) b0 h2 t1 w0 w1
   have nr:=c78 (r:=r) b0 h2 t1 (by omega)
   have fi:=d1y (t:=t) hF t0 t1 (by omega)
   refine ⟨a2i.2 ⟨h1,fi,?_⟩,by omega⟩
   unfold P7
   unfold a2m at nr ⊢
   (repeat' split at nr) <;> simp only [*, if_true,if_false] <;> omega
end
end Go.Re
end
section
namespace Go.Re
open Go Go.Wk Go.Wl Go.Rx
section
variable {s:Tm} {r:Rl} {t u to b k:Int}
theorem b6d (hF:s9 s r) (k0:0<=k) (h:t∈grp s r (G4 s r to) k):q8 r (l4 r (b8 s)+k * r.Interval)<=t/\t<q8 r (l4 r (b8 s)+k * r.Interval+1)/\t<315537897600:=by
 obtain ⟨s0,s1⟩:=w9 hF.rt
 obtain ⟨w0,w1⟩:=P0 hF
 have hk:=Int.mul_nonneg k0 (show 0<=r.Interval by have:=E1 hF; omega)
 have lo:LoP r (l4 r (b8 s)+k * r.Interval):=(K9 (r:=r) s0 s1 w0 w1).up (by omega)
 obtain ⟨h1,h2⟩:=b9y.1 h
 rw [a2c] at h2
 obtain ⟨t0,t1⟩:=a2k hF h1
 refine ⟨(K7 lo t0 t1).2 (by omega),?_,t1⟩
 rcases Int.lt_or_le t (q8 r (l4 r (b8 s)+k * r.Interval+1)) with q | q
 . exact q
 . have:=(K7 (lo.up (j:=l4 r (b8 s)+k * r.Interval+1) (by omega)) t0 t1).1 q; omega
theorem b7o (hF:s9 s r) {n:Nat} (k0:0<=k) (h:t∈(D5 s r (G4 s r to) n k).map (·.1)):q8 r (l4 r (b8 s)+k * r.Interval)<=t/\t<q8 r (l4 r (b8 s)+(k+n) * r.Interval)/\t<315537897600:=by
 obtain ⟨p,hp,rfl⟩:=List.mem_map.1 h
 obtain ⟨j,j0,j1,hj,_⟩:=a1n.1 hp
 obtain ⟨s0,s1⟩:=w9 hF.rt
 obtain ⟨w0,w1⟩:=P0 hF
 have hI:=E1 hF
 have lo:∀ j:Int,0<=j->LoP r (l4 r (b8 s)+j * r.Interval):=fun j hj=>(K9 (r:=r) s0 s1 w0 w1).up (by have:=Int.mul_nonneg hj (show 0<=r.Interval by omega); omega)
 obtain ⟨g1,g2,g3⟩:=b6d hF (show 0<=j by omega) (U6.subset hj)
 have a:=V8 hI j0
 have c:=V8 hI (show j+1<=k+n by omega)
 rw [mul_succ] at c
 have d:=H6 (lo k k0) (show l4 r (b8 s)+k * r.Interval<=l4 r (b8 s)+j * r.Interval by omega)
 have e:=H6 ((lo j (by omega)).up (j:=l4 r (b8 s)+j * r.Interval+1) (by omega)) (show l4 r (b8 s)+j * r.Interval+1<=l4 r (b8 s)+(k+n) * r.Interval by omega)
 exact ⟨by omega,by omega,g3⟩
theorem c72 (hF:s9 s r):∀ {n:Nat} {k:Int},0<=k->Up ((D5 s r (G4 s r to) n k).map (·.1))
 | 0,_,_=>List.Pairwise.nil
 | n+1,k,k0=>by
  show Up ((((u4 r (grp s r (G4 s r to) k)).map fun t=>(t,k))++D5 s r (G4 s r to) n (k+1)).map (·.1))
  rw [List.map_append,a4l]
  refine List.pairwise_append.2 ⟨(a9u.filter _).sublist U6,c72 hF (by omega),fun t ht u hu=>?_⟩
  obtain ⟨s0,s1⟩:=w9 hF.rt
  obtain ⟨w0,w1⟩:=P0 hF
  have hI:=E1 hF
  have hk:=Int.mul_nonneg k0 (show 0<=r.Interval by omega)
  have a:=b6d hF k0 (U6.subset ht)
  have c:=b7o hF (show 0<=k+1 by omega) hu
  have lo:LoP r (l4 r (b8 s)+k * r.Interval+1):=(K9 (r:=r) s0 s1 w0 w1).up (by omega)
  have d:=H6 lo (show l4 r (b8 s)+k * r.Interval+1<=l4 r (b8 s)+(k+1) * r.Interval by rw [mul_succ]; omega)
  omega
theorem a79 {first til:Int} (hF:s9 s r) (hb:b<=to):∀ {n:Nat} {k:Int},0<=k->((D5 s r (G4 s r to) n k).map (·.1)).filter (PT first b til)=(H2 s r (m6 s.Day) (l4 r (b8 s)) n k).filter (PT first b til)
 | 0,_,_=>rfl
 | n+1,k,k0=>by
  show (((((u4 r (grp s r (G4 s r to) k)).map fun t=>(t,k))++D5 s r (G4 s r to) n (k+1)).map (·.1))).filter _=(A8 s r (m6 s.Day) (l4 r (b8 s)+k * r.Interval)++H2 s r (m6 s.Day) (l4 r (b8 s)) n (k+1)).filter _
  rw [List.map_append,a4l,List.filter_append,List.filter_append,a79 hF hb (by omega)]
  congr 1
  by_cases h:q8 r (l4 r (b8 s)+k * r.Interval)<b
  . rw [c42 hF k0 (by omega)]; rfl
  . rw [filter_nil,filter_nil]
    . intro t ht e
      have:=(a1o hF ht).2.1
      have:=R9.1 e
      omega
    . intro t ht e
      have:=(b6d hF k0 (U6.subset ht)).1
      have:=R9.1 e
      omega
def F7 (s:Tm) (r:Rl):Int->List (Int×Int)->List (Int×Int)
 | _,[]=>[]
 | n,p::Z=>if a6f s r n p.1 then F7 s r n Z else p::F7 s r (n+1) Z
def a6z (p:Int×Int):Bool:=decide (p.2<40000)
def PU (s:Tm) (r:Rl) (t:Int):Bool:=decide (b8 s<t/\¬ (0<(r.Until.length:Int)/\b8 (ix r.Until 0)<t))
def alF (s:Tm) (r:Rl) (to:Int) (w:Al) (Z:List (Int×Int)):Al:=Z.foldl (fun w p=>stA s r to w p.1 p.2) w
theorem b89 {Z:List (Int×Int)}:∀ i,i<=Z.length->alA s r to (Z.map (·.1)) (Z.map (·.2)) i=alF s r to ⟨1,1,if b8 s<to then [b8 s] else []⟩ (Z.take i)
 | 0,_=>rfl
 | i+1,h=>by
  have hi:i<Z.length:=by omega
  show stA s r to (alA s r to (Z.map (·.1)) (Z.map (·.2)) i) (ix (Z.map (·.1)) i) (ix (Z.map (·.2)) i)=_
  rw [b89 i (by omega),List.take_succ_eq_append_getElem hi,C9 (by rw [List.length_map]; omega),C9 (by rw [List.length_map]; omega),List.getElem_map,List.getElem_map]
  unfold alF
  rw [List.foldl_append]
  rfl
theorem b06:∀ {Z:List (Int×Int)} {n k:Int} {out:List Int},alF s r to ⟨n,k,out⟩ Z=⟨n+(F7 s r n Z).length,k+((F7 s r n Z).filter a6z).length,out++((F7 s r n Z).map (·.1)).filter (ltB to)⟩
 | [],n,k,out=>by unfold alF F7; simp
 | p::Z,n,k,out=>by
  show alF s r to (stA s r to ⟨n,k,out⟩ p.1 p.2) Z=_
  unfold stA F7
  dsimp only
  by_cases h:a6f s r n p.1
  . rw [if_pos h,if_pos h]
    exact b06
  . rw [if_neg h,if_neg h,b06,List.map_cons]
    have e1:n+1+((F7 s r (n+1) Z).length:Int)=n+((p::F7 s r (n+1) Z).length:Int):=by rw [List.length_cons]; omega
    have e2:(if p.2<40000 then k+1 else k)+(((F7 s r (n+1) Z).filter a6z).length:Int)=k+(((p::F7 s r (n+1) Z).filter a6z).length:Int):=by
     by_cases hp:p.2<40000
     . rw [if_pos hp,List.filter_cons_of_pos (show a6z p=true from decide_eq_true hp),List.length_cons]; omega
     . rw [if_neg hp,List.filter_cons_of_neg (show ¬ a6z p=true from fun e=>hp (of_decide_eq_true e))]
    have e3:(if p.1<to then out++[p.1] else out)++((F7 s r (n+1) Z).map (·.1)).filter (ltB to)=out++(p.1::(F7 s r (n+1) Z).map (·.1)).filter (ltB to):=by
     by_cases hp:p.1<to
     . rw [if_pos hp,List.filter_cons_of_pos (lt_iff.2 hp),List.append_assoc]; rfl
     . rw [if_neg hp,List.filter_cons_of_neg (fun e=>hp (lt_iff.1 e))]
    rw [e1,e2,e3]
theorem b1m {p:Int×Int} {Z:List (Int×Int)} {n:Int}:F7 s r n (p::Z)=if a6f s r n p.1 then F7 s r n Z else p::F7 s r (n+1) Z:=rfl
theorem b0f:∀ {Z Y:List (Int×Int)} {n:Int},F7 s r n (Z++Y)=F7 s r n Z++F7 s r (n+(F7 s r n Z).length) Y
 | [],Y,n=>by
  show F7 s r n Y=[]++F7 s r (n+((0:Nat):Int)) Y
  rw [List.nil_append,show n+((0:Nat):Int)=n by omega]
 | p::Z,Y,n=>by
  rw [List.cons_append,b1m (Z:=Z++Y),b1m (Z:=Z)]
  by_cases h:a6f s r n p.1
  . rw [if_pos h,if_pos h]; exact b0f
  . rw [if_neg h,if_neg h,b0f,List.cons_append,List.length_cons,show n+1+((F7 s r (n+1) Z).length:Int)=n+(((F7 s r (n+1) Z).length+1:Nat):Int) by omega]
theorem a2f:∀ {Z:List (Int×Int)} {n:Int},(F7 s r n Z).map (·.1)=H3 r n ((Z.map (·.1)).filter (PU s r))
 | [],n=>by
  show []=H3 r n ([].filter _)
  rw [List.filter_nil,a0j]
 | p::Z,n=>by
  rw [List.map_cons]
  unfold F7
  by_cases h1:p.1<=b8 s ∨ 0<(r.Until.length:Int)/\b8 (ix r.Until 0)<p.1
  . have hp:¬ PU s r p.1=true:=fun e=>by
      have e:=of_decide_eq_true e
      rcases h1 with h | h
      . omega
      . exact e.2 h
    rw [if_pos (show a6f s r n p.1 from .inl h1),List.filter_cons_of_neg hp,a2f]
  . have hp:PU s r p.1=true:=decide_eq_true ⟨by
      rcases Int.lt_or_le (b8 s) p.1 with q | q
      . exact q
      . exact absurd (.inl q) h1,fun e=>h1 (.inr e)⟩
    rw [List.filter_cons_of_pos hp]
    by_cases h2:0<r.Count/\r.Count<=n
    . rw [if_pos (show a6f s r n p.1 from .inr h2),a2f,b1v h2.1 h2.2,b1v h2.1 h2.2]
    . rw [if_neg (show ¬ a6f s r n p.1 from fun e=>e.elim h1 h2),List.map_cons,a2f,b2t h2]
theorem d3i {L:List Int} (h:∀ t∈L,t<315537897600):(L.filter (PU s r)).filter (ltB b)=L.filter (PT (b8 s) b (L9 r)):=by
 rw [List.filter_filter]
 refine List.filter_congr fun t ht=>?_
 have:=h t ht
 rw [Bool.eq_iff_iff,Bool.and_eq_true,lt_iff,R9]
 unfold PU L9
 rw [decide_eq_true_iff]
 by_cases hl:0<(r.Until.length:Int)
 . rw [if_pos hl]; constructor
   . rintro ⟨h1,h2,h3⟩; exact ⟨h2,h1,by
       rcases Int.lt_or_le (b8 (ix r.Until 0)) t with q | q
       . exact absurd ⟨hl,q⟩ h3
       . exact q⟩
   . rintro ⟨h1,h2,h3⟩; exact ⟨h2,h1,fun e=>by omega⟩
 . rw [if_neg hl]; constructor
   . rintro ⟨h1,h2,h3⟩; exact ⟨h2,h1,by omega⟩
   . rintro ⟨h1,h2,h3⟩; exact ⟨h2,h1,fun e=>hl e.1⟩
theorem b2u {day i0:Int}:∀ {n m:Nat} {k:Int},H2 s r day i0 (n+m) k=H2 s r day i0 n k++H2 s r day i0 m (k+n)
 | 0,m,k=>by
  rw [Nat.zero_add,show k+((0:Nat):Int)=k by omega]; rfl
 | n+1,m,k=>by
  rw [show n+1+m=(n+m)+1 by omega]
  show _++H2 s r day i0 (n+m) (k+1)=(_++H2 s r day i0 n (k+1))++_
  rw [b2u,List.append_assoc,show k+1+(n:Int)=k+((n+1:Nat):Int) by omega]
def NN:Nat:=40000+400000000000
theorem c8r (hF:s9 s r):K5 s r to=((D5 s r (G4 s r to) NN 0).map (·.1),(D5 s r (G4 s r to) NN 0).map (·.2)):=by
 obtain ⟨s0,s1⟩:=w9 hF.rt
 obtain ⟨w0,w1⟩:=P0 hF
 have hI:=E1 hF
 have hG:GrI s r [] ⟨[],[],[],-1⟩:=⟨.inl ⟨rfl,rfl,rfl,rfl,fun t ht=>by cases ht⟩⟩
 have hA:=GrI.all hI (m:=G4 s r to) hG (by
  rw [List.nil_append]
  refine (a9u (s:=s) (r:=r) (a:=G5 s r) (k:=P7 s r to)).imp_of_mem fun {t u} ht hu h=>?_
  have a:=a2k hF ht
  have b:=a2k hF hu
  have:=T8 (r:=r) (t:=t) (u:=u) a.1 (by omega) b.2 w0 w1
  rw [a2c,a2c]
  omega)
 rw [List.nil_append] at hA
 have hf:=hA.fin (N:=NN) hI fun t ht=>by
  obtain ⟨t0,t1⟩:=a2k hF ht
  have a:=a09 (r:=r) t0 t1 w0 w1
  have b:=a09 (r:=r) s0 s1 w0 w1
  have c:=Int.mul_le_mul_of_nonneg_left hI (show (0:Int)<=(NN:Int) by omega)
  have e:((NN:Nat):Int)=400000040000:=rfl
  rw [a2c]
  omega
 unfold K5
 exact Prod.ext hf.1 hf.2
theorem c7g (hF:s9 s r):alS s r to=alF s r to ⟨1,1,if b8 s<to then [b8 s] else []⟩ (D5 s r (G4 s r to) NN 0):=by
 unfold alS
 rw [c8r hF]
 dsimp only
 rw [List.length_map,b89 _ (Nat.le_refl _),List.take_length]
theorem e3r (hF:s9 s r):(alS s r to).out=(if b8 s<to then [b8 s] else [])++H3 r 1 ((H2 s r (m6 s.Day) (l4 r (b8 s)) NN 0).filter (PT (b8 s) to (L9 r))):=by
 rw [c7g hF,b06]
 dsimp only
 have hU:=c72 (to:=to) hF (n:=NN) (k:=0) (Int.le_refl 0)
 rw [a2f,e2i (hU.filter _),d3i fun t ht=>(b7o hF (Int.le_refl 0) ht).2.2,a79 hF (Int.le_refl to) (Int.le_refl 0)]
theorem d9o (hF:s9 s r) (hb:q8 r (l4 r (b8 s)+40000 * r.Interval)<=to):(alS s r to).k=1+(H3 r 1 ((H2 s r (m6 s.Day) (l4 r (b8 s)) 40000 0).filter (PT (b8 s) (q8 r (l4 r (b8 s)+40000 * r.Interval)) (L9 r)))).length:=by
 have e1:D5 s r (G4 s r to) NN 0=D5 s r (G4 s r to) 40000 0++D5 s r (G4 s r to) 400000000000 40000:=a5w (n:=40000) (m:=400000000000) (k:=0)
 have n1:∀ p∈F7 s r 1 (D5 s r (G4 s r to) 40000 0),a6z p=true:=fun p hp=>by
  have:p∈D5 s r (G4 s r to) 40000 0:=by
   have sub:∀ (Z:List (Int×Int)) (n:Int),(F7 s r n Z).Sublist Z:=fun Z=>by
    induction Z with
    | nil=>intro n; exact List.Sublist.slnil
    | cons p Z ih =>
     intro n
     unfold F7
     split
     . exact List.Sublist.cons _ (ih n)
     . exact List.Sublist.cons_cons _ (ih _)
   exact (sub _ _).subset hp
  obtain ⟨j,_,j1,_,e⟩:=a1n.1 this
  exact decide_eq_true (by omega)
 have n2:∀ n:Int,(F7 s r n (D5 s r (G4 s r to) 400000000000 40000)).filter a6z=[]:=fun n=>List.filter_eq_nil_iff.2 fun p hp e=>by
  have:p∈D5 s r (G4 s r to) 400000000000 40000:=by
   have sub:∀ (Z:List (Int×Int)) (n:Int),(F7 s r n Z).Sublist Z:=fun Z=>by
    induction Z with
    | nil=>intro n; exact List.Sublist.slnil
    | cons p Z ih =>
     intro n
     unfold F7
     split
     . exact List.Sublist.cons _ (ih n)
     . exact List.Sublist.cons_cons _ (ih _)
   exact (sub _ _).subset hp
  obtain ⟨j,j0,_,_,e2⟩:=a1n.1 this
  have:=of_decide_eq_true e
  omega
 rw [c7g hF,b06]
 dsimp only
 rw [e1,b0f,List.filter_append,n2,List.append_nil,List.filter_eq_self.2 n1]
 have e2:=congrArg List.length (a2f (s:=s) (r:=r) (Z:=D5 s r (G4 s r to) 40000 0) (n:=1))
 rw [List.length_map] at e2
 rw [e2]
 have hin:=fun t ht=>b7o (t:=t) (to:=to) hF (n:=40000) (Int.le_refl 0) ht
 rw [show (0:Int)+((40000:Nat):Int)=40000 by omega] at hin
 have e3:((D5 s r (G4 s r to) 40000 0).map (·.1)).filter (PU s r)=(((D5 s r (G4 s r to) 40000 0).map (·.1)).filter (PU s r)).filter (ltB (q8 r (l4 r (b8 s)+40000 * r.Interval))) :=
  (List.filter_eq_self.2 fun t ht=>lt_iff.2 (hin t (List.mem_filter.1 ht).1).2.1).symm
 rw [e3,d3i fun t ht=>(hin t ht).2.2,a79 hF hb (Int.le_refl 0)]
theorem d09 (hF:s9 s r):Y1 s r 40000=q8 r (l4 r (b8 s)+40000 * r.Interval):=by
 obtain ⟨s0,s1⟩:=w9 hF.rt
 obtain ⟨w0,w1⟩:=P0 hF
 have hI:=E1 hF
 have hl:=K9 (r:=r) s0 s1 w0 w1
 have l0:=hl.a
 obtain ⟨hq,_⟩:=(n7.1 hF.rr).head
 unfold Y1 d9c q8
 have e:s4 r (b8 s)=l4 r (b8 s)+if r.Freq=1 then 1 else 0:=by unfold l4; omega
 rw [e]
 have nb:∀ n:Int,0<=n->(n=0->r.Freq<2)->nbR r n=nbP n:=fun n h h2=>by
  unfold nbR nbP E5
  by_cases h3:n=0 ∨ 3652059<n
  . rw [if_pos h3,if_pos (by omega)]
  . rw [if_neg h3,if_neg (by omega),if_neg (by omega)]; omega
 by_cases f0:r.Freq=0
 . rw [if_pos f0,if_pos f0,if_neg (by omega),show l4 r (b8 s)+0+40000 * r.Interval=l4 r (b8 s)+40000 * r.Interval by omega]
   exact nb _ (G1 _).1 fun _=>by omega
 rw [if_neg f0,if_neg f0]
 by_cases f1:r.Freq=1
 . rw [if_pos f1,if_pos f1,if_pos f1,show l4 r (b8 s)+1+40000 * r.Interval-1=l4 r (b8 s)+40000 * r.Interval by omega]
   exact nb _ (G1 _).1 fun _=>by omega
 rw [if_neg f1,if_neg f1,if_neg f1,show l4 r (b8 s)+0+40000 * r.Interval=l4 r (b8 s)+40000 * r.Interval by omega]
 by_cases f2:r.Freq=2
 . rw [if_pos f2,if_pos f2,Int.max_eq_right (by omega)]
   exact nb _ (by omega) fun _=>by omega
 rw [if_neg f2,if_neg f2]
 by_cases f3:r.Freq=3
 . rw [if_pos f3,if_neg (by omega),if_neg (by omega),if_neg (by omega)]
   exact nb _ (by omega) fun _=>by omega
 rw [if_neg f3]
 by_cases f4:r.Freq=4
 . rw [if_pos f4,if_pos f4]; unfold E5; split <;> omega
 rw [if_neg f4,if_neg f4]
 by_cases f5:r.Freq=5
 . rw [if_pos f5,if_pos f5]; unfold E5; split <;> omega
 rw [if_neg f5,if_neg f5,if_pos (by omega)]
 unfold E5
 split <;> omega
theorem c0a:∀ {T y:List Int},(y.length:Int)<r.Count->(N8 (a1b r) y T false).2=false/\(r.Count<=((N8 (a1b r) y T false).1.length:Int)↔r.Count<=((y.length+T.length:Nat):Int))
 | [],y,h=>by unfold N8; exact ⟨rfl,by simp⟩
 | t::T,y,h=>by
  have e:(y++[t]).length=y.length+1:=by simp
  unfold N8
  by_cases hr:(y.length:Int)+1<r.Count
  . rw [show a1b r y t=true from decide_eq_true hr,cond_true]
    have:=c0a (T:=T) (y:=y++[t]) (by omega)
    rw [e] at this
    rw [List.length_cons,show y.length+(T.length+1)=y.length+1+T.length by omega]
    exact this
  . rw [show a1b r y t=false from decide_eq_false hr,cond_false]
    refine ⟨rfl,?_⟩
    show r.Count<=(((y++[t]).length:Nat):Int)↔_
    rw [e,List.length_cons]
    constructor <;> intro _ <;> omega
theorem d1o (hF:s9 s r) (ht:to<=315537897600):(allS s r to).2=S3 s r (m6 s.Day) to:=by
 obtain ⟨s0,s1⟩:=w9 hF.rt
 obtain ⟨w0,w1⟩:=P0 hF
 have hI:=E1 hF
 have lo:∀ j:Int,0<=j->LoP r (l4 r (b8 s)+j * r.Interval):=fun j hj=>(K9 (r:=r) s0 s1 w0 w1).up (by have:=Int.mul_nonneg hj (show 0<=r.Interval by omega); omega)
 have h40:=lo 40000 (by decide)
 have b1:=(I9 (r:=r) h40.a).2
 have hnum:=d9o (s:=s) (r:=r) (to:=to) hF
 have hbf:b8 s<q8 r (l4 r (b8 s)+40000 * r.Interval):=by
  rcases Int.lt_or_le (b8 s) (q8 r (l4 r (b8 s)+40000 * r.Interval)) with q | q
  . exact q
  . have:=(K7 h40 s0 s1).1 q; omega
 show a6n s r to (alS s r to).k=_
 unfold a6n S3
 rw [d09 hF]
 have hins:0<r.Count->(I3 s r (m6 s.Day) 0 (q8 r (l4 r (b8 s)+40000 * r.Interval))).1=(if b8 s<q8 r (l4 r (b8 s)+40000 * r.Interval) then [b8 s] else [])++H3 r 1 ((H2 s r (m6 s.Day) (l4 r (b8 s)) 40000 0).filter (PT (b8 s) (q8 r (l4 r (b8 s)+40000 * r.Interval)) (L9 r)))/\(I3 s r (m6 s.Day) 0 (q8 r (l4 r (b8 s)+40000 * r.Interval))).2=false:=fun h3=>by
  have q:=a0i (s:=s) (r:=r) (day:=m6 s.Day) (fr:=0) (to:=q8 r (l4 r (b8 s)+40000 * r.Interval)) hF
  have hk:k0S s r 0=0:=(W9 hF (Int.le_refl 0)).2.resolve_right (by omega)
  rw [hk] at q
  obtain ⟨i1,i2⟩:=q (by decide)
  have en:(40000-(0:Int)).toNat=40000:=by omega
  rw [en] at i1 i2
  refine ⟨i1,?_⟩
  rw [<- Bool.not_eq_true,i2,Classical.not_not,show (0:Int)+((40000:Nat):Int)=40000 by omega]
  exact .inl (.inl (.inl (Int.le_refl _)))
 generalize q8 r (l4 r (b8 s)+40000 * r.Interval)=b4 at *
 by_cases h1:to<=b4 ∨ 315537897600<=b4
 . rw [if_pos h1]
   split
   . rfl
   . exact decide_eq_false fun e=>by omega
 rw [if_neg h1]
 by_cases h2:0<(r.Until.length:Int)/\b8 (ix r.Until 0)<b4
 . rw [if_pos h2]
   split
   . rfl
   . exact decide_eq_false fun e=>by omega
 rw [if_neg h2]
 by_cases h3:0<r.Count
 . rw [if_pos h3]
   obtain ⟨i1,hfl⟩:=hins h3
   obtain ⟨q1,q2⟩:=c0a (r:=r) (T:=(I3 s r (m6 s.Day) 0 b4).1) (y:=[]) h3
   rw [hfl]
   have hl:r.Count<=(((([]:List Int).length+(I3 s r (m6 s.Day) 0 b4).1.length:Nat)):Int)↔r.Count<=(alS s r to).k:=by
    rw [hnum (by omega),i1,if_pos hbf,List.length_append]
    show r.Count<=((0+(1+_):Nat):Int)↔_
    constructor <;> intro _ <;> omega
   unfold c4z
   by_cases hc:r.Count<=(alS s r to).k
   . rw [if_pos ⟨h3,hc⟩,if_pos (.inl (q2.2 (hl.2 hc))),q1]
   . rw [if_neg fun e=>hc e.2,if_neg fun e=>?_]
     . exact decide_eq_true ⟨by omega,by
         by_cases hu:(r.Until.length:Int)=0
         . exact .inl hu
         . right
           rcases Int.lt_or_le (b8 (ix r.Until 0)) b4 with q | q
           . exact absurd ⟨by omega,q⟩ h2
           . exact q⟩
     . rcases e with e | e
       . exact hc (hl.1 (q2.1 e))
       . rw [q1] at e; cases e
 . rw [if_neg h3,if_neg fun e=>h3 e.1]
   exact decide_eq_true ⟨by omega,by
    by_cases hu:(r.Until.length:Int)=0
    . exact .inl hu
    . right
      rcases Int.lt_or_le (b8 (ix r.Until 0)) b4 with q | q
      . exact absurd ⟨by omega,q⟩ h2
      . exact q⟩
theorem all_eq (hF:s9 s r) (h:S3 s r (m6 s.Day) to=false):(allS s r to).1=(I3 s r (m6 s.Day) 0 to).1:=by
 obtain ⟨s0,s1⟩:=w9 hF.rt
 obtain ⟨w0,w1⟩:=P0 hF
 have hI:=E1 hF
 have lo:∀ j:Int,0<=j->LoP r (l4 r (b8 s)+j * r.Interval):=fun j hj=>(K9 (r:=r) s0 s1 w0 w1).up (by have:=Int.mul_nonneg hj (show 0<=r.Interval by omega); omega)
 have hfl:=b2x (day:=m6 s.Day) (fr:=0) hF (Int.le_refl 0) h
 have hk:k0S s r 0=0:=(W9 hF (Int.le_refl 0)).2.resolve_right (by omega)
 have hins:=a0i (s:=s) (r:=r) (day:=m6 s.Day) (fr:=0) (to:=to) hF
 rw [hk] at hins
 obtain ⟨i1,i2⟩:=hins (by decide)
 rw [<- Bool.not_eq_true,i2,Classical.not_not] at hfl
 have en:(40000-(0:Int)).toNat=40000:=by omega
 rw [en] at hfl i1
 show (alS s r to).out=_
 have e:H2 s r (m6 s.Day) (l4 r (b8 s)) NN 0=H2 s r (m6 s.Day) (l4 r (b8 s)) 40000 0++H2 s r (m6 s.Day) (l4 r (b8 s)) 400000000000 40000:=b2u (n:=40000) (m:=400000000000) (k:=0)
 rw [e3r hF,i1,e,List.filter_append,b99]
 have hge:=fun t ht=>a4m (t:=t) (day:=m6 s.Day) (n:=400000000000) hF (lo 40000 (by decide)) ht
 rw [show (0:Int)+((40000:Nat):Int)=40000 by omega] at hfl
 generalize H2 s r (m6 s.Day) (l4 r (b8 s)) 400000000000 40000=B at *
 generalize H2 s r (m6 s.Day) (l4 r (b8 s)) 40000 0=A at *
 generalize q8 r (l4 r (b8 s)+40000 * r.Interval)=b4 at *
 rw [show H3 r (1+((H3 r 1 (A.filter (PT (b8 s) to (L9 r)))).length:Int)) (B.filter (PT (b8 s) to (L9 r)))=[] from ?_,List.append_nil]
 by_cases hc:0<r.Count/\r.Count<=1+((H3 r 1 (A.filter (PT (b8 s) to (L9 r)))).length:Int)
 . exact b1v hc.1 hc.2
 . have hB:B.filter (PT (b8 s) to (L9 r))=[]:=filter_nil fun t ht e=>by
     have:=hge t ht
     have:=R9.1 e
     unfold T4 at hfl
     omega
   rw [hB,a0j]
end
theorem c4f {s a b:Tm} {r:Rl}:(C3 s r a b).1=(a0k s r a b).1/\(C3 s r a b).2.nr=(a0k s r a b).2:=by
 by_cases hb:a5i s r a b
 . have e1:a0k s r a b=([],2):=if_pos hb
   have e2:C3 s r a b=([],.no 2):=if_pos hb
   rw [e1,e2]; exact ⟨rfl,nr2⟩
 obtain ⟨hF,ha,hbb⟩:=c1e hb
 have b1:=w9 hbb
 have a0:=(w9 ha).1
 have hm:=d1o (s:=s) (r:=r) (to:=b8 b) hF (by omega)
 cases hf:S3 s r (m6 s.Day) (b8 b) with
 | true =>
  have e2:C3 s r a b=([],.no 5):=by unfold C3; rw [if_neg hb,if_pos hf]
  have e1:a0k s r a b=([],5):=by unfold a0k; rw [if_neg hb,if_pos (hm.trans hf)]
  rw [e1,e2]; exact ⟨rfl,nr5⟩
 | false =>
  have hA:=all_eq hF hf
  have hfl:=b2x (day:=m6 s.Day) (fr:=b8 a) hF a0 hf
  have hg:=(d6e (day:=m6 s.Day) (fr:=0) (m:=b8 a) (to:=b8 b) hF (Int.le_refl 0) a0).1
  have el:frA s a (allS s r (b8 b)).1=frA s a (X5 s r a b).1:=by
   rw [hA,<- c3j (l:=(I3 s r (m6 s.Day) 0 (b8 b)).1),<- hg,c3j]
  have e1:a0k s r a b=if 1000<((frA s a (X5 s r a b).1).length:Int) then ([],16) else (frA s a (X5 s r a b).1,0):=by
   unfold a0k
   rw [if_neg hb,if_neg (by rw [hm,hf]; exact Bool.false_ne_true),el]
  by_cases h4:((frA s a (X5 s r a b).1).length:Int)<=1000
  . rw [c8s ⟨hb,hf,hfl,h4⟩,e1,if_neg (by omega)]
    exact ⟨rfl,by show Err.nil.nr=0; decide⟩
  . obtain ⟨q1,q2⟩:=a7d (s:=s) (a:=a) (T:=(X5 s r a b).1) (y:=[]) (e:=(X5 s r a b).2) (show ((0:Nat):Int)<=1000 by decide) (by rw [List.nil_append]; omega)
    have e2:C3 s r a b=([],.no 16):=by
     unfold C3 b3z
     rw [if_neg hb,hf,if_neg Bool.false_ne_true]
     unfold b2h
     rw [q1,if_neg Bool.false_ne_true,if_pos q2]
    rw [e1,e2,if_pos (by omega)]
    exact ⟨rfl,e5s⟩
end Go.Re
end
section
namespace Go.Proofs.YtdjfeninmbpflaaGreat
open Go Go.Wk Go.Wl Go.Rx Go.Re 
attribute [local irreducible] i7
def c7h:Nat->Ann:=fun | 3=>⟨52,fun _=>none,fun _=>none⟩ | _=>⟨0,fun _=>none,fun _=>none⟩
def VlE (s:Tm) (r:Rl) (a:Tm) (b:Tm) (Q:Bool->Prop):Prop :=
(¬A5 (etR r)=true ∨ ¬b1u (etT s) (etR r) (etT b)=true->Q (decide (true=true)))/\(¬(¬A5 (etR r)=true ∨ ¬b1u (etT s) (etR r) (etT b)=true)->A5 (etR r)=true/\A5 (etR r)=true/\(C3 (etT s) (etR r) (etT a) (etT b)).fst.length<=10000000/\Q (decide ((Y4 (C3 (etT s) (etR r) (etT a) (etT b)).fst (a0k (etT s) (etR r) (etT a) (etT b)).fst=true/\(C3 (etT s) (etR r) (etT a) (etT b)).snd.nr=(a0k (etT s) (etR r) (etT a) (etT b)).snd)/\true=true)))
theorem d9a {s:Tm} {r:Rl} {a:Tm} {b:Tm} {Q:Bool->Prop}:@Eq Prop (VlE s r a b Q) (i7 (E:=NxE) (j7 NxE H0 c7h 2) (c7h 3) Tryz.f3 [.agg [.int .i64 s.Day.Year,.int .i64 s.Day.Month,.int .i64 s.Day.Date,.int .i64 s.Hour,.int .i64 s.Min,.int .i64 s.Sec,blB s.Bare,blB s.UTC],.agg [.int .i64 r.Freq,.int .i64 r.Interval,.int .i64 r.Count,.sl (N:=U) 25 r.Until,.sl (N:=U) 3 r.Month,.sl (N:=U) 3 r.WeekNo,.sl (N:=U) 3 r.YearDay,.sl (N:=U) 3 r.MonthDay,.sl (N:=U) 60 r.Days,.sl (N:=U) 3 r.Hour,.sl (N:=U) 3 r.Minute,.sl (N:=U) 3 r.Second,.sl (N:=U) 3 r.SetPos,.int .i64 r.Wkst],.agg [.int .i64 a.Day.Year,.int .i64 a.Day.Month,.int .i64 a.Day.Date,.int .i64 a.Hour,.int .i64 a.Min,.int .i64 a.Sec,blB a.Bare,blB a.UTC],.agg [.int .i64 b.Day.Year,.int .i64 b.Day.Month,.int .i64 b.Day.Date,.int .i64 b.Hour,.int .i64 b.Min,.int .i64 b.Sec,blB b.Bare,blB b.UTC]] [] [] 0 (n5 NxE [.bool] Q)):=by kernel_rfl
theorem d8e {s:Tm} {r:Rl} {a:Tm} {b:Tm} {Q:Bool->Prop} (h:VlE s r a b Q):i7 (E:=NxE) (j7 NxE H0 c7h 2) (c7h 3) Tryz.f3 [.agg [.int .i64 s.Day.Year,.int .i64 s.Day.Month,.int .i64 s.Day.Date,.int .i64 s.Hour,.int .i64 s.Min,.int .i64 s.Sec,blB s.Bare,blB s.UTC],.agg [.int .i64 r.Freq,.int .i64 r.Interval,.int .i64 r.Count,.sl (N:=U) 25 r.Until,.sl (N:=U) 3 r.Month,.sl (N:=U) 3 r.WeekNo,.sl (N:=U) 3 r.YearDay,.sl (N:=U) 3 r.MonthDay,.sl (N:=U) 60 r.Days,.sl (N:=U) 3 r.Hour,.sl (N:=U) 3 r.Minute,.sl (N:=U) 3 r.Second,.sl (N:=U) 3 r.SetPos,.int .i64 r.Wkst],.agg [.int .i64 a.Day.Year,.int .i64 a.Day.Month,.int .i64 a.Day.Date,.int .i64 a.Hour,.int .i64 a.Min,.int .i64 a.Sec,blB a.Bare,blB a.UTC],.agg [.int .i64 b.Day.Year,.int .i64 b.Day.Month,.int .i64 b.Day.Date,.int .i64 b.Hour,.int .i64 b.Min,.int .i64 b.Sec,blB b.Bare,blB b.UTC]] [] [] 0 (n5 NxE [.bool] Q):=by rw [<- d9a]; exact h
theorem plE (s:Tm) (r:Rl) (a:Tm) (b:Tm)  : VlE s r a b (fun y0=>y0=true):=by
 unfold VlE
 simp only [Y9,a32]
 refine ⟨fun _=>rfl,fun h=>?_⟩
 have hfw:A5 r=true:=Classical.not_not.1 fun e=>h (.inl e)
 have hl:=c9j (s:=s) (r:=r) (a:=a) (b:=b)
 obtain ⟨e1,e2⟩:=c4f (s:=s) (r:=r) (a:=a) (b:=b)
 refine ⟨hfw,hfw,by omega,?_⟩
 rw [e1,e2]
 exact decide_eq_true ⟨⟨decide_eq_true rfl,rfl⟩,trivial⟩
end Go.Proofs.YtdjfeninmbpflaaGreat
end
section
namespace Go.Proofs.YtdjfeninmbpflaaGreat
open Go Go.Wk Go.Wl Go.Rx Go.RowKit Go.ChangeShapes Go.WideShapes Go.Re
theorem e6f:laidOutB Tryz.prog=true:=by kernel_rfl
theorem e7p:ownKnob Tryz.prog.godebug=none:=by kernel_rfl
theorem e6s {P:Program} {ts:List TypeId} (h:(ts.all fun t=>P.readableRec t && decide (t<P.types.size))=true):∀ t∈ts,P.readableRec t=true/\t<P.types.size:=fun t ht=>by
 have:=List.all_eq_true.1 h t ht
 rw [Bool.and_eq_true,decide_eq_true_eq] at this
 exact this
theorem c1p:Z5 Tryz.prog 23 dDy:=fun {H enc fuel w sp cs x} h=>by
 obtain ⟨xs,n,_,_,hlen,hxl,hget⟩:=DataW.trod_struct Tryz.underlying23 h
 have hz:Tryz.prog.cellsOf 23=3:=by kernel_rfl
 rw [hz] at hlen
 have z3:Tryz.prog.cellsOf 3=1:=by kernel_rfl
 have g0:DataW.trod enc Tryz.prog w 0 sp true n 3 ((cs.drop 0).take (Tryz.prog.cellsOf 3))=xs[0]? := hget 0 _ rfl
 rw [List.getElem?_eq_getElem (by rw [hxl]; decide),z3] at g0
 obtain ⟨y0,k0⟩:=(u9 Tryz.underlying3) g0
 have g1:DataW.trod enc Tryz.prog w 0 sp true n 3 ((cs.drop 1).take (Tryz.prog.cellsOf 3))=xs[1]? := hget 1 _ rfl
 rw [List.getElem?_eq_getElem (by rw [hxl]; decide),z3] at g1
 obtain ⟨y1,k1⟩:=(u9 Tryz.underlying3) g1
 have g2:DataW.trod enc Tryz.prog w 0 sp true n 3 ((cs.drop 2).take (Tryz.prog.cellsOf 3))=xs[2]? := hget 2 _ rfl
 rw [List.getElem?_eq_getElem (by rw [hxl]; decide),z3] at g2
 obtain ⟨y2,k2⟩:=(u9 Tryz.underlying3) g2
 have q:cs=(cs.drop 0).take (1+(1+(1))):=a9v hlen
 exact ⟨⟨y0,y1,y2⟩,_,_,_,q.trans (J7.trans (congrArg _ J7)),k0,k1,k2⟩
theorem a8t:Z5 Tryz.prog 25 dTm:=fun {H enc fuel w sp cs x} h=>by
 obtain ⟨xs,n,_,_,hlen,hxl,hget⟩:=DataW.trod_struct Tryz.underlying25 h
 have hz:Tryz.prog.cellsOf 25=8:=by kernel_rfl
 rw [hz] at hlen
 have z3:Tryz.prog.cellsOf 3=1:=by kernel_rfl
 have z4:Tryz.prog.cellsOf 4=1:=by kernel_rfl
 have z23:Tryz.prog.cellsOf 23=3:=by kernel_rfl
 have g0:DataW.trod enc Tryz.prog w 0 sp true n 23 ((cs.drop 0).take (Tryz.prog.cellsOf 23))=xs[0]? := hget 0 _ rfl
 rw [List.getElem?_eq_getElem (by rw [hxl]; decide),z23] at g0
 obtain ⟨y0,k0⟩:=c1p g0
 have g1:DataW.trod enc Tryz.prog w 0 sp true n 3 ((cs.drop 3).take (Tryz.prog.cellsOf 3))=xs[1]? := hget 1 _ rfl
 rw [List.getElem?_eq_getElem (by rw [hxl]; decide),z3] at g1
 obtain ⟨y1,k1⟩:=(u9 Tryz.underlying3) g1
 have g2:DataW.trod enc Tryz.prog w 0 sp true n 3 ((cs.drop 4).take (Tryz.prog.cellsOf 3))=xs[2]? := hget 2 _ rfl
 rw [List.getElem?_eq_getElem (by rw [hxl]; decide),z3] at g2
 obtain ⟨y2,k2⟩:=(u9 Tryz.underlying3) g2
 have g3:DataW.trod enc Tryz.prog w 0 sp true n 3 ((cs.drop 5).take (Tryz.prog.cellsOf 3))=xs[3]? := hget 3 _ rfl
 rw [List.getElem?_eq_getElem (by rw [hxl]; decide),z3] at g3
 obtain ⟨y3,k3⟩:=(u9 Tryz.underlying3) g3
 have g4:DataW.trod enc Tryz.prog w 0 sp true n 4 ((cs.drop 6).take (Tryz.prog.cellsOf 4))=xs[4]? := hget 4 _ rfl
 rw [List.getElem?_eq_getElem (by rw [hxl]; decide),z4] at g4
 obtain ⟨y4,k4⟩:=(a42 Tryz.underlying4) g4
 have g5:DataW.trod enc Tryz.prog w 0 sp true n 4 ((cs.drop 7).take (Tryz.prog.cellsOf 4))=xs[5]? := hget 5 _ rfl
 rw [List.getElem?_eq_getElem (by rw [hxl]; decide),z4] at g5
 obtain ⟨y5,k5⟩:=(a42 Tryz.underlying4) g5
 have q:cs=(cs.drop 0).take (3+(1+(1+(1+(1+(1)))))):=a9v hlen
 exact ⟨⟨y0,y1,y2,y3,y4,y5⟩,_,_,_,_,_,_,q.trans (J7.trans (congrArg _ (J7.trans (congrArg _ (J7.trans (congrArg _ (J7.trans (congrArg _ J7)))))))),k0,k1,k2,k3,k4,k5⟩
theorem c15:Z5 Tryz.prog 60 dNt:=fun {H enc fuel w sp cs x} h=>by
 obtain ⟨xs,n,_,_,hlen,hxl,hget⟩:=DataW.trod_struct Tryz.underlying60 h
 have hz:Tryz.prog.cellsOf 60=2:=by kernel_rfl
 rw [hz] at hlen
 have z3:Tryz.prog.cellsOf 3=1:=by kernel_rfl
 have g0:DataW.trod enc Tryz.prog w 0 sp true n 3 ((cs.drop 0).take (Tryz.prog.cellsOf 3))=xs[0]? := hget 0 _ rfl
 rw [List.getElem?_eq_getElem (by rw [hxl]; decide),z3] at g0
 obtain ⟨y0,k0⟩:=(u9 Tryz.underlying3) g0
 have g1:DataW.trod enc Tryz.prog w 0 sp true n 3 ((cs.drop 1).take (Tryz.prog.cellsOf 3))=xs[1]? := hget 1 _ rfl
 rw [List.getElem?_eq_getElem (by rw [hxl]; decide),z3] at g1
 obtain ⟨y1,k1⟩:=(u9 Tryz.underlying3) g1
 have q:cs=(cs.drop 0).take (1+(1)):=a9v hlen
 exact ⟨⟨y0,y1⟩,_,_,q.trans J7,k0,k1⟩
theorem c2c:Z5 Tryz.prog 30 dRl:=fun {H enc fuel w sp cs x} h=>by
 obtain ⟨xs,n,_,_,hlen,hxl,hget⟩:=DataW.trod_struct Tryz.underlying30 h
 have hz:Tryz.prog.cellsOf 30=14:=by kernel_rfl
 rw [hz] at hlen
 have z3:Tryz.prog.cellsOf 3=1:=by kernel_rfl
 have z26:Tryz.prog.cellsOf 26=1:=by kernel_rfl
 have z27:Tryz.prog.cellsOf 27=1:=by kernel_rfl
 have z28:Tryz.prog.cellsOf 28=1:=by kernel_rfl
 have g0:DataW.trod enc Tryz.prog w 0 sp true n 3 ((cs.drop 0).take (Tryz.prog.cellsOf 3))=xs[0]? := hget 0 _ rfl
 rw [List.getElem?_eq_getElem (by rw [hxl]; decide),z3] at g0
 obtain ⟨y0,k0⟩:=(u9 Tryz.underlying3) g0
 have g1:DataW.trod enc Tryz.prog w 0 sp true n 3 ((cs.drop 1).take (Tryz.prog.cellsOf 3))=xs[1]? := hget 1 _ rfl
 rw [List.getElem?_eq_getElem (by rw [hxl]; decide),z3] at g1
 obtain ⟨y1,k1⟩:=(u9 Tryz.underlying3) g1
 have g2:DataW.trod enc Tryz.prog w 0 sp true n 3 ((cs.drop 2).take (Tryz.prog.cellsOf 3))=xs[2]? := hget 2 _ rfl
 rw [List.getElem?_eq_getElem (by rw [hxl]; decide),z3] at g2
 obtain ⟨y2,k2⟩:=(u9 Tryz.underlying3) g2
 have g3:DataW.trod enc Tryz.prog w 0 sp true n 26 ((cs.drop 3).take (Tryz.prog.cellsOf 26))=xs[3]? := hget 3 _ rfl
 rw [List.getElem?_eq_getElem (by rw [hxl]; decide),z26] at g3
 obtain ⟨y3,k3⟩:=(B7 Tryz.underlying26 (by kernel_rfl) (by decide) a8t) g3
 have g4:DataW.trod enc Tryz.prog w 0 sp true n 27 ((cs.drop 4).take (Tryz.prog.cellsOf 27))=xs[4]? := hget 4 _ rfl
 rw [List.getElem?_eq_getElem (by rw [hxl]; decide),z27] at g4
 obtain ⟨y4,k4⟩:=(B7 Tryz.underlying27 (by kernel_rfl) (by decide) (u9 Tryz.underlying3)) g4
 have g5:DataW.trod enc Tryz.prog w 0 sp true n 27 ((cs.drop 5).take (Tryz.prog.cellsOf 27))=xs[5]? := hget 5 _ rfl
 rw [List.getElem?_eq_getElem (by rw [hxl]; decide),z27] at g5
 obtain ⟨y5,k5⟩:=(B7 Tryz.underlying27 (by kernel_rfl) (by decide) (u9 Tryz.underlying3)) g5
 have g6:DataW.trod enc Tryz.prog w 0 sp true n 27 ((cs.drop 6).take (Tryz.prog.cellsOf 27))=xs[6]? := hget 6 _ rfl
 rw [List.getElem?_eq_getElem (by rw [hxl]; decide),z27] at g6
 obtain ⟨y6,k6⟩:=(B7 Tryz.underlying27 (by kernel_rfl) (by decide) (u9 Tryz.underlying3)) g6
 have g7:DataW.trod enc Tryz.prog w 0 sp true n 27 ((cs.drop 7).take (Tryz.prog.cellsOf 27))=xs[7]? := hget 7 _ rfl
 rw [List.getElem?_eq_getElem (by rw [hxl]; decide),z27] at g7
 obtain ⟨y7,k7⟩:=(B7 Tryz.underlying27 (by kernel_rfl) (by decide) (u9 Tryz.underlying3)) g7
 have g8:DataW.trod enc Tryz.prog w 0 sp true n 28 ((cs.drop 8).take (Tryz.prog.cellsOf 28))=xs[8]? := hget 8 _ rfl
 rw [List.getElem?_eq_getElem (by rw [hxl]; decide),z28] at g8
 obtain ⟨y8,k8⟩:=(B7 Tryz.underlying28 (by kernel_rfl) (by decide) c15) g8
 have g9:DataW.trod enc Tryz.prog w 0 sp true n 27 ((cs.drop 9).take (Tryz.prog.cellsOf 27))=xs[9]? := hget 9 _ rfl
 rw [List.getElem?_eq_getElem (by rw [hxl]; decide),z27] at g9
 obtain ⟨y9,k9⟩:=(B7 Tryz.underlying27 (by kernel_rfl) (by decide) (u9 Tryz.underlying3)) g9
 have g10:DataW.trod enc Tryz.prog w 0 sp true n 27 ((cs.drop 10).take (Tryz.prog.cellsOf 27))=xs[10]? := hget 10 _ rfl
 rw [List.getElem?_eq_getElem (by rw [hxl]; decide),z27] at g10
 obtain ⟨y10,k10⟩:=(B7 Tryz.underlying27 (by kernel_rfl) (by decide) (u9 Tryz.underlying3)) g10
 have g11:DataW.trod enc Tryz.prog w 0 sp true n 27 ((cs.drop 11).take (Tryz.prog.cellsOf 27))=xs[11]? := hget 11 _ rfl
 rw [List.getElem?_eq_getElem (by rw [hxl]; decide),z27] at g11
 obtain ⟨y11,k11⟩:=(B7 Tryz.underlying27 (by kernel_rfl) (by decide) (u9 Tryz.underlying3)) g11
 have g12:DataW.trod enc Tryz.prog w 0 sp true n 27 ((cs.drop 12).take (Tryz.prog.cellsOf 27))=xs[12]? := hget 12 _ rfl
 rw [List.getElem?_eq_getElem (by rw [hxl]; decide),z27] at g12
 obtain ⟨y12,k12⟩:=(B7 Tryz.underlying27 (by kernel_rfl) (by decide) (u9 Tryz.underlying3)) g12
 have g13:DataW.trod enc Tryz.prog w 0 sp true n 3 ((cs.drop 13).take (Tryz.prog.cellsOf 3))=xs[13]? := hget 13 _ rfl
 rw [List.getElem?_eq_getElem (by rw [hxl]; decide),z3] at g13
 obtain ⟨y13,k13⟩:=(u9 Tryz.underlying3) g13
 have q:cs=(cs.drop 0).take (1+(1+(1+(1+(1+(1+(1+(1+(1+(1+(1+(1+(1+(1)))))))))))))):=a9v hlen
 exact ⟨⟨y0,y1,y2,y3,y4,y5,y6,y7,y8,y9,y10,y11,y12,y13⟩,_,_,_,_,_,_,_,_,_,_,_,_,_,_,q.trans (J7.trans (congrArg _ (J7.trans (congrArg _ (J7.trans (congrArg _ (J7.trans (congrArg _ (J7.trans (congrArg _ (J7.trans (congrArg _ (J7.trans (congrArg _ (J7.trans (congrArg _ (J7.trans (congrArg _ (J7.trans (congrArg _ (J7.trans (congrArg _ (J7.trans (congrArg _ J7)))))))))))))))))))))))),k0,k1,k2,k3,k4,k5,k6,k7,k8,k9,k10,k11,k12,k13⟩
theorem c17 {Z:Nat->Prop} {W:World} {v:Value} (h:Rep U eT (fun _=>none) Z W v (blB true)):v=.bool true:=by
 cases h with | bl=>rfl
theorem c3f {v:Value} {n:Nat} (h:v.cells.toList.length=n+2):∃ cs:List Value,v=.agg cs.toArray/\v.cells.toList=cs:=by
 cases v with
 | agg cs=>exact ⟨cs.toList,by simp,rfl⟩
 | _=>simp [Value.cells] at h
theorem c3u {H:Type} {enc:TypeId×Value->H} {W:World} {sp:Nat->Bool} {v:Value} {d:DataW H} {ps:List MemPlace} (h:DataW.Trod enc Tryz.prog W 0 sp true 25 v d ps):∃ y:Tm,Rep U eT (fun _=>none) (fun b=>b<W.heap.size) W v (.agg [.int .i64 y.Day.Year,.int .i64 y.Day.Month,.int .i64 y.Day.Date,.int .i64 y.Hour,.int .i64 y.Min,.int .i64 y.Sec,blB y.Bare,blB y.UTC]):=by
 obtain ⟨n,h⟩:=h
 obtain ⟨y,k⟩:=a8t h
 have k:=Rd.weak (D':=fun b=>b<W.heap.size) _ k (fun _ _ hb=>hb)
 obtain ⟨cs,e1,e2⟩:=c3f (n:=6) (Rd.len _ k)
 rw [e2] at k
 exact ⟨y,by rw [e1]; exact y25.sv_ok k⟩
theorem e67 {H:Type} {enc:TypeId×Value->H} {W:World} {sp:Nat->Bool} {v:Value} {d:DataW H} {ps:List MemPlace} (h:DataW.Trod enc Tryz.prog W 0 sp true 30 v d ps):∃ y:Rl,Rep U eT (fun _=>none) (fun b=>b<W.heap.size) W v (.agg [.int .i64 y.Freq,.int .i64 y.Interval,.int .i64 y.Count,.sl (N:=U) 25 y.Until,.sl (N:=U) 3 y.Month,.sl (N:=U) 3 y.WeekNo,.sl (N:=U) 3 y.YearDay,.sl (N:=U) 3 y.MonthDay,.sl (N:=U) 60 y.Days,.sl (N:=U) 3 y.Hour,.sl (N:=U) 3 y.Minute,.sl (N:=U) 3 y.Second,.sl (N:=U) 3 y.SetPos,.int .i64 y.Wkst]):=by
 obtain ⟨n,h⟩:=h
 obtain ⟨y,k⟩:=c2c h
 have k:=Rd.weak (D':=fun b=>b<W.heap.size) _ k (fun _ _ hb=>hb)
 obtain ⟨cs,e1,e2⟩:=c3f (n:=12) (Rd.len _ k)
 rw [e2] at k
 exact ⟨y,by rw [e1]; exact y30.sv_ok k⟩
end Go.Proofs.YtdjfeninmbpflaaGreat
end
