/- 20 texts, one behind the other. -/
import Derived.Test.YtdjfeninmbpflaaGreatQ7
import Derived.Test.YtdjfeninmbpflaaGreatQ4
import Derived.Test.YtdjfeninmbpflaaGreatRows
import Derived.Test.YtdjfeninmbpflaaGreatQ1
import Derived.ChangeSame
import Derived.ChangeVars
import Derived.JoinedOf
import Derived.RowKit
import Derived.RowKit2
import Derived.Carry
import Derived.ProofKit
set_option linter.unusedVariables false
set_option linter.unusedSimpArgs false
set_option maxRecDepth 100000
section
namespace Go.Proofs.YtdjfeninmbpflaaGreat
open Go Go.Wk Go.Wl Go.Rx Go.Re 
noncomputable def NI58:Env:=NI34.addI 58 Tryz.f58
theorem NI58_ok:EnvOK NI58:=NI34_ok.addI Tryz.call58 Tryz.func58
end Go.Proofs.YtdjfeninmbpflaaGreat
end
section
namespace Go.Proofs.YtdjfeninmbpflaaGreat
open Go Go.Wk Go.Wl Go.Rx Go.Re 
attribute [local irreducible] vcFun
def anfa:Nat->Ann:=fun | 32=>⟨74,fun | 6=>some ⟨[2,6,39,40],[.slot 41 (.int .i64)]⟩ | _=>none,fun _=>none⟩ | 34=>⟨171,fun | 16=>some ⟨[0,2,3,9,11,14],[.slot 10 (.int .i64),.slot 15 (.int .i64),.own 1000003 [.int .i64]]⟩ | 23=>some ⟨[0,2,3,9,11,14,15,130,131],[.slot 10 (.int .i64),.slot 132 (.int .i64),.own 1000003 [.int .i64]]⟩ | 7=>some ⟨[0,1,2,3,9,10,42,43],[.slot 11 (.int .i64),.slot 44 (.int .i64)]⟩ | _=>none,fun | 5=>some ⟨[0,1,2,3,9,10],[.own 1000003 [.int .i64]]⟩ | 16=>some ⟨[0,2,3,9,10,11,14],[.slot 15 (.int .i64)]⟩ | _=>none⟩ | 58=>⟨14,fun _=>none,fun _=>none⟩ | _=>⟨0,fun _=>none,fun _=>none⟩
def qfa0 (l:Lk) (x_4:Int):=idxP l.Rule (secsT (etT l.start))+x_4 * l.Rule.Interval
def qfa1 (l:Lk):=idxP l.Rule (secsT (etT l.start))+40000 * l.Rule.Interval
def qfa2 (l:Lk):=idxP l.Rule (bif false then max (0:Int) (315537897599:Int) else min (0:Int) (315537897599:Int))-idxP l.Rule (secsT (etT l.start))
def Vfa (l:Lk) (to:Int) (Q:Err->Prop):Prop :=
((0:Int)<=secsT (etT l.start)/\secsT (etT l.start)<=400000000000/\(0:Int)<=l.Rule.Wkst/\l.Rule.Wkst<=6)/\in64 ((40000:Int) * l.Rule.Interval)/\in64 (qfa1 l)/\(0:Int)<=idxP l.Rule (secsT (etT l.start))+40000 * l.Rule.Interval/\idxP l.Rule (secsT (etT l.start))+40000 * l.Rule.Interval<=1000000000000/\(0:Int)<=l.Rule.Wkst/\l.Rule.Wkst<=6/\(to<=begP l.Rule (qfa1 l) ∨ (315537897600:Int)<=begP l.Rule (qfa1 l)->Q Err.nil)/\(¬(to<=begP l.Rule (qfa1 l) ∨ (315537897600:Int)<=begP l.Rule (qfa1 l))->∃ (I:Int->Prop),∃ (m:Int->Nat),I (0:Int)/\∀ (x:Int),I x->(x<(↑l.Rule.Until.length:Int)->(0:Int)<=x/\x<(↑l.Rule.Until.length:Int)/\(in64 (ix l.Rule.Until x).Day.Year->in64 (ix l.Rule.Until x).Day.Month->in64 (ix l.Rule.Until x).Day.Date->in64 (ix l.Rule.Until x).Hour->in64 (ix l.Rule.Until x).Min->in64 (ix l.Rule.Until x).Sec->(secsT (etT (ix l.Rule.Until x))<begP l.Rule (qfa1 l)->Q Err.nil)/\(¬secsT (etT (ix l.Rule.Until x))<begP l.Rule (qfa1 l)->in64 (x+1)/\I (x+1)/\m (x+1)<m x)))/\(¬x<(↑l.Rule.Until.length:Int)->((0:Int)<l.Rule.Count->∃ (J:Int->Prop),((secsT (etT l.start)<begP l.Rule (qfa1 l)/\(0:Int)<=secsT (etT l.start)->in64 ((0:Int)+1)/\(¬(0:Int)+1<l.Rule.Count->(l.Rule.Count<=(0:Int)+1 ∨ Err.nil≠Err.nil->Q Err.nil)/\(¬(l.Rule.Count<=(0:Int)+1 ∨ Err.nil≠Err.nil)->Q (Err.w (87:Nat) [] (Err.no (5:Int)))))/\(¬¬(0:Int)+1<l.Rule.Count->J ((0:Int)+1)))/\(¬(secsT (etT l.start)<begP l.Rule (qfa1 l)/\(0:Int)<=secsT (etT l.start))->J (0:Int)))/\∀ (x:Int),J x->∃ (I:Int->Int->Prop),∃ (m:Int->Int->Nat),I (315537897600:Int) (0:Int)/\∀ (x_1 x_2:Int),I x_1 x_2->(x_2<(↑l.Rule.Until.length:Int)->(0:Int)<=x_2/\x_2<(↑l.Rule.Until.length:Int)/\(in64 (ix l.Rule.Until x_2).Day.Year->in64 (ix l.Rule.Until x_2).Day.Month->in64 (ix l.Rule.Until x_2).Day.Date->in64 (ix l.Rule.Until x_2).Hour->in64 (ix l.Rule.Until x_2).Min->in64 (ix l.Rule.Until x_2).Sec->in64 (x_2+1)/\I (secsT (etT (ix l.Rule.Until x_2))) (x_2+1)/\m (secsT (etT (ix l.Rule.Until x_2))) (x_2+1)<m x_1 x_2))/\(¬x_2<(↑l.Rule.Until.length:Int)->(0:Int)<=secsT (etT l.start)/\secsT (etT l.start)<=400000000000/\(0:Int)<=l.Rule.Wkst/\l.Rule.Wkst<=6/\∃ (J:Int->Prop),((l.Rule.Count=0/\secsT (etT l.start)<0->(((0:Int)<=bif false then max (0:Int) (315537897599:Int) else min (0:Int) (315537897599:Int))/\(bif false then max (0:Int) (315537897599:Int) else min (0:Int) (315537897599:Int))<=400000000000/\(0:Int)<=l.Rule.Wkst/\l.Rule.Wkst<=6)/\in64 (qfa2 l)/\(l.Rule.Interval≠0/\in64 ((qfa2 l).tdiv l.Rule.Interval))/\in64 ((qfa2 l).tdiv l.Rule.Interval-1)/\J (bif true then max (0:Int) ((qfa2 l).tdiv l.Rule.Interval-1) else min (0:Int) ((qfa2 l).tdiv l.Rule.Interval-1)))/\(¬(l.Rule.Count=0/\secsT (etT l.start)<0)->J (0:Int)))/\∀ (x_3:Int),J x_3->∃ (I:Int->Int->Int->Prop),∃ (m:Int->Int->Int->Nat),I (1:Int) x_3 x/\∀ (x x_4 x_5:Int),I x x_4 x_5->in64 (x_4 * l.Rule.Interval)/\in64 (qfa0 l x_4)/\(0:Int)<=idxP l.Rule (secsT (etT l.start))+x_4 * l.Rule.Interval/\idxP l.Rule (secsT (etT l.start))+x_4 * l.Rule.Interval<=1000000000000/\(0:Int)<=l.Rule.Wkst/\l.Rule.Wkst<=6/\(((begP l.Rule (qfa1 l)<=begP l.Rule (qfa0 l x_4) ∨ x_1<begP l.Rule (qfa0 l x_4)) ∨ (0:Int)<l.Rule.Count/\l.Rule.Count<=x) ∨ (315537897600:Int)<=begP l.Rule (qfa0 l x_4)->(l.Rule.Count<=x_5 ∨ Err.nil≠Err.nil->Q Err.nil)/\(¬(l.Rule.Count<=x_5 ∨ Err.nil≠Err.nil)->Q (Err.w (87:Nat) [] (Err.no (5:Int)))))/\(¬(((begP l.Rule (qfa1 l)<=begP l.Rule (qfa0 l x_4) ∨ x_1<begP l.Rule (qfa0 l x_4)) ∨ (0:Int)<l.Rule.Count/\l.Rule.Count<=x) ∨ (315537897600:Int)<=begP l.Rule (qfa0 l x_4))->((40000:Int)<=x_4->(l.Rule.Count<=x_5 ∨ Err.w (87:Nat) [] (Err.no (5:Int))≠Err.nil->Q (Err.w (87:Nat) [] (Err.no (5:Int))))/\(¬(l.Rule.Count<=x_5 ∨ Err.w (87:Nat) [] (Err.no (5:Int))≠Err.nil)->Q (Err.w (87:Nat) [] (Err.no (5:Int)))))/\(¬(40000:Int)<=x_4->fewR l.Rule=true/\fitsS l.start l.Rule=true/\(0:Int)<=idxP l.Rule (secsT (etT l.start))+x_4 * l.Rule.Interval/\idxP l.Rule (secsT (etT l.start))+x_4 * l.Rule.Interval<=999999999999/\∃ (I_1:Int->Int->Int->Prop),∃ (m_1:Int->Int->Int->Nat),I_1 x (0:Int) x_5/\∀ (x_6 x_7 x_8:Int),I_1 x_6 x_7 x_8->(x_7<(↑(candP l.start l.Rule l.day (qfa0 l x_4)).length:Int)->(0:Int)<=x_7/\x_7<(↑(candP l.start l.Rule l.day (qfa0 l x_4)).length:Int)/\(in64 (ix (candP l.start l.Rule l.day (qfa0 l x_4)) x_7)->(ix (candP l.start l.Rule l.day (qfa0 l x_4)) x_7<=secsT (etT l.start)->in64 (x_7+1)/\I_1 x_6 (x_7+1) x_8/\m_1 x_6 (x_7+1) x_8<m_1 x_6 x_7 x_8)/\(¬ix (candP l.start l.Rule l.day (qfa0 l x_4)) x_7<=secsT (etT l.start)->((begP l.Rule (qfa1 l)<=ix (candP l.start l.Rule l.day (qfa0 l x_4)) x_7 ∨ x_1<ix (candP l.start l.Rule l.day (qfa0 l x_4)) x_7) ∨ (0:Int)<l.Rule.Count/\l.Rule.Count<=x_6->in64 (x_4+1)/\I x_6 (x_4+1) x_8/\m x_6 (x_4+1) x_8<m x x_4 x_5)/\(¬((begP l.Rule (qfa1 l)<=ix (candP l.start l.Rule l.day (qfa0 l x_4)) x_7 ∨ x_1<ix (candP l.start l.Rule l.day (qfa0 l x_4)) x_7) ∨ (0:Int)<l.Rule.Count/\l.Rule.Count<=x_6)->in64 (x_6+1)/\in64 (x_8+1)/\(¬x_8+1<l.Rule.Count->(l.Rule.Count<=x_8+1 ∨ Err.nil≠Err.nil->Q Err.nil)/\(¬(l.Rule.Count<=x_8+1 ∨ Err.nil≠Err.nil)->Q (Err.w (87:Nat) [] (Err.no (5:Int)))))/\(¬¬x_8+1<l.Rule.Count->in64 (x_7+1)/\I_1 (x_6+1) (x_7+1) (x_8+1)/\m_1 (x_6+1) (x_7+1) (x_8+1)<m_1 x_6 x_7 x_8)))))/\(¬x_7<(↑(candP l.start l.Rule l.day (qfa0 l x_4)).length:Int)->in64 (x_4+1)/\I x_6 (x_4+1) x_8/\m x_6 (x_4+1) x_8<m x x_4 x_5)))))/\(¬(0:Int)<l.Rule.Count->Q (Err.w (87:Nat) [] (Err.no (5:Int))))))
theorem Vfa_eq {l:Lk} {to:Int} {Q:Err->Prop}:@Eq Prop (Vfa l to Q) (vcFun (E:=NI58) (inlHN NI58 H0 anfa 4) (anfa 32) Tryz.f32 [.fel (N:=U) 85 [l] 0 0,.int .i64 to] [] [] 0 (resP NI58 [.err] Q)):=by kernel_rfl
theorem Vfa_ok {l:Lk} {to:Int} {Q:Err->Prop} (h:Vfa l to Q):vcFun (E:=NI58) (inlHN NI58 H0 anfa 4) (anfa 32) Tryz.f32 [.fel (N:=U) 85 [l] 0 0,.int .i64 to] [] [] 0 (resP NI58 [.err] Q):=by rw [<- Vfa_eq]; exact h
set_option maxHeartbeats 2000000 in
theorem pfa (l:Lk) (to:Int) (hfw:fewR l.Rule=true) (hf:fitsS l.start l.Rule=true):Vfa l to (fun y0=>y0=errB (farB l.start l.Rule l.day to)):=by
 unfold Vfa qfa2 qfa1 qfa0
 simp only [etT_eq]
 have hF:=fits_iff.1 hf
 obtain ⟨s0,s1⟩:=secs_rg hF.rt
 obtain ⟨_,_,v0,v1,n0,n1,w0,w1⟩:=(rightR_iff.1 hF.rr).head
 obtain ⟨u1,u2⟩:=(rightR_iff.1 hF.rr).til
 obtain ⟨a0,a1⟩:=idxP_rg (r:=l.Rule) s0 s1 w0 w1
 obtain ⟨fb,hfb⟩:∃ fb,farB l.start l.Rule l.day to=fb:=⟨_,rfl⟩
 rw [hfb]
 unfold farB at hfb
 have lt:∀ n i:Int,i<n->(n-(i+1)).toNat<(n-i).toNat:=fun n i h=>by omega
 generalize begP l.Rule (idxP l.Rule (secsT l.start)+40000 * l.Rule.Interval)=b at *
 refine ⟨⟨s0,by omega,w0,w1⟩,⟨by omega,by omega⟩,⟨by omega,by omega⟩,by omega,by omega,w0,w1,fun h=>?_,fun h=>⟨fun x=>0<=x/\x<=(l.Rule.Until.length:Int)/\(0<x->¬ secsT (ix l.Rule.Until 0)<b),fun x=>((l.Rule.Until.length:Int)-x).toNat,⟨Int.le_refl 0,by omega,fun h=>absurd h (by decide)⟩,fun x hx=>⟨fun hlt=>⟨hx.1,hlt,fun _ _ _ _ _ _=>⟨fun hs=>?_,fun hs=>⟨⟨by omega,by omega⟩,⟨by omega,by omega,fun _=>?_⟩,lt _ _ hlt⟩⟩⟩,fun hge=>⟨fun hc=>?_,fun hc=>?_⟩⟩⟩⟩
 . rw [if_pos h] at hfb; rw [<- hfb]; rfl
 . have e:x=0:=by omega
   subst e
   rw [if_neg h,if_pos ⟨hlt,hs⟩] at hfb; rw [<- hfb]; rfl
 . have e:x=0:=by omega
   subst e; exact hs
 . have hnu:¬ (0<(l.Rule.Until.length:Int)/\secsT (ix l.Rule.Until 0)<b):=fun hh=>hx.2.2 (by omega) hh.2
   rw [if_neg h,if_neg hnu,if_pos hc] at hfb
   generalize hg:runE (farR l.Rule) [] (insS l.start l.Rule l.day 0 b).1 (insS l.start l.Rule l.day 0 b).2=g at hfb
   have R0:RunI (farR l.Rule) g [] (insS l.start l.Rule l.day 0 b).1 (insS l.start l.Rule l.day 0 b).2:=⟨hg⟩
   clear hg
   unfold insS at R0
   have ek:k0S l.start l.Rule 0=0:=by unfold k0S; rw [if_neg (fun hh=>absurd hh.1 (by omega))]
   rw [ek] at R0
   generalize secsT l.start=fi at *
   generalize idxP l.Rule fi=i0 at *
   have yes:∀ y:List Int,∀ t n:Int,(y.length:Int)=n->n+1<l.Rule.Count->farR l.Rule y t=true:=fun y t n hn hh=>decide_eq_true (by rw [hn]; exact hh)
   have no:∀ y:List Int,∀ t n:Int,(y.length:Int)=n->¬ n+1<l.Rule.Count->¬ farR l.Rule y t=true:=fun y t n hn hh e=>hh (by have:=of_decide_eq_true e; rw [hn] at this; exact this)
   have len1:∀ (y:List Int) (t n:Int),(y.length:Int)=n->((y++[t]).length:Int)=n+1:=fun y t n hn=>by rw [List.length_append,List.length_singleton]; omega
   refine ⟨fun n=>∃ y:List Int,(y.length:Int)=n/\n<=1/\OutI (farR l.Rule) g l.start l.Rule l.day fi b (tilS l.Rule) i0 0 1 y,⟨fun hfst=>⟨by decide,fun hst=>?_,fun hgo=>?_⟩,fun hnf=>?_⟩,fun n hn=>⟨fun til x=>0<=x/\x<=(l.Rule.Until.length:Int)/\til=if 0<x then secsT (ix l.Rule.Until 0) else 315537897600,fun _ x=>((l.Rule.Until.length:Int)-x).toNat,⟨Int.le_refl 0,by omega,rfl⟩,fun til x hx=>⟨fun hlt=>⟨hx.1,hlt,fun _ _ _ _ _ _=>⟨⟨by omega,by omega⟩,⟨by omega,by omega,?_⟩,lt _ _ hlt⟩⟩,fun hge=>?_⟩⟩⟩
   . rw [if_pos hfst.1,List.cons_append,List.nil_append] at R0
     have e:=R0.stop (no [] fi 0 rfl hst)
     have q:=farE_of hfb e (len1 [] fi 0 rfl)
     refine ⟨fun h1=>?_,fun h1=>absurd (.inl (by omega)) h1⟩
     rw [q.1 (by omega)]; rfl
   . rw [if_pos hfst.1,List.cons_append,List.nil_append] at R0
     exact ⟨[fi],rfl,by decide,⟨R0.go (yes [] fi 0 rfl (Classical.not_not.1 hgo))⟩⟩
   . rw [if_neg (fun hh=>hnf ⟨hh,s0⟩),List.nil_append] at R0
     exact ⟨[],rfl,by decide,⟨R0⟩⟩
   . have e:x=0:=by omega
     subst e; rfl
   . have etil:til=tilS l.Rule:=by
       rw [hx.2.2]
       unfold tilS
       by_cases hl:0<(l.Rule.Until.length:Int)
       . rw [if_pos hl,if_pos (by omega)]
       . rw [if_neg hl,if_neg (by omega)]
     rw [etil]
     generalize tilS l.Rule=til at *
     refine ⟨s0,by omega,w0,w1,fun k=>k=0,⟨fun hh=>absurd hh.2 (by omega),fun _=>rfl⟩,fun k hk=>⟨fun c k n=>∃ y:List Int,(y.length:Int)=n/\n<=c/\1<=c/\c<=l.Rule.Count/\0<=k/\k<=40000/\OutI (farR l.Rule) g l.start l.Rule l.day fi b til i0 k c y,fun _ k _=>(40001-k).toNat,?_,fun c k n hI=>?_⟩⟩
     . obtain ⟨y,h1,h2,h3⟩:=hn
       subst hk
       exact ⟨y,h1,h2,by decide,by omega,by decide,by decide,h3⟩
     . obtain ⟨y,hy,hnc,c0,c1,k0,k1,ho⟩:=hI
       obtain ⟨q0,q1⟩:=k_int hF.rr k0 k1
       refine ⟨⟨by omega,by omega⟩,⟨by omega,by omega⟩,by omega,by omega,w0,w1,fun he=>?_,fun he=>⟨fun h4=>?_,fun h4=>⟨hfw,hf,by omega,by omega,fun c' j n'=>∃ y:List Int,(y.length:Int)=n'/\n'<=c'/\1<=c'/\c'<=l.Rule.Count/\0<=j/\j<=((candP l.start l.Rule l.day (i0+k * l.Rule.Interval)).length:Int)/\InI' (farR l.Rule) g l.start l.Rule l.day fi b til i0 k c' ((candP l.start l.Rule l.day (i0+k * l.Rule.Interval)).drop j.toNat) y,fun _ j _=>(((candP l.start l.Rule l.day (i0+k * l.Rule.Interval)).length:Int)-j).toNat,⟨y,hy,hnc,c0,c1,Int.le_refl 0,by omega,by simpa using ho.enter he h4⟩,fun c' j n' hI'=>?_⟩⟩⟩
       . have q:=farE_of hfb (ho.fin he) hy
         refine ⟨fun h1=>?_,fun h1=>?_⟩
         . rw [q.1 (h1.resolve_right fun hh=>hh rfl)]; rfl
         . rw [q.2.2 (fun hh=>h1 (.inl hh)) rfl]; rfl
       . have q:=farE_of hfb (ho.many he h4) hy
         rw [q.2.1 rfl]
         exact ⟨fun _=>rfl,fun _=>rfl⟩
       . have hcl:=candP_len (day:=l.day) (i:=i0+k * l.Rule.Interval) hF (by omega)
         obtain ⟨y,hy,hnc,c0,c1,j0,j1,hi⟩:=hI'
         generalize candP l.start l.Rule l.day (i0+k * l.Rule.Interval)=L at *
         refine ⟨fun hj=>⟨j0,hj,fun _=>?_⟩,fun hj=>⟨⟨by omega,by omega⟩,⟨y,hy,hnc,c0,c1,by omega,by omega,?_⟩,by show (_:Int).toNat<(_:Int).toNat; omega⟩⟩
         . rw [drop_step j0 hj] at hi
           refine ⟨fun hs=>⟨⟨by omega,by omega⟩,⟨y,hy,hnc,c0,c1,by omega,by omega,hi.skip hs⟩,lt _ _ hj⟩,fun hs=>⟨fun hb=>⟨⟨by omega,by omega⟩,⟨y,hy,hnc,c0,c1,by omega,by omega,hi.leave hs hb⟩,by show (_:Int).toNat<(_:Int).toNat; omega⟩,fun hb=>?_⟩⟩
           have hcc:¬ l.Rule.Count<=c':=fun e=>hb (.inr ⟨hc,e⟩)
           refine ⟨⟨by omega,by omega⟩,⟨by omega,by omega⟩,fun hst=>?_,fun hgo=>⟨⟨by omega,by omega⟩,⟨y++[ix L j],len1 y _ _ hy,by omega,by omega,by omega,by omega,by omega,(hi.one hs hb).1 (yes y _ _ hy (Classical.not_not.1 hgo))⟩,lt _ _ hj⟩⟩
           have q:=farE_of hfb ((hi.one hs hb).2 (no y _ _ hy hst)) (len1 y _ _ hy)
           refine ⟨fun h1=>?_,fun h1=>absurd (.inl (by omega)) h1⟩
           rw [q.1 (by omega)]; rfl
         . rw [List.drop_eq_nil_of_le (by omega)] at hi
           exact hi.nil
 . have hnu:¬ (0<(l.Rule.Until.length:Int)/\secsT (ix l.Rule.Until 0)<b):=fun hh=>hx.2.2 (by omega) hh.2
   rw [if_neg h,if_neg hnu,if_neg hc] at hfb
   rw [<- hfb]; rfl
def cfa (a:List (SV U)) (nx:Nat):Option (CR U):=match a with | [.fel 85 [l] 0 0,.int .i64 to]=>some ⟨[fewR l.Rule=true,fitsS l.start l.Rule=true],[],.err (errB (farB l.start l.Rule l.day to)),[]⟩ | _=>none
theorem cfa_ok (args:List (SV U)) (nx:Nat) (c:CR U) (h:cfa args nx=some c) (hp:args.all pureS=true) (ho:allP c.ob):ConOK NI58.P NI58.N NI58.T NI58.G 32 args nx c:=by
 unfold cfa at h
 split at h
 . rename_i l to
   cases h
   exact con1 NI58_ok (inlHN_ok NI58_ok H0_ok anfa 4) Tryz.func32 (k:=.err) (x:=errB (farB l.start l.Rule l.day to)) hp (Vfa_ok (pfa l to ho.1 ho.2.1))
 . cases h
noncomputable def Nfa:Env:=NI58.addC 32 cfa
theorem Nfa_ok:EnvOK Nfa:=NI58_ok.addC Tryz.call32 cfa_ok
end Go.Proofs.YtdjfeninmbpflaaGreat
end
section
namespace Go.Proofs.YtdjfeninmbpflaaGreat
open Go Go.Wk Go.Wl Go.Rx Go.Re 
noncomputable def NI35:Env:=Nfa.addI 35 Tryz.f35
theorem NI35_ok:EnvOK NI35:=Nfa_ok.addI Tryz.call35 Tryz.func35
end Go.Proofs.YtdjfeninmbpflaaGreat
end
section
namespace Go.Re
open Go Go.Wk Go.Wl Go.Rx
theorem frA_snoc {s a:Tm} {y:List Int} {t:Int}:frA s a (y++[t])=if secsT a<=t then frA s a y++[atS t s] else frA s a y:=by
 rw [frA_app]
 show frA s a y++(if secsT a<=t then [atS t s] else [])=_
 split
 . rfl
 . exact List.append_nil _
theorem frA_yes {s a:Tm} {y:List Int} {t:Int} (h:secsT a<=t):frA s a (y++[t])=frA s a y++[atS t s]:=by rw [frA_snoc,if_pos h]
theorem frA_no {s a:Tm} {y:List Int} {t:Int} (h:¬ secsT a<=t):frA s a (y++[t])=frA s a y:=by rw [frA_snoc,if_neg h]
def expR (s a:Tm):List Int->Int->Bool:=fun y t=>decide (((frA s a (y++[t])).length:Int)<=1000)
def expG (s:Tm) (r:Rl) (a b:Tm):List Int×Bool:=runE (expR s a) [] (insS s r (numS s.Day) (secsT a) (secsT b)).1 (insS s r (numS s.Day) (secsT a) (secsT b)).2
def expF (s a:Tm) (g:List Int×Bool):List Tm×Err:=if g.2=true then ([],.no 5) else if 1000<((frA s a g.1).length:Int) then ([],.no 16) else (frA s a g.1,.nil)
open Classical in
noncomputable def expP (s:Tm) (r:Rl) (a b:Tm):List Tm×Err:=if BadX s r a b then ([],.no 2) else if farB s r (numS s.Day) (secsT b)=true then ([],.no 5) else expF s a (expG s r a b)
theorem is_many:(Err.w 87 [] (.no 5)).is 5:=by decide
theorem told_many:toldE (.w 87 [] (.no 5))=.no 5:=by unfold toldE; rw [if_pos is_many]
theorem expF_of {s a:Tm} {g:List Int×Bool} {px:List Tm×Err} {y:List Int} {e:Bool} (h:expF s a g=px) (hg:g=(y,e)):(e=true->px=([],.no 5))/\(e=false->(1000<((frA s a y).length:Int)->px=([],.no 16))/\(¬ 1000<((frA s a y).length:Int)->px=(frA s a y,.nil))):=by
 subst hg
 unfold expF at h
 refine ⟨fun he=>by rw [if_pos he] at h; exact h.symm,fun he=>⟨fun hl=>?_,fun hl=>?_⟩⟩
 . subst he; rw [if_neg Bool.false_ne_true,if_pos hl] at h; exact h.symm
 . subst he; rw [if_neg Bool.false_ne_true,if_neg hl] at h; exact h.symm
theorem tdivA_rg {d n:Int}:-(d.natAbs:Int)<=d.tdiv n/\d.tdiv n<=d.natAbs:=by
 have h2:(d.tdiv n).natAbs<=d.natAbs:=by rw [Int.natAbs_tdiv]; exact Nat.div_le_self _ _
 omega
theorem k0_rg {s:Tm} {r:Rl} {fr:Int} (hn:1<=r.Interval) (hd:∀ x,0<=x->x<315537897600->0<=idxP r x/\idxP r x<=315537897600) (hf:0<=fr) (hs:0<=secsT s/\secsT s<315537897600):0<=k0S s r fr/\0<=k0S s r fr * r.Interval/\k0S s r fr * r.Interval<=315537897600:=by
 unfold k0S
 split
 . obtain ⟨a0,a1⟩:=hd (secsT s) hs.1 hs.2
   obtain ⟨b0,b1⟩:=hd (min fr 315537897599) (by omega) (by omega)
   generalize idxP r (min fr 315537897599)=x at *
   generalize idxP r (secsT s)=z at *
   by_cases hz:(x-z).tdiv r.Interval-1<=0
   . rw [Int.max_eq_left hz]; simp
   . rw [Int.max_eq_right (by omega)]
     have hpos:0<=x-z:=by
      rcases Int.lt_or_le (x-z) 0 with h | h
      . exfalso
        have h2:(x-z).tdiv r.Interval<=0:=by
         have e:(x-z).tdiv r.Interval=-((z-x).tdiv r.Interval):=by rw [<- Int.neg_tdiv]; congr 1; omega
         have:0<=(z-x).tdiv r.Interval:=Int.tdiv_nonneg (by omega) (by omega)
         omega
        omega
      . exact h
     rw [Int.tdiv_eq_ediv_of_nonneg hpos] at *
     have h3:=Int.ediv_mul_le (x-z) (show r.Interval≠0 by omega)
     have h4:((x-z) / r.Interval-1) * r.Interval=(x-z) / r.Interval * r.Interval-r.Interval:=by rw [Int.sub_mul,Int.one_mul]
     have h5:0<=((x-z) / r.Interval-1) * r.Interval:=Int.mul_nonneg (by omega) (by omega)
     omega
 . simp
end Go.Re
end
section
namespace Go.Proofs.YtdjfeninmbpflaaGreat
open Go Go.Wk Go.Wl Go.Rx Go.Re 
attribute [local irreducible] vcFun
def anex:Nat->Ann:=fun | 13=>⟨61,fun _=>none,fun _=>none⟩ | 34=>⟨171,fun | 16=>some ⟨[0,2,3,9,11,14],[.slot 10 (.int .i64),.slot 15 (.int .i64),.own 2000003 [.acc 25]]⟩ | 23=>some ⟨[0,2,3,9,11,14,15,130,131],[.slot 10 (.int .i64),.slot 132 (.int .i64),.own 2000003 [.acc 25]]⟩ | 7=>some ⟨[0,1,2,3,9,10,42,43],[.slot 11 (.int .i64),.slot 44 (.int .i64)]⟩ | _=>none,fun | 5=>some ⟨[0,1,2,3,9,10],[.own 2000003 [.acc 25]]⟩ | 16=>some ⟨[0,2,3,9,10,11,14],[.slot 15 (.int .i64)]⟩ | _=>none⟩ | 35=>⟨18,fun _=>none,fun _=>none⟩ | _=>⟨0,fun _=>none,fun _=>none⟩
def qex0 (s:Tm) (r:Rl) (x_4:Int):=candP (etT s) (etR r) (numS (etD s.Day)) (idxP (etR r) (secsT (etT (etT s)))+x_4 * r.Interval)
def qex1 (r:Rl) (a:Tm) (s:Tm):=idxP (etR r) (bif false then max (secsT (etT a)) (315537897599:Int) else min (secsT (etT a)) (315537897599:Int))-idxP (etR r) (secsT (etT (etT s)))
def Vex (s:Tm) (r:Rl) (a:Tm) (b:Tm) (Q:List Tm->Err->Prop):Prop :=
fewR (etR r)=true/\((¬fitsS (etT s) (etR r)=true ∨ ¬rightT (etT a)=true) ∨ ¬rightT (etT b)=true->Q [] (Err.no (2:Int)))/\(¬((¬fitsS (etT s) (etR r)=true ∨ ¬rightT (etT a)=true) ∨ ¬rightT (etT b)=true)->fewR (etR r)=true/\fitsS (etT s) (etR r)=true/\(errB (farB (etT s) (etR r) (numS (etD s.Day)) (secsT (etT b)))≠Err.nil->((errB (farB (etT s) (etR r) (numS (etD s.Day)) (secsT (etT b)))).is (5:Int) ∨ errB (farB (etT s) (etR r) (numS (etD s.Day)) (secsT (etT b)))=Err.nil)/\Q [] (toldE (errB (farB (etT s) (etR r) (numS (etD s.Day)) (secsT (etT b))))))/\(¬errB (farB (etT s) (etR r) (numS (etD s.Day)) (secsT (etT b)))≠Err.nil->∃ (J:List Tm->Prop),((secsT (etT (etT s))<secsT (etT b)/\(0:Int)<=secsT (etT (etT s))->(secsT (etT a)<=secsT (etT (etT s))->secsT (etT (etT s))<=9000000000000000000/\[etT (atS (secsT (etT (etT s))) (etT s))].length * (some (56:Nat)).getD (0:Nat)<=140737488355328/\(¬(↑[etT (atS (secsT (etT (etT s))) (etT s))].length:Int)<=1000->(Err.nil≠Err.nil->(Err.nil.is (5:Int) ∨ Err.nil=Err.nil)/\Q [] (toldE Err.nil))/\(¬Err.nil≠Err.nil->((1000:Int)<(↑[etT (atS (secsT (etT (etT s))) (etT s))].length:Int)->Q [] (Err.no (16:Int)))/\(¬(1000:Int)<(↑[etT (atS (secsT (etT (etT s))) (etT s))].length:Int)->Q [etT (atS (secsT (etT (etT s))) (etT s))] Err.nil)))/\(¬¬(↑[etT (atS (secsT (etT (etT s))) (etT s))].length:Int)<=1000->J [etT (atS (secsT (etT (etT s))) (etT s))]))/\(¬secsT (etT a)<=secsT (etT (etT s))->(¬(0:Int)<=1000->(Err.nil≠Err.nil->(Err.nil.is (5:Int) ∨ Err.nil=Err.nil)/\Q [] (toldE Err.nil))/\(¬Err.nil≠Err.nil->((1000:Int)<0->Q [] (Err.no (16:Int)))/\(¬(1000:Int)<0->Q [] Err.nil)))/\(¬¬(0:Int)<=1000->J [])))/\(¬(secsT (etT (etT s))<secsT (etT b)/\(0:Int)<=secsT (etT (etT s)))->J []))/\∀ (x:List Tm),J x->∃ (I:Int->Int->Prop),∃ (m:Int->Int->Nat),I (315537897600:Int) (0:Int)/\∀ (x_1 x_2:Int),I x_1 x_2->(x_2<(↑r.Until.length:Int)->(0:Int)<=x_2/\x_2<(↑r.Until.length:Int)/\(in64 (ix r.Until x_2).Day.Year->in64 (ix r.Until x_2).Day.Month->in64 (ix r.Until x_2).Day.Date->in64 (ix r.Until x_2).Hour->in64 (ix r.Until x_2).Min->in64 (ix r.Until x_2).Sec->in64 (x_2+1)/\I (secsT (etT (ix r.Until x_2))) (x_2+1)/\m (secsT (etT (ix r.Until x_2))) (x_2+1)<m x_1 x_2))/\(¬x_2<(↑r.Until.length:Int)->(0:Int)<=secsT (etT (etT s))/\secsT (etT (etT s))<=400000000000/\(0:Int)<=r.Wkst/\r.Wkst<=6/\∃ (J:Int->Prop),((r.Count=0/\secsT (etT (etT s))<secsT (etT a)->(((0:Int)<=bif false then max (secsT (etT a)) (315537897599:Int) else min (secsT (etT a)) (315537897599:Int))/\(bif false then max (secsT (etT a)) (315537897599:Int) else min (secsT (etT a)) (315537897599:Int))<=400000000000/\(0:Int)<=r.Wkst/\r.Wkst<=6)/\in64 (qex1 r a s)/\(r.Interval≠0/\in64 ((qex1 r a s).tdiv r.Interval))/\in64 ((qex1 r a s).tdiv r.Interval-1)/\J (bif true then max (0:Int) ((qex1 r a s).tdiv r.Interval-1) else min (0:Int) ((qex1 r a s).tdiv r.Interval-1)))/\(¬(r.Count=0/\secsT (etT (etT s))<secsT (etT a))->J (0:Int)))/\∀ (x_3:Int),J x_3->∃ (I:Int->Int->List Tm->Prop),∃ (m:Int->Int->List Tm->Nat),I (1:Int) x_3 x/\∀ (x x_4:Int) (x_5:List Tm),I x x_4 x_5->in64 (x_4 * r.Interval)/\in64 (idxP (etR r) (secsT (etT (etT s)))+x_4 * r.Interval)/\(0:Int)<=idxP (etR r) (secsT (etT (etT s)))+x_4 * r.Interval/\idxP (etR r) (secsT (etT (etT s)))+x_4 * r.Interval<=1000000000000/\(0:Int)<=r.Wkst/\r.Wkst<=6/\(((secsT (etT b)<=begP (etR r) (idxP (etR r) (secsT (etT (etT s)))+x_4 * r.Interval) ∨ x_1<begP (etR r) (idxP (etR r) (secsT (etT (etT s)))+x_4 * r.Interval)) ∨ (0:Int)<r.Count/\r.Count<=x) ∨ (315537897600:Int)<=begP (etR r) (idxP (etR r) (secsT (etT (etT s)))+x_4 * r.Interval)->(Err.nil≠Err.nil->(Err.nil.is (5:Int) ∨ Err.nil=Err.nil)/\Q [] (toldE Err.nil))/\(¬Err.nil≠Err.nil->((1000:Int)<(↑x_5.length:Int)->Q [] (Err.no (16:Int)))/\(¬(1000:Int)<(↑x_5.length:Int)->Q x_5 Err.nil)))/\(¬(((secsT (etT b)<=begP (etR r) (idxP (etR r) (secsT (etT (etT s)))+x_4 * r.Interval) ∨ x_1<begP (etR r) (idxP (etR r) (secsT (etT (etT s)))+x_4 * r.Interval)) ∨ (0:Int)<r.Count/\r.Count<=x) ∨ (315537897600:Int)<=begP (etR r) (idxP (etR r) (secsT (etT (etT s)))+x_4 * r.Interval))->((40000:Int)<=x_4->(Err.w (87:Nat) [] (Err.no (5:Int))≠Err.nil->((Err.w (87:Nat) [] (Err.no (5:Int))).is (5:Int) ∨ Err.w (87:Nat) [] (Err.no (5:Int))=Err.nil)/\Q [] (toldE (Err.w (87:Nat) [] (Err.no (5:Int)))))/\(¬Err.w (87:Nat) [] (Err.no (5:Int))≠Err.nil->((1000:Int)<(↑x_5.length:Int)->Q [] (Err.no (16:Int)))/\(¬(1000:Int)<(↑x_5.length:Int)->Q x_5 Err.nil)))/\(¬(40000:Int)<=x_4->fewR (etR r)=true/\fitsS (etT s) (etR r)=true/\(0:Int)<=idxP (etR r) (secsT (etT (etT s)))+x_4 * r.Interval/\idxP (etR r) (secsT (etT (etT s)))+x_4 * r.Interval<=999999999999/\∃ (I_1:Int->Int->List Tm->Prop),∃ (m_1:Int->Int->List Tm->Nat),I_1 x (0:Int) x_5/\∀ (x_6 x_7:Int) (x_8:List Tm),I_1 x_6 x_7 x_8->(x_7<(↑(qex0 s r x_4).length:Int)->(0:Int)<=x_7/\x_7<(↑(qex0 s r x_4).length:Int)/\(in64 (ix (qex0 s r x_4) x_7)->(ix (qex0 s r x_4) x_7<=secsT (etT (etT s))->in64 (x_7+1)/\I_1 x_6 (x_7+1) x_8/\m_1 x_6 (x_7+1) x_8<m_1 x_6 x_7 x_8)/\(¬ix (qex0 s r x_4) x_7<=secsT (etT (etT s))->((secsT (etT b)<=ix (qex0 s r x_4) x_7 ∨ x_1<ix (qex0 s r x_4) x_7) ∨ (0:Int)<r.Count/\r.Count<=x_6->in64 (x_4+1)/\I x_6 (x_4+1) x_8/\m x_6 (x_4+1) x_8<m x x_4 x_5)/\(¬((secsT (etT b)<=ix (qex0 s r x_4) x_7 ∨ x_1<ix (qex0 s r x_4) x_7) ∨ (0:Int)<r.Count/\r.Count<=x_6)->in64 (x_6+1)/\(secsT (etT a)<=ix (qex0 s r x_4) x_7->ix (qex0 s r x_4) x_7<=9000000000000000000/\(x_8.length+[etT (atS (ix (qex0 s r x_4) x_7) (etT s))].length) * (some (56:Nat)).getD (0:Nat)<=140737488355328/\(¬(↑(x_8++[etT (atS (ix (qex0 s r x_4) x_7) (etT s))]).length:Int)<=1000->(Err.nil≠Err.nil->(Err.nil.is (5:Int) ∨ Err.nil=Err.nil)/\Q [] (toldE Err.nil))/\(¬Err.nil≠Err.nil->((1000:Int)<(↑(x_8++[etT (atS (ix (qex0 s r x_4) x_7) (etT s))]).length:Int)->Q [] (Err.no (16:Int)))/\(¬(1000:Int)<(↑(x_8++[etT (atS (ix (qex0 s r x_4) x_7) (etT s))]).length:Int)->Q (x_8++[etT (atS (ix (qex0 s r x_4) x_7) (etT s))]) Err.nil)))/\(¬¬(↑(x_8++[etT (atS (ix (qex0 s r x_4) x_7) (etT s))]).length:Int)<=1000->in64 (x_7+1)/\I_1 (x_6+1) (x_7+1) (x_8++[etT (atS (ix (qex0 s r x_4) x_7) (etT s))])/\m_1 (x_6+1) (x_7+1) (x_8++[etT (atS (ix (qex0 s r x_4) x_7) (etT s))])<m_1 x_6 x_7 x_8))/\(¬secsT (etT a)<=ix (qex0 s r x_4) x_7->(¬(↑x_8.length:Int)<=1000->(Err.nil≠Err.nil->(Err.nil.is (5:Int) ∨ Err.nil=Err.nil)/\Q [] (toldE Err.nil))/\(¬Err.nil≠Err.nil->((1000:Int)<(↑x_8.length:Int)->Q [] (Err.no (16:Int)))/\(¬(1000:Int)<(↑x_8.length:Int)->Q x_8 Err.nil)))/\(¬¬(↑x_8.length:Int)<=1000->in64 (x_7+1)/\I_1 (x_6+1) (x_7+1) x_8/\m_1 (x_6+1) (x_7+1) x_8<m_1 x_6 x_7 x_8))))))/\(¬x_7<(↑(qex0 s r x_4).length:Int)->in64 (x_4+1)/\I x_6 (x_4+1) x_8/\m x_6 (x_4+1) x_8<m x x_4 x_5))))))
theorem Vex_eq {s:Tm} {r:Rl} {a:Tm} {b:Tm} {Q:List Tm->Err->Prop}:@Eq Prop (Vex s r a b Q) (vcFun (E:=NI35) (inlHN NI35 H0 anex 4) (anex 13) Tryz.f13 [.agg [.int .i64 s.Day.Year,.int .i64 s.Day.Month,.int .i64 s.Day.Date,.int .i64 s.Hour,.int .i64 s.Min,.int .i64 s.Sec,blB s.Bare,blB s.UTC],.agg [.int .i64 r.Freq,.int .i64 r.Interval,.int .i64 r.Count,.sl (N:=U) 25 r.Until,.sl (N:=U) 3 r.Month,.sl (N:=U) 3 r.WeekNo,.sl (N:=U) 3 r.YearDay,.sl (N:=U) 3 r.MonthDay,.sl (N:=U) 60 r.Days,.sl (N:=U) 3 r.Hour,.sl (N:=U) 3 r.Minute,.sl (N:=U) 3 r.Second,.sl (N:=U) 3 r.SetPos,.int .i64 r.Wkst],.agg [.int .i64 a.Day.Year,.int .i64 a.Day.Month,.int .i64 a.Day.Date,.int .i64 a.Hour,.int .i64 a.Min,.int .i64 a.Sec,blB a.Bare,blB a.UTC],.agg [.int .i64 b.Day.Year,.int .i64 b.Day.Month,.int .i64 b.Day.Date,.int .i64 b.Hour,.int .i64 b.Min,.int .i64 b.Sec,blB b.Bare,blB b.UTC]] [] [] 0 (resP NI35 [.acc 25,.err] Q)):=by kernel_rfl
theorem Vex_ok {s:Tm} {r:Rl} {a:Tm} {b:Tm} {Q:List Tm->Err->Prop} (h:Vex s r a b Q):vcFun (E:=NI35) (inlHN NI35 H0 anex 4) (anex 13) Tryz.f13 [.agg [.int .i64 s.Day.Year,.int .i64 s.Day.Month,.int .i64 s.Day.Date,.int .i64 s.Hour,.int .i64 s.Min,.int .i64 s.Sec,blB s.Bare,blB s.UTC],.agg [.int .i64 r.Freq,.int .i64 r.Interval,.int .i64 r.Count,.sl (N:=U) 25 r.Until,.sl (N:=U) 3 r.Month,.sl (N:=U) 3 r.WeekNo,.sl (N:=U) 3 r.YearDay,.sl (N:=U) 3 r.MonthDay,.sl (N:=U) 60 r.Days,.sl (N:=U) 3 r.Hour,.sl (N:=U) 3 r.Minute,.sl (N:=U) 3 r.Second,.sl (N:=U) 3 r.SetPos,.int .i64 r.Wkst],.agg [.int .i64 a.Day.Year,.int .i64 a.Day.Month,.int .i64 a.Day.Date,.int .i64 a.Hour,.int .i64 a.Min,.int .i64 a.Sec,blB a.Bare,blB a.UTC],.agg [.int .i64 b.Day.Year,.int .i64 b.Day.Month,.int .i64 b.Day.Date,.int .i64 b.Hour,.int .i64 b.Min,.int .i64 b.Sec,blB b.Bare,blB b.UTC]] [] [] 0 (resP NI35 [.acc 25,.err] Q):=by rw [<- Vex_eq]; exact h
set_option maxHeartbeats 2000000 in
theorem pex (s:Tm) (r:Rl) (a:Tm) (b:Tm) (hfw:fewR r=true):Vex s r a b (fun y0 y1=>y0=(expP s r a b).1/\y1=(expP s r a b).2):=by
 unfold Vex qex1 qex0
 simp only [etT_eq,etR_eq,etD_eq]
 refine ⟨hfw,fun h=>?_,fun h=>?_⟩
 . unfold expP
   rw [if_pos (show BadX s r a b from h)]; exact ⟨rfl,rfl⟩
 have hnb:¬ BadX s r a b:=h
 have hf:fitsS s r=true:=Classical.not_not.1 fun e=>h (.inl (.inl e))
 have ha:rightT a=true:=Classical.not_not.1 fun e=>h (.inl (.inr e))
 have hb:rightT b=true:=Classical.not_not.1 fun e=>h (.inr e)
 have hF:=fits_iff.1 hf
 obtain ⟨px,hpx⟩:∃ p,expP s r a b=p:=⟨_,rfl⟩
 rw [hpx]
 unfold expP at hpx
 rw [if_neg hnb] at hpx
 obtain ⟨fb,hfb⟩:∃ fb,farB s r (numS s.Day) (secsT b)=fb:=⟨_,rfl⟩
 rw [hfb] at hpx ⊢
 refine ⟨hfw,hf,fun he=>?_,fun he=>?_⟩
 . cases fb with
   | false=>exact absurd rfl he
   | true =>
    rw [if_pos rfl] at hpx
    rw [<- hpx]
    exact ⟨.inl is_many,rfl,told_many⟩
 cases fb with
 | true=>exact absurd (fun e=>by cases e) he
 | false =>
 rw [if_neg Bool.false_ne_true] at hpx
 obtain ⟨s0,s1⟩:=secs_rg hF.rt
 obtain ⟨g0,g1⟩:=secs_rg ha
 obtain ⟨d0,d1⟩:=secs_rg hb
 obtain ⟨_,_,v0,v1,n0,n1,w0,w1⟩:=(rightR_iff.1 hF.rr).head
 obtain ⟨u1,u2⟩:=(rightR_iff.1 hF.rr).til
 have hix:∀ x,0<=x->x<315537897600->0<=idxP r x/\idxP r x<=315537897600:=fun x x0 x1=>idxP_rg x0 x1 w0 w1
 obtain ⟨z0,z1,z2⟩:=k0_rg (s:=s) v0 hix g0 ⟨s0,s1⟩
 obtain ⟨a0,a1⟩:=hix _ s0 s1
 obtain ⟨b0,b1⟩:=hix (min (secsT a) 315537897599) (by omega) (by omega)
 have lt:∀ n i:Int,i<n->(n-(i+1)).toNat<(n-i).toNat:=fun n i h=>by omega
 generalize hg:expG s r a b=g at hpx
 unfold expG at hg
 have R0:RunI (expR s a) g [] (insS s r (numS s.Day) (secsT a) (secsT b)).1 (insS s r (numS s.Day) (secsT a) (secsT b)).2:=⟨hg⟩
 clear hg
 unfold insS at R0
 have e1:∀ x y:Int,(bif false then max x y else min x y)=min x y:=fun _ _=>rfl
 have e2:∀ x y:Int,(bif true then max x y else min x y)=max x y:=fun _ _=>rfl
 simp only [e1,e2]
 have hk0:∀ p:Prop,(r.Count=0/\secsT s<secsT a->k0S s r (secsT a)=max 0 ((idxP r (min (secsT a) 315537897599)-idxP r (secsT s)).tdiv r.Interval-1))/\(¬ (r.Count=0/\secsT s<secsT a)->k0S s r (secsT a)=0):=fun _=>⟨fun hh=>if_pos hh,fun hh=>if_neg hh⟩
 have hk0:=hk0 True
 generalize k0S s r (secsT a)=kz at *
 obtain ⟨t0,t1⟩:=tdivA_rg (d:=idxP r (min (secsT a) 315537897599)-idxP r (secsT s)) (n:=r.Interval)
 generalize (idxP r (min (secsT a) 315537897599)-idxP r (secsT s)).tdiv r.Interval=td at *
 generalize idxP r (min (secsT a) 315537897599)=ia at *
 generalize hfi:secsT s=fi at *
 generalize idxP r fi=i0 at *
 generalize secsT b=to at *
 have yes:∀ (y:List Int) (t:Int),((frA s a (y++[t])).length:Int)<=1000->expR s a y t=true:=fun y t hh=>decide_eq_true hh
 have no:∀ (y:List Int) (t:Int),¬ ((frA s a (y++[t])).length:Int)<=1000->¬ expR s a y t=true:=fun y t hh e=>hh (of_decide_eq_true e)
 refine ⟨fun out=>∃ y,out=frA s a y/\(out.length:Int)<=1/\OutI (expR s a) g s r (numS s.Day) fi to (tilS r) i0 kz 1 y,⟨fun hfst=>⟨fun hs=>⟨by omega,by show 1 * 56<=140737488355328; decide,fun hst=>absurd (show ((1:Nat):Int)<=1000 by decide) hst,fun _=>?_⟩,fun hs=>⟨fun hst=>absurd (by decide) hst,fun _=>?_⟩⟩,fun hnf=>?_⟩,fun out hn=>⟨fun til x=>0<=x/\x<=(r.Until.length:Int)/\til=if 0<x then secsT (ix r.Until 0) else 315537897600,fun _ x=>((r.Until.length:Int)-x).toNat,⟨Int.le_refl 0,by omega,rfl⟩,fun til x hx=>⟨fun hlt=>⟨hx.1,hlt,fun _ _ _ _ _ _=>⟨⟨by omega,by omega⟩,⟨by omega,by omega,?_⟩,lt _ _ hlt⟩⟩,fun hge=>?_⟩⟩⟩
 . rw [if_pos hfst.1,List.cons_append,List.nil_append] at R0
   have e:=frA_yes (s:=s) (y:=[]) hs
   exact ⟨[fi],e.symm,(show ((1:Nat):Int)<=1 by decide),⟨R0.go (yes [] fi (by rw [e]; show ((1:Nat):Int)<=1000; decide))⟩⟩
 . rw [if_pos hfst.1,List.cons_append,List.nil_append] at R0
   have e:=frA_no (s:=s) (y:=[]) hs
   exact ⟨[fi],e.symm,(show ((0:Nat):Int)<=1 by decide),⟨R0.go (yes [] fi (by rw [e]; show ((0:Nat):Int)<=1000; decide))⟩⟩
 . rw [if_neg (fun hh=>hnf ⟨hh,s0⟩),List.nil_append] at R0
   exact ⟨[],rfl,by decide,⟨R0⟩⟩
 . have e:x=0:=by omega
   subst e; rfl
 . have etil:til=tilS r:=by
     rw [hx.2.2]
     unfold tilS
     by_cases hl:0<(r.Until.length:Int)
     . rw [if_pos hl,if_pos (by omega)]
     . rw [if_neg hl,if_neg (by omega)]
   rw [etil]
   generalize tilS r=til at *
   refine ⟨s0,by omega,w0,w1,fun k=>k=kz,⟨fun hh=>⟨⟨by omega,by omega,w0,w1⟩,⟨by omega,by omega⟩,⟨by omega,by omega,by omega⟩,⟨by omega,by omega⟩,(hk0.1 hh).symm⟩,fun hh=>(hk0.2 hh).symm⟩,fun k hk=>⟨fun c k out=>∃ y,out=frA s a y/\(out.length:Int)<=1000/\1<=c/\c<=1+k * 1000000000000/\0<=k/\0<=k * r.Interval/\k * r.Interval<=400000000000/\OutI (expR s a) g s r (numS s.Day) fi to til i0 k c y,fun _ k _=>(40001-k).toNat,?_,fun c k out hI=>?_⟩⟩
   . obtain ⟨y,h1,h2,h3⟩:=hn
     subst hk
     exact ⟨y,h1,by omega,by decide,by omega,z0,z1,by omega,h3⟩
   . obtain ⟨y,hy,ol,c0,c1,k0,k1,k2,ho⟩:=hI
     refine ⟨⟨by omega,by omega⟩,⟨by omega,by omega⟩,by omega,by omega,w0,w1,fun he=>?_,fun he=>⟨fun h4=>?_,fun h4=>⟨hfw,hf,by omega,by omega,fun c' j out'=>∃ y,out'=frA s a y/\(out'.length:Int)<=1000/\1<=c'/\c'<=1+k * 1000000000000+j/\0<=j/\j<=((candP s r (numS s.Day) (i0+k * r.Interval)).length:Int)/\InI' (expR s a) g s r (numS s.Day) fi to til i0 k c' ((candP s r (numS s.Day) (i0+k * r.Interval)).drop j.toNat) y,fun _ j _=>(((candP s r (numS s.Day) (i0+k * r.Interval)).length:Int)-j).toNat,⟨y,hy,ol,c0,by omega,Int.le_refl 0,by omega,by simpa using ho.enter he h4⟩,fun c' j out' hI'=>?_⟩⟩⟩
     . have q:=(expF_of hpx (ho.fin he)).2 rfl
       refine ⟨fun hh=>absurd rfl hh,fun _=>⟨fun hl=>absurd hl (by omega),fun hl=>?_⟩⟩
       rw [q.2 (by rw [<- hy]; omega),hy]; exact ⟨rfl,rfl⟩
     . have q:=(expF_of hpx (ho.many he h4)).1 rfl
       rw [q]
       exact ⟨fun _=>⟨.inl is_many,rfl,told_many⟩,fun hh=>absurd (fun e=>by cases e) hh⟩
     . have hcl:=candP_len (day:=numS s.Day) (i:=i0+k * r.Interval) hF (by omega)
       obtain ⟨q0,q1⟩:=k_int hF.rr (k:=k+1) (by omega) (by omega)
       obtain ⟨y,hy,ol,c0,c1,j0,j1,hi⟩:=hI'
       generalize candP s r (numS s.Day) (i0+k * r.Interval)=L at *
       refine ⟨fun hj=>⟨j0,hj,fun _=>?_⟩,fun hj=>⟨⟨by omega,by omega⟩,⟨y,hy,ol,c0,by omega,by omega,q0,by omega,?_⟩,by show (_:Int).toNat<(_:Int).toNat; omega⟩⟩
       . rw [drop_step j0 hj] at hi
         refine ⟨fun hs=>⟨⟨by omega,by omega⟩,⟨y,hy,ol,c0,by omega,by omega,by omega,hi.skip hs⟩,lt _ _ hj⟩,fun hs=>⟨fun hb=>⟨⟨by omega,by omega⟩,⟨y,hy,ol,c0,by omega,by omega,q0,by omega,hi.leave hs hb⟩,by show (_:Int).toNat<(_:Int).toNat; omega⟩,fun hb=>?_⟩⟩
         have hbt:ix L j<to:=by
          rcases Int.lt_or_le (ix L j) to with hh | hh
          . exact hh
          . exact absurd (.inl (.inl hh)) hb
         refine ⟨⟨by omega,by omega⟩,fun hsa=>?_,fun hsa=>?_⟩
         . have e:=frA_yes (s:=s) (y:=y) hsa
           rw [<- hy] at e
           refine ⟨by omega,?_,fun hst=>?_,fun hgo=>⟨⟨by omega,by omega⟩,⟨y++[ix L j],e.symm,by omega,by omega,by omega,by omega,by omega,(hi.one hs hb).1 (yes y _ (by rw [e]; omega))⟩,lt _ _ hj⟩⟩
           . show (out'.length+1) * 56<=140737488355328
             omega
           . have q:=(expF_of hpx ((hi.one hs hb).2 (no y _ (by rw [e]; exact hst)))).2 rfl
             rw [e] at q
             refine ⟨fun hh=>absurd rfl hh,fun _=>⟨fun hl=>?_,fun hl=>?_⟩⟩
             . rw [q.1 hl]; exact ⟨rfl,rfl⟩
             . rw [q.2 hl]; exact ⟨rfl,rfl⟩
         . have e:=frA_no (s:=s) (y:=y) hsa
           rw [<- hy] at e
           exact ⟨fun hst=>absurd ol hst,fun hgo=>⟨⟨by omega,by omega⟩,⟨y++[ix L j],e.symm,ol,by omega,by omega,by omega,by omega,(hi.one hs hb).1 (yes y _ (by rw [e]; exact ol))⟩,lt _ _ hj⟩⟩
       . rw [List.drop_eq_nil_of_le (by omega)] at hi
         exact hi.nil
noncomputable def cexs (s:Tm) (r:Rl) (a:Tm) (b:Tm) (nx:Nat):CR U:=⟨[fewR r=true],[],.tup [.acc nx,.err ((expP s r a b).2)],[.ac 25 ((expP s r a b).1)]⟩
noncomputable def cex (a:List (SV U)) (nx:Nat):Option (CR U):=match a with | [.agg l_s,.agg l_r,.agg l_a,.agg l_b]=>(y25.bk (.agg l_s)).bind fun s=>(y30.bk (.agg l_r)).bind fun r=>(y25.bk (.agg l_a)).bind fun a=>(y25.bk (.agg l_b)).bind fun b=>some (cexs s r a b nx) | _=>none
theorem cex_ok (args:List (SV U)) (nx:Nat) (c:CR U) (h:cex args nx=some c) (hp:args.all pureS=true) (ho:allP c.ob):ConOK NI35.P NI35.N NI35.T NI35.G 13 args nx c:=by
 unfold cex at h
 split at h
 . rename_i l_s l_r l_a l_b
   obtain ⟨s,hb_s,h⟩:=Option.bind_eq_some_iff.1 h
   obtain ⟨r,hb_r,h⟩:=Option.bind_eq_some_iff.1 h
   obtain ⟨a,hb_a,h⟩:=Option.bind_eq_some_iff.1 h
   obtain ⟨b,hb_b,h⟩:=Option.bind_eq_some_iff.1 h
   cases h
   exact ConOK.weak (b:=[.agg [.int .i64 s.Day.Year,.int .i64 s.Day.Month,.int .i64 s.Day.Date,.int .i64 s.Hour,.int .i64 s.Min,.int .i64 s.Sec,blB s.Bare,blB s.UTC],.agg [.int .i64 r.Freq,.int .i64 r.Interval,.int .i64 r.Count,.sl (N:=U) 25 r.Until,.sl (N:=U) 3 r.Month,.sl (N:=U) 3 r.WeekNo,.sl (N:=U) 3 r.YearDay,.sl (N:=U) 3 r.MonthDay,.sl (N:=U) 60 r.Days,.sl (N:=U) 3 r.Hour,.sl (N:=U) 3 r.Minute,.sl (N:=U) 3 r.Second,.sl (N:=U) 3 r.SetPos,.int .i64 r.Wkst],.agg [.int .i64 a.Day.Year,.int .i64 a.Day.Month,.int .i64 a.Day.Date,.int .i64 a.Hour,.int .i64 a.Min,.int .i64 a.Sec,blB a.Bare,blB a.UTC],.agg [.int .i64 b.Day.Year,.int .i64 b.Day.Month,.int .i64 b.Day.Date,.int .i64 b.Hour,.int .i64 b.Min,.int .i64 b.Sec,blB b.Bare,blB b.UTC]]) (con2 NI35_ok (inlHN_ok NI35_ok H0_ok anex 4) Tryz.func13 (k1:=.acc 25) (k2:=.err) rfl rfl (Vex_ok (pex s r a b ho.1))) fun ρ Z w v hr=>tup_conv [.agg l_s,.agg l_r,.agg l_a,.agg l_b] [.agg [.int .i64 s.Day.Year,.int .i64 s.Day.Month,.int .i64 s.Day.Date,.int .i64 s.Hour,.int .i64 s.Min,.int .i64 s.Sec,blB s.Bare,blB s.UTC],.agg [.int .i64 r.Freq,.int .i64 r.Interval,.int .i64 r.Count,.sl (N:=U) 25 r.Until,.sl (N:=U) 3 r.Month,.sl (N:=U) 3 r.WeekNo,.sl (N:=U) 3 r.YearDay,.sl (N:=U) 3 r.MonthDay,.sl (N:=U) 60 r.Days,.sl (N:=U) 3 r.Hour,.sl (N:=U) 3 r.Minute,.sl (N:=U) 3 r.Second,.sl (N:=U) 3 r.SetPos,.int .i64 r.Wkst],.agg [.int .i64 a.Day.Year,.int .i64 a.Day.Month,.int .i64 a.Day.Date,.int .i64 a.Hour,.int .i64 a.Min,.int .i64 a.Sec,blB a.Bare,blB a.UTC],.agg [.int .i64 b.Day.Year,.int .i64 b.Day.Month,.int .i64 b.Day.Date,.int .i64 b.Hour,.int .i64 b.Min,.int .i64 b.Sec,blB b.Bare,blB b.UTC]] _ ⟨fun _ h=>agg_conv25 hb_s h,fun _ h=>agg_conv30 hb_r h,fun _ h=>agg_conv25 hb_a h,fun _ h=>agg_conv25 hb_b h,trivial⟩ hr
 . cases h
noncomputable def Nex:Env:=NI35.addC 13 cex
theorem Nex_ok:EnvOK Nex:=NI35_ok.addC Tryz.call13 cex_ok
end Go.Proofs.YtdjfeninmbpflaaGreat
end
section
namespace Go.Proofs.YtdjfeninmbpflaaGreat
open Go Go.Wk Go.Wl Go.Rx Go.Re 
attribute [local irreducible] vcFun
def anno:Nat->Ann:=fun | 16=>⟨15,fun | 4=>some ⟨[0],[.slot 3 (.int .i64)]⟩ | _=>none,fun _=>none⟩ | _=>⟨0,fun _=>none,fun _=>none⟩
def Vno (e:Err) (Q:Int->Prop):Prop :=
(e=Err.nil->Q (0:Int))/\(¬e=Err.nil->∃ (I:Int->Prop),∃ (m:Int->Nat),I (1:Int)/\∀ (x:Int),I x->(x<=16->(e.is x->Q x)/\(¬e.is x->in64 (x+1)/\I (x+1)/\m (x+1)<m x))/\(¬x<=16->Q (-1:Int)))
theorem Vno_eq {e:Err} {Q:Int->Prop}:@Eq Prop (Vno e Q) (vcFun (E:=Nex) (inlHN Nex H0 anno 2) (anno 16) Tryz.f16 [.err e] [] [] 0 (resP Nex [.int .i64] Q)):=by kernel_rfl
theorem Vno_ok {e:Err} {Q:Int->Prop} (h:Vno e Q):vcFun (E:=Nex) (inlHN Nex H0 anno 2) (anno 16) Tryz.f16 [.err e] [] [] 0 (resP Nex [.int .i64] Q):=by rw [<- Vno_eq]; exact h
theorem nr_someb {e:Err} {n:Int} (h:¬ e=.nil) (hn:e.num=some n):e.nr=if 1<=n/\n<=16 then n else -1:=by
 cases e with
 | nil=>exact absurd rfl h
 | _=>unfold Err.nr; simp only [hn]
theorem nr_noneb {e:Err} (h:¬ e=.nil) (hn:e.num=none):e.nr=-1:=by
 cases e with
 | nil=>exact absurd rfl h
 | _=>unfold Err.nr; simp only [hn]
theorem pno (e:Err)  : Vno e (fun y0=>y0=e.nr):=by
 unfold Vno
 refine ⟨fun h=>by subst h; rfl,fun h=>⟨fun x=>1<=x/\x<=17/\∀ j:Int,1<=j->j<x->¬ e.is j,fun x=>(17-x).toNat,⟨by omega,by omega,fun j _ _=>by omega⟩,?_⟩⟩
 rintro x ⟨h0,h1,h2⟩
 refine ⟨fun hx=>⟨fun hi=>?_,fun hi=>⟨⟨by omega,by omega⟩,⟨by omega,by omega,fun j j0 j1=>?_⟩,by dsimp only; omega⟩⟩,fun hx=>?_⟩
 . have hi:e.num=some x:=hi
   rw [nr_someb h hi,if_pos ⟨h0,hx⟩]
 . by_cases e1:j=x
   . subst e1; exact hi
   . exact h2 j j0 (by omega)
 . cases hn:e.num with
   | none=>rw [nr_noneb h hn]
   | some n=>rw [nr_someb h hn,if_neg (fun hh=>h2 n hh.1 (by omega) hn)]
def cno (a:List (SV U)):Option (Q1 U):=match a with | [.err e]=>some ⟨[],[],.int .i64 e.nr⟩ | _=>none
theorem cno_ok (args:List (SV U)) (q:Q1 U) (h:cno args=some q) (ho:allP q.ob):LendOK Nex 16 args ⟨q.ob,q.hy,q.v,[]⟩:=by
 unfold cno at h
 split at h
 . rename_i e
   cases h
   exact lend1 Nex_ok (inlHN_ok Nex_ok H0_ok anno 2) Tryz.func16 (k:=.int .i64) (x:=e.nr) trivial (Vno_ok (pno e )) 0
 . cases h
noncomputable def Nno:Env:=Nex.addL 16 cno
theorem Nno_ok:EnvOK Nno:=Nex_ok.addL Tryz.call16 cno_ok
end Go.Proofs.YtdjfeninmbpflaaGreat
end
section
namespace Go.Re
open Go Go.Wk Go.Wl Go.Rx
def dyS (y m d:Int):Tm:=⟨⟨y,m,d⟩,0,0,0,true,false⟩
instance (r:Rl):Decidable (HeadR r):=by unfold HeadR; infer_instance
instance (r:Rl):Decidable (FitR r):=by unfold FitR; infer_instance
instance (r:Rl):Decidable (SomeR r):=by unfold SomeR; infer_instance
instance (m:Int) (d:Nt):Decidable (DayN m d):=by unfold DayN; infer_instance
instance (a b:Nt):Decidable (LessN a b):=by unfold LessN; infer_instance
def rOne:Rl:=Rl.mk 1 1 0 [] [] [] [] [] [Nt.mk (-1) 4] [] [] [] [] 0
def rTwo (w:Int):Rl:=Rl.mk 2 2 0 [] [] [] [] [] [Nt.mk 0 1,Nt.mk 0 6] [] [] [] [] w
theorem risL_nil {lo hi:Int} {b:Bool}:RisL [] lo hi b:=⟨fun i h0 h1=>absurd h1 (by simp; omega),fun i h0 h1=>absurd h1 (by simp; omega),by decide⟩
theorem lists_nil {f i c:Int} {u:List Tm} {d:List Nt} {w:Int}:ListsR (Rl.mk f i c u [] [] [] [] d [] [] [] [] w):=⟨risL_nil,risL_nil,risL_nil,risL_nil,risL_nil,risL_nil,risL_nil,risL_nil⟩
theorem fit_one:FitsP (dyS 1997 1 31) rOne:=by
 refine ⟨by decide,rightR_iff.2 ⟨by decide,⟨by decide,fun h=>absurd h (by decide)⟩,lists_nil,by decide,⟨fun i h0 h1=>?_,fun i h0 h1=>?_⟩,by decide,by decide⟩,fun h=>absurd h (by decide),fun _=>by decide⟩
 . have h1:i<1:=h1
   have:i=0:=by omega
   subst this; decide
 . have h1:i<1:=h1
   omega
theorem fit_two {w:Int} (hw:w=0 ∨ w=6):FitsP (dyS 1997 8 5) (rTwo w):=by
 have h2:rightR (rTwo w)=true:=by
  refine rightR_iff.2 ⟨?_,⟨by show (0:Int)<=1; decide,fun h=>absurd h (by show ¬ (0:Int)=1; decide)⟩,lists_nil,by show (2:Int)<=24; decide,⟨fun i h0 h1=>?_,fun i h0 h1=>?_⟩,?_,?_⟩
  . rcases hw with rfl | rfl <;> decide
  . have h1:i<2:=h1
    have:i=0 ∨ i=1:=by omega
    rcases this with rfl | rfl <;> (rcases hw with rfl | rfl <;> decide)
  . have h1:i<2:=h1
    have:i=1:=by omega
    subst this
    rcases hw with rfl | rfl <;> decide
  . rcases hw with rfl | rfl <;> decide
  . rcases hw with rfl | rfl <;> decide
 exact ⟨by decide,h2,fun h=>absurd h (by show ¬ (0:Int)<0; decide),fun _=>⟨by show (2:Int)<=3; decide,rfl,rfl,rfl⟩⟩
theorem expP_of {s a b:Tm} {r:Rl} {l:List Tm} (hF:FitsP s r) (ha:rightT a=true) (hb:rightT b=true) (hf:farB s r (numS s.Day) (secsT b)=false) (hg:expF s a (expG s r a b)=(l,.nil)):expP s r a b=(l,.nil):=by
 unfold expP
 rw [if_neg (fun h=>h.elim (fun h=>h.elim (fun h=>h (fits_iff.2 hF)) fun h=>h ha) fun h=>h hb),if_neg (by rw [hf]; exact Bool.false_ne_true),hg]
theorem ex_one:expP (dyS 1997 1 31) rOne (dyS 1997 1 1) (dyS 1997 4 1)=([dyS 1997 1 31,dyS 1997 2 28,dyS 1997 3 28],.nil) :=
 expP_of fit_one (by decide) (by decide) (by kernel_rfl) (by kernel_rfl)
theorem ex_two:expP (dyS 1997 8 5) (rTwo 0) (dyS 1997 8 1) (dyS 1997 8 25)=([dyS 1997 8 5,dyS 1997 8 10,dyS 1997 8 19,dyS 1997 8 24],.nil) :=
 expP_of (fit_two (.inl rfl)) (by decide) (by decide) (by kernel_rfl) (by kernel_rfl)
theorem ex_three:expP (dyS 1997 8 5) (rTwo 6) (dyS 1997 8 1) (dyS 1997 9 1)=([dyS 1997 8 5,dyS 1997 8 17,dyS 1997 8 19,dyS 1997 8 31],.nil) :=
 expP_of (fit_two (.inr rfl)) (by decide) (by decide) (by kernel_rfl) (by kernel_rfl)
end Go.Re
end
section
namespace Go.Proofs.YtdjfeninmbpflaaGreat
open Go Go.Wk Go.Wl Go.Rx Go.Re 
attribute [local irreducible] vcFun
def anld:Nat->Ann:=fun | 28=>⟨12,fun _=>none,fun _=>none⟩ | _=>⟨0,fun _=>none,fun _=>none⟩
def Vld (y:Int) (m:Int) (d:Int) (Q:Tm->Prop):Prop :=
Q (Tm.mk (Dy.mk y m d) (0:Int) (0:Int) (0:Int) true false)
theorem Vld_eq {y:Int} {m:Int} {d:Int} {Q:Tm->Prop}:@Eq Prop (Vld y m d Q) (vcFun (E:=Nno) (inlHN Nno H0 anld 2) (anld 28) Tryz.f28 [.int .i64 y,.int .i64 m,.int .i64 d] [] [] 0 (resP Nno [.val 25] Q)):=by kernel_rfl
theorem Vld_ok {y:Int} {m:Int} {d:Int} {Q:Tm->Prop} (h:Vld y m d Q):vcFun (E:=Nno) (inlHN Nno H0 anld 2) (anld 28) Tryz.f28 [.int .i64 y,.int .i64 m,.int .i64 d] [] [] 0 (resP Nno [.val 25] Q):=by rw [<- Vld_eq]; exact h
theorem pld (y:Int) (m:Int) (d:Int)  : Vld y m d (fun y0=>y0=dyS y m d):=by
 unfold Vld dyS
 rfl
def cld (a:List (SV U)):Option (Q1 U):=match a with | [.int .i64 y,.int .i64 m,.int .i64 d]=>some ⟨[],[],.agg [.int .i64 (dyS y m d).Day.Year,.int .i64 (dyS y m d).Day.Month,.int .i64 (dyS y m d).Day.Date,.int .i64 (dyS y m d).Hour,.int .i64 (dyS y m d).Min,.int .i64 (dyS y m d).Sec,blB (dyS y m d).Bare,blB (dyS y m d).UTC]⟩ | _=>none
theorem cld_ok (args:List (SV U)) (q:Q1 U) (h:cld args=some q) (ho:allP q.ob):LendOK Nno 28 args ⟨q.ob,q.hy,q.v,[]⟩:=by
 unfold cld at h
 split at h
 . rename_i y m d
   cases h
   exact lend1 Nno_ok (inlHN_ok Nno_ok H0_ok anld 2) Tryz.func28 (k:=.val 25) (x:=dyS y m d) ⟨_,_,rfl,rfl,rfl⟩ (Vld_ok (pld y m d )) 0
 . cases h
noncomputable def Nld:Env:=Nno.addL 28 cld
theorem Nld_ok:EnvOK Nld:=Nno_ok.addL Tryz.call28 cld_ok
end Go.Proofs.YtdjfeninmbpflaaGreat
end
section
namespace Go.Proofs.YtdjfeninmbpflaaGreat
open Go Go.Wk Go.Wl Go.Rx Go.Re 
attribute [local irreducible] vcFun
def anal:Nat->Ann:=fun | 12=>⟨74,fun _=>none,fun _=>none⟩ | _=>⟨0,fun _=>none,fun _=>none⟩
def Val  (Q:Bool->Prop):Prop :=
fewR (rOne)=true/\fewR (rTwo (0:Int))=true/\fewR (rTwo (6:Int))=true/\in64 ((expP (etT (dyS (1997:Int) (1:Int) (31:Int))) (rOne) (etT (dyS (1997:Int) (1:Int) (1:Int))) (etT (dyS (1997:Int) (4:Int) (1:Int)))).snd.nr+(expP (etT (dyS (1997:Int) (8:Int) (5:Int))) (rTwo (0:Int)) (etT (dyS (1997:Int) (8:Int) (1:Int))) (etT (dyS (1997:Int) (8:Int) (25:Int)))).snd.nr)/\in64 ((expP (etT (dyS (1997:Int) (1:Int) (31:Int))) (rOne) (etT (dyS (1997:Int) (1:Int) (1:Int))) (etT (dyS (1997:Int) (4:Int) (1:Int)))).snd.nr+(expP (etT (dyS (1997:Int) (8:Int) (5:Int))) (rTwo (0:Int)) (etT (dyS (1997:Int) (8:Int) (1:Int))) (etT (dyS (1997:Int) (8:Int) (25:Int)))).snd.nr+(expP (etT (dyS (1997:Int) (8:Int) (5:Int))) (rTwo (6:Int)) (etT (dyS (1997:Int) (8:Int) (1:Int))) (etT (dyS (1997:Int) (9:Int) (1:Int)))).snd.nr)/\((expP (etT (dyS (1997:Int) (1:Int) (31:Int))) (rOne) (etT (dyS (1997:Int) (1:Int) (1:Int))) (etT (dyS (1997:Int) (4:Int) (1:Int)))).snd.nr+(expP (etT (dyS (1997:Int) (8:Int) (5:Int))) (rTwo (0:Int)) (etT (dyS (1997:Int) (8:Int) (1:Int))) (etT (dyS (1997:Int) (8:Int) (25:Int)))).snd.nr+(expP (etT (dyS (1997:Int) (8:Int) (5:Int))) (rTwo (6:Int)) (etT (dyS (1997:Int) (8:Int) (1:Int))) (etT (dyS (1997:Int) (9:Int) (1:Int)))).snd.nr=(0:Int)->(expP (etT (dyS (1997:Int) (1:Int) (31:Int))) (rOne) (etT (dyS (1997:Int) (1:Int) (1:Int))) (etT (dyS (1997:Int) (4:Int) (1:Int)))).fst.length<=(10000000:Nat)/\(sameT (expP (etT (dyS (1997:Int) (1:Int) (31:Int))) (rOne) (etT (dyS (1997:Int) (1:Int) (1:Int))) (etT (dyS (1997:Int) (4:Int) (1:Int)))).fst [etT (dyS (1997:Int) (1:Int) (31:Int)),etT (dyS (1997:Int) (2:Int) (28:Int)),etT (dyS (1997:Int) (3:Int) (28:Int))]=true->(expP (etT (dyS (1997:Int) (8:Int) (5:Int))) (rTwo (0:Int)) (etT (dyS (1997:Int) (8:Int) (1:Int))) (etT (dyS (1997:Int) (8:Int) (25:Int)))).fst.length<=(10000000:Nat)/\(sameT (expP (etT (dyS (1997:Int) (8:Int) (5:Int))) (rTwo (0:Int)) (etT (dyS (1997:Int) (8:Int) (1:Int))) (etT (dyS (1997:Int) (8:Int) (25:Int)))).fst [etT (dyS (1997:Int) (8:Int) (5:Int)),etT (dyS (1997:Int) (8:Int) (10:Int)),etT (dyS (1997:Int) (8:Int) (19:Int)),etT (dyS (1997:Int) (8:Int) (24:Int))]=true->(expP (etT (dyS (1997:Int) (8:Int) (5:Int))) (rTwo (6:Int)) (etT (dyS (1997:Int) (8:Int) (1:Int))) (etT (dyS (1997:Int) (9:Int) (1:Int)))).fst.length<=(10000000:Nat)/\Q (decide (sameT (expP (etT (dyS (1997:Int) (8:Int) (5:Int))) (rTwo (6:Int)) (etT (dyS (1997:Int) (8:Int) (1:Int))) (etT (dyS (1997:Int) (9:Int) (1:Int)))).fst [etT (dyS (1997:Int) (8:Int) (5:Int)),etT (dyS (1997:Int) (8:Int) (17:Int)),etT (dyS (1997:Int) (8:Int) (19:Int)),etT (dyS (1997:Int) (8:Int) (31:Int))]=true)))/\(¬sameT (expP (etT (dyS (1997:Int) (8:Int) (5:Int))) (rTwo (0:Int)) (etT (dyS (1997:Int) (8:Int) (1:Int))) (etT (dyS (1997:Int) (8:Int) (25:Int)))).fst [etT (dyS (1997:Int) (8:Int) (5:Int)),etT (dyS (1997:Int) (8:Int) (10:Int)),etT (dyS (1997:Int) (8:Int) (19:Int)),etT (dyS (1997:Int) (8:Int) (24:Int))]=true->Q false))/\(¬sameT (expP (etT (dyS (1997:Int) (1:Int) (31:Int))) (rOne) (etT (dyS (1997:Int) (1:Int) (1:Int))) (etT (dyS (1997:Int) (4:Int) (1:Int)))).fst [etT (dyS (1997:Int) (1:Int) (31:Int)),etT (dyS (1997:Int) (2:Int) (28:Int)),etT (dyS (1997:Int) (3:Int) (28:Int))]=true->Q false))/\(¬(expP (etT (dyS (1997:Int) (1:Int) (31:Int))) (rOne) (etT (dyS (1997:Int) (1:Int) (1:Int))) (etT (dyS (1997:Int) (4:Int) (1:Int)))).snd.nr+(expP (etT (dyS (1997:Int) (8:Int) (5:Int))) (rTwo (0:Int)) (etT (dyS (1997:Int) (8:Int) (1:Int))) (etT (dyS (1997:Int) (8:Int) (25:Int)))).snd.nr+(expP (etT (dyS (1997:Int) (8:Int) (5:Int))) (rTwo (6:Int)) (etT (dyS (1997:Int) (8:Int) (1:Int))) (etT (dyS (1997:Int) (9:Int) (1:Int)))).snd.nr=(0:Int)->Q false)
theorem Val_eq  {Q:Bool->Prop}:@Eq Prop (Val  Q) (vcFun (E:=Nld) (inlHN Nld H0 anal 3) (anal 12) Tryz.f12 [] [] [] 0 (resP Nld [.bool] Q)):=by kernel_rfl
theorem Val_ok  {Q:Bool->Prop} (h:Val  Q):vcFun (E:=Nld) (inlHN Nld H0 anal 3) (anal 12) Tryz.f12 [] [] [] 0 (resP Nld [.bool] Q):=by rw [<- Val_eq]; exact h
theorem pal   : Val  (fun y0=>y0=true):=by
 unfold Val
 simp only [etT_eq]
 rw [ex_one,ex_two,ex_three]
 have st:∀ l:List Tm,sameT l l=true:=fun l=>decide_eq_true rfl
 exact ⟨by decide,by decide,by decide,⟨by decide,by decide⟩,⟨by decide,by decide⟩,fun _=>⟨by decide,fun _=>⟨by decide,fun _=>⟨by decide,decide_eq_true (st _)⟩,fun h=>absurd (st _) h⟩,fun h=>absurd (st _) h⟩,fun h=>absurd rfl h⟩
def cal (a:List (SV U)):Option (Q1 U):=match a with | []=>some ⟨[],[],blB true⟩ | _=>none
theorem cal_ok (args:List (SV U)) (q:Q1 U) (h:cal args=some q) (ho:allP q.ob):LendOK Nld 12 args ⟨q.ob,q.hy,q.v,[]⟩:=by
 unfold cal at h
 split at h
 . cases h
   exact lend1 Nld_ok (inlHN_ok Nld_ok H0_ok anal 3) Tryz.func12 (k:=.bool) (x:=true) trivial (Val_ok (pal  )) 0
 . cases h
noncomputable def Nal:Env:=Nld.addL 12 cal
theorem Nal_ok:EnvOK Nal:=Nld_ok.addL Tryz.call12 cal_ok
end Go.Proofs.YtdjfeninmbpflaaGreat
end
section
namespace Go.Proofs.YtdjfeninmbpflaaGreat
open Go Go.Wk Go.Wl Go.Rx Go.Re 
attribute [local irreducible] vcFun
def anln:Nat->Ann:=fun | 11=>⟨31,fun _=>none,fun _=>none⟩ | _=>⟨0,fun _=>none,fun _=>none⟩
def Vln (s:Tm) (r:Rl) (t:Tm) (Q:Bool->Prop):Prop :=
(¬rightT (Tm.mk (Dy.mk s.Day.Year s.Day.Month s.Day.Date) s.Hour s.Min s.Sec (decide (s.Bare=true)) (decide (s.UTC=true)))=true ∨ ¬rightT (Tm.mk (Dy.mk t.Day.Year t.Day.Month t.Day.Date) t.Hour t.Min t.Sec (decide (t.Bare=true)) (decide (t.UTC=true)))=true->Q true)/\(¬(¬rightT (Tm.mk (Dy.mk s.Day.Year s.Day.Month s.Day.Date) s.Hour s.Min s.Sec (decide (s.Bare=true)) (decide (s.UTC=true)))=true ∨ ¬rightT (Tm.mk (Dy.mk t.Day.Year t.Day.Month t.Day.Date) t.Hour t.Min t.Sec (decide (t.Bare=true)) (decide (t.UTC=true)))=true)->((0:Int)<=bif true then max (0:Int) (bif false then max r.Freq (6:Int) else min r.Freq (6:Int)) else min (0:Int) (bif false then max r.Freq (6:Int) else min r.Freq (6:Int)))/\(bif true then max (0:Int) (bif false then max r.Freq (6:Int) else min r.Freq (6:Int)) else min (0:Int) (bif false then max r.Freq (6:Int) else min r.Freq (6:Int)))<(↑[(3000:Int),(3000:Int),(1500:Int),(700:Int),(60:Int),(4:Int),(1:Int)].length:Int)/\(in64 (ix [(3000:Int),(3000:Int),(1500:Int),(700:Int),(60:Int),(4:Int),(1:Int)] (bif true then max (0:Int) (bif false then max r.Freq (6:Int) else min r.Freq (6:Int)) else min (0:Int) (bif false then max r.Freq (6:Int) else min r.Freq (6:Int))))->in64 (secsT (Tm.mk (Dy.mk t.Day.Year t.Day.Month t.Day.Date) t.Hour t.Min t.Sec (decide (t.Bare=true)) (decide (t.UTC=true)))-secsT (Tm.mk (Dy.mk s.Day.Year s.Day.Month s.Day.Date) s.Hour s.Min s.Sec (decide (s.Bare=true)) (decide (s.UTC=true))))/\in64 ((86400:Int) * ix [(3000:Int),(3000:Int),(1500:Int),(700:Int),(60:Int),(4:Int),(1:Int)] (bif true then max (0:Int) (bif false then max r.Freq (6:Int) else min r.Freq (6:Int)) else min (0:Int) (bif false then max r.Freq (6:Int) else min r.Freq (6:Int))))/\Q (decide (secsT (Tm.mk (Dy.mk t.Day.Year t.Day.Month t.Day.Date) t.Hour t.Min t.Sec (decide (t.Bare=true)) (decide (t.UTC=true)))-secsT (Tm.mk (Dy.mk s.Day.Year s.Day.Month s.Day.Date) s.Hour s.Min s.Sec (decide (s.Bare=true)) (decide (s.UTC=true)))<=(86400:Int) * ix [(3000:Int),(3000:Int),(1500:Int),(700:Int),(60:Int),(4:Int),(1:Int)] (bif true then max (0:Int) (bif false then max r.Freq (6:Int) else min r.Freq (6:Int)) else min (0:Int) (bif false then max r.Freq (6:Int) else min r.Freq (6:Int)))))))
theorem Vln_eq {s:Tm} {r:Rl} {t:Tm} {Q:Bool->Prop}:@Eq Prop (Vln s r t Q) (vcFun (E:=Nal) (inlHN Nal H0 anln 2) (anln 11) Tryz.f11 [.agg [.int .i64 s.Day.Year,.int .i64 s.Day.Month,.int .i64 s.Day.Date,.int .i64 s.Hour,.int .i64 s.Min,.int .i64 s.Sec,blB s.Bare,blB s.UTC],.agg [.int .i64 r.Freq,.int .i64 r.Interval,.int .i64 r.Count,.sl (N:=U) 25 r.Until,.sl (N:=U) 3 r.Month,.sl (N:=U) 3 r.WeekNo,.sl (N:=U) 3 r.YearDay,.sl (N:=U) 3 r.MonthDay,.sl (N:=U) 60 r.Days,.sl (N:=U) 3 r.Hour,.sl (N:=U) 3 r.Minute,.sl (N:=U) 3 r.Second,.sl (N:=U) 3 r.SetPos,.int .i64 r.Wkst],.agg [.int .i64 t.Day.Year,.int .i64 t.Day.Month,.int .i64 t.Day.Date,.int .i64 t.Hour,.int .i64 t.Min,.int .i64 t.Sec,blB t.Bare,blB t.UTC]] [] [] 0 (resP Nal [.bool] Q)):=by kernel_rfl
theorem Vln_ok {s:Tm} {r:Rl} {t:Tm} {Q:Bool->Prop} (h:Vln s r t Q):vcFun (E:=Nal) (inlHN Nal H0 anln 2) (anln 11) Tryz.f11 [.agg [.int .i64 s.Day.Year,.int .i64 s.Day.Month,.int .i64 s.Day.Date,.int .i64 s.Hour,.int .i64 s.Min,.int .i64 s.Sec,blB s.Bare,blB s.UTC],.agg [.int .i64 r.Freq,.int .i64 r.Interval,.int .i64 r.Count,.sl (N:=U) 25 r.Until,.sl (N:=U) 3 r.Month,.sl (N:=U) 3 r.WeekNo,.sl (N:=U) 3 r.YearDay,.sl (N:=U) 3 r.MonthDay,.sl (N:=U) 60 r.Days,.sl (N:=U) 3 r.Hour,.sl (N:=U) 3 r.Minute,.sl (N:=U) 3 r.Second,.sl (N:=U) 3 r.SetPos,.int .i64 r.Wkst],.agg [.int .i64 t.Day.Year,.int .i64 t.Day.Month,.int .i64 t.Day.Date,.int .i64 t.Hour,.int .i64 t.Min,.int .i64 t.Sec,blB t.Bare,blB t.UTC]] [] [] 0 (resP Nal [.bool] Q):=by rw [<- Vln_eq]; exact h
theorem pln (s:Tm) (r:Rl) (t:Tm)  : Vln s r t (fun y0=>y0=nearS s r t):=by
 unfold Vln nearS
 simp only [Bool.decide_eq_true]
 rw [show (Tm.mk (Dy.mk s.Day.Year s.Day.Month s.Day.Date) s.Hour s.Min s.Sec s.Bare s.UTC)=s from rfl,show (Tm.mk (Dy.mk t.Day.Year t.Day.Month t.Day.Date) t.Hour t.Min t.Sec t.Bare t.UTC)=t from rfl]
 have b0:∀ a b:Int,(bif false then max a b else min a b)=min a b:=fun _ _=>rfl
 have b1:∀ a b:Int,(bif true then max a b else min a b)=max a b:=fun _ _=>rfl
 simp only [b0,b1]
 rw [show ([3000,3000,1500,700,60,4,1]:List Int)=farL from rfl]
 refine ⟨fun h=>by rw [if_pos h],fun h=>?_⟩
 have hs:rightT s=true:=Classical.not_not.1 fun hn=>h (.inl hn)
 have ht:rightT t=true:=Classical.not_not.1 fun hn=>h (.inr hn)
 have a:=secs_rg hs
 have b:=secs_rg ht
 have c:=far_rg (i:=max 0 (min r.Freq 6)) (by omega) (by omega)
 have el:(farL.length:Int)=7:=rfl
 refine ⟨by omega,by rw [el]; omega,fun _=>⟨⟨by omega,by omega⟩,⟨by omega,by omega⟩,by rw [if_neg h]⟩⟩
noncomputable def clns (s:Tm) (r:Rl) (t:Tm):Q1 U:=⟨[],[],blB (nearS s r t)⟩
noncomputable def cln (a:List (SV U)):Option (Q1 U):=match a with | [.agg l_s,.agg l_r,.agg l_t]=>(y25.bk (.agg l_s)).bind fun s=>(y30.bk (.agg l_r)).bind fun r=>(y25.bk (.agg l_t)).bind fun t=>some (clns s r t) | _=>none
theorem cln_ok (args:List (SV U)) (q:Q1 U) (h:cln args=some q) (ho:allP q.ob):LendOK Nal 11 args ⟨q.ob,q.hy,q.v,[]⟩:=by
 unfold cln at h
 split at h
 . rename_i l_s l_r l_t
   obtain ⟨s,hb_s,h⟩:=Option.bind_eq_some_iff.1 h
   obtain ⟨r,hb_r,h⟩:=Option.bind_eq_some_iff.1 h
   obtain ⟨t,hb_t,h⟩:=Option.bind_eq_some_iff.1 h
   cases h
   refine LendOK.conv (E:=Nal) (args':=[.agg [.int .i64 s.Day.Year,.int .i64 s.Day.Month,.int .i64 s.Day.Date,.int .i64 s.Hour,.int .i64 s.Min,.int .i64 s.Sec,blB s.Bare,blB s.UTC],.agg [.int .i64 r.Freq,.int .i64 r.Interval,.int .i64 r.Count,.sl 25 r.Until,.sl 3 r.Month,.sl 3 r.WeekNo,.sl 3 r.YearDay,.sl 3 r.MonthDay,.sl 60 r.Days,.sl 3 r.Hour,.sl 3 r.Minute,.sl 3 r.Second,.sl 3 r.SetPos,.int .i64 r.Wkst],.agg [.int .i64 t.Day.Year,.int .i64 t.Day.Month,.int .i64 t.Day.Date,.int .i64 t.Hour,.int .i64 t.Min,.int .i64 t.Sec,blB t.Bare,blB t.UTC]]) (lend1 Nal_ok (inlHN_ok Nal_ok H0_ok anln 2) Tryz.func11 (k:=.bool) trivial (Vln_ok (pln s r t )) 0) fun D w vs hr=>tup_conv [.agg l_s,.agg l_r,.agg l_t] [.agg [.int .i64 s.Day.Year,.int .i64 s.Day.Month,.int .i64 s.Day.Date,.int .i64 s.Hour,.int .i64 s.Min,.int .i64 s.Sec,blB s.Bare,blB s.UTC],.agg [.int .i64 r.Freq,.int .i64 r.Interval,.int .i64 r.Count,.sl (N:=U) 25 r.Until,.sl (N:=U) 3 r.Month,.sl (N:=U) 3 r.WeekNo,.sl (N:=U) 3 r.YearDay,.sl (N:=U) 3 r.MonthDay,.sl (N:=U) 60 r.Days,.sl (N:=U) 3 r.Hour,.sl (N:=U) 3 r.Minute,.sl (N:=U) 3 r.Second,.sl (N:=U) 3 r.SetPos,.int .i64 r.Wkst],.agg [.int .i64 t.Day.Year,.int .i64 t.Day.Month,.int .i64 t.Day.Date,.int .i64 t.Hour,.int .i64 t.Min,.int .i64 t.Sec,blB t.Bare,blB t.UTC]] _ ⟨fun _ h=>agg_conv25 hb_s h,fun _ h=>agg_conv30 hb_r h,fun _ h=>agg_conv25 hb_t h,trivial⟩ hr
 . cases h
noncomputable def Nln:Env:=Nal.addL 11 cln
theorem Nln_ok:EnvOK Nln:=Nal_ok.addL Tryz.call11 cln_ok
end Go.Proofs.YtdjfeninmbpflaaGreat
end
section
namespace Go.Proofs.YtdjfeninmbpflaaGreat
open Go Go.Wk Go.Wl Go.Rx Go.Re 
noncomputable def NI52:Env:=Nln.addI 52 Tryz.f52
theorem NI52_ok:EnvOK NI52:=Nln_ok.addI Tryz.call52 Tryz.func52
end Go.Proofs.YtdjfeninmbpflaaGreat
end
section
namespace Go.Re
open Go Go.Wk Go.Wl Go.Rx
abbrev Up (l:List Int):Prop:=l.Pairwise (· < ·)
theorem up_of {l:List Int} (h:UpL l):Up l:=List.pairwise_iff_getElem.2 fun i j hi hj hij=>upL_pair h j i hij hj
theorem rng_up (n:Nat):Up (rngI n):=by
 unfold rngI
 refine List.pairwise_map.2 (List.pairwise_lt_range.imp fun h=>?_)
 show ((_:Nat):Int)<((_:Nat):Int)
 omega
theorem parts_up {l:List Int} {f:Bool} {own all:Int} (h:UpL l):Up (partsS l f own all):=by
 unfold partsS
 split
 . exact up_of h
 . split
   . exact rng_up _
   . exact List.pairwise_singleton ..
theorem in_of {n x:Int} {l:List Int} (h:inB n l) (hx:x∈l):0<=x/\x<=n:=by
 obtain ⟨i,i0,i1,rfl⟩:=ix_of_mem hx
 exact h i i0 i1
theorem secP_up {fr to b:Int}:∀ {l:List Int},Up l->Up (secP fr to b l)
 | [],_=>List.Pairwise.nil
 | s::r,h=>by
  obtain ⟨h1,h2⟩:=List.pairwise_cons.1 h
  unfold secP
  split
  . refine List.pairwise_cons.2 ⟨fun t ht=>?_,secP_up h2⟩
    obtain ⟨u,hu,e,_⟩:=secP_mem.1 ht
    have:=h1 u hu
    omega
  . exact secP_up h2
theorem minP_up {fr to b:Int} {ss:List Int} (hs:inB 59 ss) (us:Up ss):∀ {l:List Int},Up l->Up (minP fr to b ss l)
 | [],_=>List.Pairwise.nil
 | m::r,h=>by
  obtain ⟨h1,h2⟩:=List.pairwise_cons.1 h
  unfold minP
  split
  . exact minP_up hs us h2
  . refine List.pairwise_append.2 ⟨secP_up us,minP_up hs us h2,fun t ht u hu=>?_⟩
    obtain ⟨x,hx,e,_⟩:=secP_mem.1 ht
    obtain ⟨m2,hm2,y,hy,e2,_⟩:=(minP_mem hs).1 hu
    have:=h1 m2 hm2
    have:=in_of hs hx
    have:=in_of hs hy
    omega
theorem houP_up {fr to:Int} {ms ss:List Int} (hm:inB 59 ms) (hs:inB 59 ss) (um:Up ms) (us:Up ss):∀ {l:List Int},Up l->Up (houP fr to ms ss l)
 | [],_=>List.Pairwise.nil
 | m::r,h=>by
  obtain ⟨h1,h2⟩:=List.pairwise_cons.1 h
  unfold houP
  split
  . exact houP_up hm hs um us h2
  . refine List.pairwise_append.2 ⟨minP_up hs us um,houP_up hm hs um us h2,fun t ht u hu=>?_⟩
    obtain ⟨m1,hm1,x,hx,e,_⟩:=(minP_mem hs).1 ht
    obtain ⟨k,hk,m2,hm2,y,hy,e2,_⟩:=(houP_mem hm hs).1 hu
    have:=h1 k hk
    have:=in_of hs hx
    have:=in_of hs hy
    have:=in_of hm hm1
    have:=in_of hm hm2
    omega
theorem clkP_up {s:Tm} {r:Rl} {fr to:Int} (hF:FitsP s r):Up (clkP s r fr to):=by
 have L:=(rightR_iff.1 hF.rr).lists
 exact houP_up (miL_in hF) (seL_in hF) (parts_up L.mi.up) (parts_up L.se.up) (parts_up L.ho.up)
theorem clkS_rg {s:Tm} {r:Rl} {c:Int} (h:c∈clkS s r):0<=c/\c<86400:=hou_rgU 24 (by omega) _ h
def TimP (s:Tm) (r:Rl) (day t:Int):Prop:=dayS s r day (t / 86400+1)=true/\t % 86400∈clkS s r
theorem dayC_mem {s:Tm} {r:Rl} {day fr to n t:Int} (hF:FitsP s r):t∈dayC s r day fr to n↔(TimP s r day t/\t / 86400+1=n)/\fr<=t/\t<to:=by
 unfold dayC TimP
 constructor
 . intro h
   split at h
   . rename_i hd
     obtain ⟨c,hc,rfl⟩:=List.mem_map.1 h
     obtain ⟨h1,h2,h3⟩:=(clk_same hF).1 hc
     have:=clkS_rg h1
     have e1:((n-1) * 86400+c) / 86400+1=n:=by omega
     have e2:((n-1) * 86400+c) % 86400=c:=by omega
     rw [e1,e2]
     exact ⟨⟨⟨hd,h1⟩,rfl⟩,by omega,by omega⟩
   . cases h
 . rintro ⟨⟨⟨h1,h2⟩,rfl⟩,h3,h4⟩
   rw [if_pos h1]
   refine List.mem_map.2 ⟨t % 86400,(clk_same hF).2 ⟨h2,by omega,by omega⟩,by omega⟩
theorem dayC_up {s:Tm} {r:Rl} {day fr to n:Int} (hF:FitsP s r):Up (dayC s r day fr to n):=by
 unfold dayC
 split
 . exact List.pairwise_map.2 ((clkP_up hF).imp fun h=>by omega)
 . exact List.Pairwise.nil
theorem dayU_mem {s:Tm} {r:Rl} {day fr to t:Int} (hF:FitsP s r):∀ {k:Nat} {n:Int},t∈dayU s r day fr to k n↔(TimP s r day t/\n<=t / 86400+1/\t / 86400+1<n+k)/\fr<=t/\t<to
 | 0,n=>by
  unfold dayU
  constructor
  . intro h; cases h
  . rintro ⟨⟨_,h1,h2⟩,_⟩; omega
 | k+1,n=>by
  unfold dayU
  rw [List.mem_append,dayC_mem hF,dayU_mem hF]
  constructor
  . rintro (⟨⟨a,b⟩,c⟩ | ⟨⟨a,b⟩,c⟩)
    . exact ⟨⟨a,by omega⟩,c⟩
    . exact ⟨⟨a,by omega⟩,c⟩
  . rintro ⟨⟨a,b⟩,c⟩
    by_cases e:t / 86400+1=n
    . exact .inl ⟨⟨a,e⟩,c⟩
    . exact .inr ⟨⟨a,by omega⟩,c⟩
theorem dayU_up {s:Tm} {r:Rl} {day fr to:Int} (hF:FitsP s r):∀ {k:Nat} {n:Int},Up (dayU s r day fr to k n)
 | 0,_=>List.Pairwise.nil
 | k+1,n=>by
  unfold dayU
  refine List.pairwise_append.2 ⟨dayC_up hF,dayU_up hF,fun t ht u hu=>?_⟩
  have:=(dayC_mem hF).1 ht
  have:=(dayU_mem hF).1 hu
  omega
theorem winO_mem {s:Tm} {r:Rl} {day fr to t:Int} (hF:FitsP s r):t∈winO s r day fr to↔TimP s r day t/\fr<=t/\t<to:=by
 unfold winO
 rw [dayU_mem hF]
 constructor
 . rintro ⟨⟨a,_⟩,b⟩; exact ⟨a,b⟩
 . rintro ⟨a,b⟩; exact ⟨⟨a,by omega⟩,b⟩
theorem winO_up {s:Tm} {r:Rl} {day fr to:Int} (hF:FitsP s r):Up (winO s r day fr to):=dayU_up hF
theorem pickG_sub {sp:List Int} {n:Int}:∀ {l:List Int} {i:Int},(pickG sp n i l).Sublist l
 | [],_=>List.Sublist.slnil
 | t::l,i=>by
  rw [pickG_cons]
  split
  . exact List.Sublist.cons_cons _ pickG_sub
  . exact List.Sublist.cons _ pickG_sub
theorem pick_sub {r:Rl} {l:List Int}:(pickS r l).Sublist l:=by
 unfold pickS
 split
 . exact List.Sublist.refl _
 . exact pickG_sub
theorem cand_up {s:Tm} {r:Rl} {day i:Int} (hF:FitsP s r):Up (candP s r day i):=(winO_up hF).sublist pick_sub
theorem cand_in {s:Tm} {r:Rl} {day i t:Int} (hF:FitsP s r) (h:t∈candP s r day i):TimP s r day t/\begP r i<=t/\t<begP r (i+1):=(winO_mem hF).1 (pick_sub.subset h)
structure LoP (r:Rl) (i:Int):Prop where
 a:0<=i
 y:r.Freq=0->1<=i
 m:r.Freq=1->12<=i
 d:r.Freq=3->1<=i
theorem LoP.up {r:Rl} {i j:Int} (h:LoP r i) (hj:i<=j):LoP r j:=by
 obtain ⟨a,b,c,d⟩:=h
 exact ⟨by omega,fun e=>by have:=b e; omega,fun e=>by have:=c e; omega,fun e=>by have:=d e; omega⟩
theorem first_right {y m:Int} (y0:1<=y) (y1:y<=9999) (m0:1<=m) (m1:m<=12):RightD ⟨y,m,1⟩:=by
 have:=long_ge y0 y1 m0 m1
 exact ⟨Int.le_refl 1,by show (1:Int)<=longS y m; omega⟩
theorem first_le {d:Dy} {y m:Int} (h:RightD d) (y0:1<=y) (y1:y<=9999) (m0:1<=m) (m1:m<=12):numD ⟨y,m,1⟩<=numD d↔12 * y+m<=12 * d.Year+d.Month:=by
 have hr:=first_right y0 y1 m0 m1
 obtain ⟨a0,a1⟩:=num_in h
 obtain ⟨b0,b1⟩:=num_in hr
 obtain ⟨c0,c1,c2,c3,c4,c5⟩:=h.ym
 have h2:=h.2
 have b0:aheadS y<numD ⟨y,m,1⟩:=b0
 have b1:numD ⟨y,m,1⟩<=aheadS (y+1):=b1
 have e1:numD ⟨y,m,1⟩=aheadS y+cumS y m+1:=rfl
 have e2:numD d=aheadS d.Year+cumS d.Year d.Month+d.Date:=rfl
 rcases Int.lt_trichotomy y d.Year with hl | hl | hl
 . have:=ahead_mono (show y+1<=d.Year by omega)
   constructor <;> intro <;> omega
 . subst hl
   rcases Int.lt_trichotomy m d.Month with hm | hm | hm
   . have:=cum_mono y0 y1 m0 c3 hm
     have:=long_ge y0 y1 m0 m1
     constructor <;> intro <;> omega
   . subst hm
     constructor <;> intro <;> omega
   . have:=cum_mono y0 y1 c2 m1 hm
     constructor <;> intro <;> omega
 . have:=ahead_mono (show d.Year+1<=y by omega)
   constructor <;> intro <;> omega
theorem nbP_le {n t:Int} (h0:1<=n) (t1:t<315537897600):nbP n<=t↔n<=t / 86400+1:=by
 unfold nbP
 split <;> omega
theorem beg_le {r:Rl} {i t:Int} (hi:LoP r i) (t0:0<=t) (t1:t<315537897600):begP r i<=t↔i<=idxP r t:=by
 obtain ⟨hd,hn⟩:=of_ok (n:=t / 86400+1) (by omega) (by omega)
 obtain ⟨c0,c1,c2,c3,_⟩:=hd.ym
 have a:=hi.a
 unfold begP idxP idxR
 generalize ofS (t / 86400+1)=D at *
 by_cases f0:r.Freq=0
 . have b:=hi.y f0
   rw [if_pos f0,if_pos f0,if_neg (by omega)]
   by_cases hy:i<=9999
   . have hr:=first_right b hy (by decide:(1:Int)<=1) (by decide)
     have e:numS ⟨i,1,1⟩=numD ⟨i,1,1⟩:=by unfold numS; rw [if_pos hr]
     rw [e,nbP_le (num_rg hr).1 t1,<- hn,first_le hd b hy (by decide) (by decide)]
     constructor <;> intro <;> omega
   . have e:numS ⟨i,1,1⟩=0:=by
       unfold numS
       rw [if_neg fun h=>?_]
       have:i<=9999:=h.ym.2.1
       omega
     rw [e]
     unfold nbP
     rw [if_pos (.inl rfl)]
     constructor <;> intro <;> omega
 rw [if_neg f0,if_neg f0]
 by_cases f1:r.Freq=1
 . have b:=hi.m f1
   rw [if_pos f1,if_pos f1,if_pos f1]
   by_cases hy:i / 12<=9999
   . have hr:=first_right (y:=i / 12) (m:=i % 12+1) (by omega) hy (by omega) (by omega)
     have e:numS ⟨i / 12,i % 12+1,1⟩=numD ⟨i / 12,i % 12+1,1⟩:=by unfold numS; rw [if_pos hr]
     rw [e,nbP_le (num_rg hr).1 t1,<- hn,first_le hd (by omega) hy (by omega) (by omega)]
     constructor <;> intro <;> omega
   . have e:numS ⟨i / 12,i % 12+1,1⟩=0:=by
       unfold numS
       rw [if_neg fun h=>?_]
       have:i / 12<=9999:=h.ym.2.1
       omega
     rw [e]
     unfold nbP
     rw [if_pos (.inl rfl)]
     constructor <;> intro <;> omega
 rw [if_neg f1,if_neg f1,if_neg f1]
 by_cases f2:r.Freq=2
 . rw [if_pos f2,if_pos f2,nbP_le (by omega) t1]
   constructor <;> intro <;> omega
 rw [if_neg f2,if_neg f2]
 by_cases f3:r.Freq=3
 . have b:=hi.d f3
   rw [if_pos f3,if_pos f3,nbP_le b t1]
   constructor <;> intro <;> omega
 rw [if_neg f3,if_neg f3]
 by_cases f4:r.Freq=4
 . rw [if_pos f4,if_pos f4]; constructor <;> intro <;> omega
 rw [if_neg f4,if_neg f4]
 by_cases f5:r.Freq=5
 . rw [if_pos f5,if_pos f5]; constructor <;> intro <;> omega
 rw [if_neg f5,if_neg f5]
 constructor <;> intro <;> omega
theorem beg_mono {r:Rl} {i j:Int} (hi:LoP r i) (hj:i<=j):begP r i<=begP r j:=by
 obtain ⟨a0,a1⟩:=begP_rg (r:=r) hi.a
 obtain ⟨b0,b1⟩:=begP_rg (r:=r) (i:=j) (by have:=hi.a; omega)
 by_cases h:begP r j<315537897600
 . exact (beg_le hi b0 h).2 (Int.le_trans hj ((beg_le (hi.up hj) b0 h).1 (Int.le_refl _)))
 . omega
theorem idx_lo {r:Rl} {t:Int} (t0:0<=t) (t1:t<315537897600) (w0:0<=r.Wkst) (w1:r.Wkst<=6):LoP r (idxP r t):=by
 obtain ⟨hd,hn⟩:=of_ok (n:=t / 86400+1) (by omega) (by omega)
 obtain ⟨c0,c1,c2,c3,_⟩:=hd.ym
 refine ⟨(idxP_rg t0 t1 w0 w1).1,fun f=>?_,fun f=>?_,fun f=>?_⟩
 . unfold idxP idxR; rw [if_pos f,if_neg (by omega)]; omega
 . unfold idxP idxR; rw [if_neg (by omega),if_pos f,if_pos f]; omega
 . unfold idxP idxR; rw [if_neg (by omega),if_neg (by omega),if_neg (by omega),if_pos f,if_neg (by omega)]; omega
theorem idx_mono {r:Rl} {t u:Int} (t0:0<=t) (h:t<=u) (u1:u<315537897600) (w0:0<=r.Wkst) (w1:r.Wkst<=6):idxP r t<=idxP r u:=by
 have hl:=idx_lo (r:=r) (t:=t) t0 (by omega) w0 w1
 have:=(beg_le hl t0 (by omega)).2 (Int.le_refl _)
 exact (beg_le hl (by omega) u1).1 (by omega)
end Go.Re
end
section
namespace Go.Re
open Go Go.Wk Go.Wl Go.Rx
def perL (s:Tm) (r:Rl) (day i0:Int):Nat->Int->List Int
 | 0,_=>[]
 | n+1,k=>candP s r day (i0+k * r.Interval)++perL s r day i0 n (k+1)
def limL (r:Rl) (c:Int) (l:List Int):List Int:=if 0<r.Count then l.take (r.Count-c).toNat else l
def PT (first to til t:Int):Bool:=decide (first<t/\t<to/\t<=til)
theorem pt_iff {first to til t:Int}:PT first to til t=true↔first<t/\t<to/\t<=til:=decide_eq_true_iff
theorem lim_nil {r:Rl} {c:Int}:limL r c []=[]:=by unfold limL; split <;> simp
theorem lim_0 {r:Rl} {c:Int} {l:List Int} (h:0<r.Count) (h1:r.Count<=c):limL r c l=[]:=by
 unfold limL
 rw [if_pos h,show (r.Count-c).toNat=0 by omega,List.take_zero]
theorem lim_no {r:Rl} {c:Int} {l:List Int} (h:¬ 0<r.Count):limL r c l=l:=if_neg h
theorem lim_cons {r:Rl} {c t:Int} {l:List Int} (h:¬ (0<r.Count/\r.Count<=c)):limL r c (t::l)=t::limL r (c+1) l:=by
 unfold limL
 by_cases hc:0<r.Count
 . rw [if_pos hc,if_pos hc,show (r.Count-c).toNat=(r.Count-(c+1)).toNat+1 by omega,List.take_succ_cons]
 . rw [if_neg hc,if_neg hc]
theorem lim_app {r:Rl} {c:Int} {A B:List Int}:limL r c (A++B)=limL r c A++limL r (c+(limL r c A).length) B:=by
 unfold limL
 by_cases hc:0<r.Count
 . rw [if_pos hc,if_pos hc,if_pos hc,List.take_append,List.length_take]
   congr 2
   omega
 . rw [if_neg hc,if_neg hc,if_neg hc]
theorem filter_nil {p:Int->Bool} {l:List Int} (h:∀ t∈l,¬ p t=true):l.filter p=[]:=List.filter_eq_nil_iff.2 h
theorem canT_eq {r:Rl} {first to til:Int}:∀ {L:List Int} {c:Int},Up L ->
  canT r first to til c L=(limL r c (L.filter (PT first to til)),c+(limL r c (L.filter (PT first to til))).length)
 | [],c,_=>by
  rw [List.filter_nil,lim_nil]
  unfold canT
  simp
 | t::L,c,h=>by
  obtain ⟨h1,h2⟩:=List.pairwise_cons.1 h
  unfold canT
  by_cases hf:t<=first
  . rw [if_pos hf,List.filter_cons_of_neg (by rw [pt_iff]; omega)]
    exact canT_eq h2
  rw [if_neg hf]
  by_cases hb:(to<=t ∨ til<t) ∨ (0<r.Count/\r.Count<=c)
  . have e:limL r c ((t::L).filter (PT first to til))=[]:=by
      rcases hb with hb | hb
      . rw [filter_nil,lim_nil]
        intro u hu
        have:t<=u:=by
         rcases List.mem_cons.1 hu with rfl | hu
         . exact Int.le_refl _
         . exact Int.le_of_lt (h1 u hu)
        rw [pt_iff]; omega
      . exact lim_0 hb.1 hb.2
    rw [if_pos hb,e]
    simp
  . rw [if_neg hb,List.filter_cons_of_pos (pt_iff.2 (by omega)),lim_cons (fun hh=>hb (.inr hh)),canT_eq h2,List.length_cons]
    refine Prod.ext rfl ?_
    show c+1+_=_
    rw [Int.natCast_add]
    omega
section
variable {s:Tm} {r:Rl} {day first to til i0 k c t:Int} {n:Nat}
theorem int_pos (hF:FitsP s r):1<=r.Interval:=(rightR_iff.1 hF.rr).head.2.2.1
theorem wk_ok (hF:FitsP s r):0<=r.Wkst/\r.Wkst<=6:=(rightR_iff.1 hF.rr).head.2.2.2.2.2.2
theorem mul_up {a b I:Int} (hI:1<=I) (h:a<=b):a * I<=b * I:=Int.mul_le_mul_of_nonneg_right h (by omega)
theorem mul_succ {a I:Int}:(a+1) * I=a * I+I:=by rw [Int.add_mul,Int.one_mul]
theorem LoP.at (hl:LoP r (i0+k * r.Interval)) (hI:1<=r.Interval) {j:Int} (hj:k<=j):LoP r (i0+j * r.Interval):=by
 have:=mul_up hI hj
 exact hl.up (by omega)
theorem perL_mem:∀ {n:Nat} {k:Int},t∈perL s r day i0 n k↔∃ j:Int,k<=j/\j<k+n/\t∈candP s r day (i0+j * r.Interval)
 | 0,k=>by
  unfold perL
  constructor
  . intro h; cases h
  . rintro ⟨j,h1,h2,_⟩; omega
 | n+1,k=>by
  unfold perL
  rw [List.mem_append,perL_mem]
  constructor
  . rintro (h | ⟨j,h1,h2,h3⟩)
    . exact ⟨k,by omega,by omega,h⟩
    . exact ⟨j,by omega,by omega,h3⟩
  . rintro ⟨j,h1,h2,h3⟩
    by_cases e:j=k
    . subst e; exact .inl h3
    . exact .inr ⟨j,by omega,by omega,h3⟩
theorem cand_end (hF:FitsP s r) {i:Int} (hl:LoP r i) (h:t∈candP s r day i):t<315537897600:=by
 have:=(cand_in hF h).2.2
 have:=(begP_rg (r:=r) (i:=i+1) (by have:=hl.a; omega)).2
 omega
theorem perL_ge (hF:FitsP s r) (hl:LoP r (i0+k * r.Interval)) (h:t∈perL s r day i0 n k):begP r (i0+k * r.Interval)<=t/\t<begP r (i0+(k+n) * r.Interval)/\t<315537897600:=by
 obtain ⟨j,h1,h2,h3⟩:=perL_mem.1 h
 have hI:=int_pos hF
 have a:=mul_up hI h1
 have b:=mul_up hI (show j+1<=k+n by omega)
 rw [mul_succ] at b
 have hj:=hl.at hI h1
 have c:=cand_in hF h3
 have d:=beg_mono hl (show i0+k * r.Interval<=i0+j * r.Interval by omega)
 have e:=beg_mono (hj.up (j:=i0+j * r.Interval+1) (by omega)) (show i0+j * r.Interval+1<=i0+(k+n) * r.Interval by omega)
 have f:=cand_end hF hj h3
 exact ⟨by omega,by omega,f⟩
theorem perL_up (hF:FitsP s r):∀ {n:Nat} {k:Int},LoP r (i0+k * r.Interval)->Up (perL s r day i0 n k)
 | 0,_,_=>List.Pairwise.nil
 | n+1,k,hl=>by
  have hI:=int_pos hF
  have h2:LoP r (i0+(k+1) * r.Interval):=hl.at hI (by omega)
  unfold perL
  refine List.pairwise_append.2 ⟨cand_up hF,perL_up hF h2,fun t ht u hu=>?_⟩
  have a:=cand_in hF ht
  have b:=perL_ge hF h2 hu
  have c:=beg_mono (hl.up (j:=i0+k * r.Interval+1) (by omega)) (show i0+k * r.Interval+1<=i0+(k+1) * r.Interval by rw [mul_succ]; omega)
  omega
theorem EndK.up {b b' c':Int} (h:EndK r to til b c) (hb:b<=b') (hc:c<=c'):EndK r to til b' c':=by
 unfold EndK at h ⊢
 omega
theorem insK_eq (hF:FitsP s r):∀ {n:Nat} {k c:Int},LoP r (i0+k * r.Interval) ->
  (insK s r day first to til i0 n k c).1=limL r c ((perL s r day i0 n k).filter (PT first to til)) /\
  ((insK s r day first to til i0 n k c).2=true↔¬ EndK r to til (begP r (i0+(k+n) * r.Interval)) (c+(limL r c ((perL s r day i0 n k).filter (PT first to til))).length))
 | 0,k,c,hl=>by
  have e:perL s r day i0 0 k=[]:=rfl
  rw [e,List.filter_nil,lim_nil,show k+((0:Nat):Int)=k by omega,show c+(([]:List Int).length:Int)=c by simp]
  unfold insK
  by_cases he:EndK r to til (begP r (i0+k * r.Interval)) c
  . rw [if_pos he]; exact ⟨rfl,fun h=>absurd h Bool.false_ne_true,fun h=>absurd he h⟩
  . rw [if_neg he]; exact ⟨rfl,fun _=>he,fun _=>rfl⟩
 | n+1,k,c,hl=>by
  have hI:=int_pos hF
  have h2:LoP r (i0+(k+1) * r.Interval):=hl.at hI (by omega)
  by_cases he:EndK r to til (begP r (i0+k * r.Interval)) c
  . have e:limL r c ((perL s r day i0 (n+1) k).filter (PT first to til))=[]:=by
      by_cases hc:0<r.Count/\r.Count<=c
      . exact lim_0 hc.1 hc.2
      . rw [filter_nil,lim_nil]
        intro u hu
        have g:=perL_ge hF hl hu
        unfold EndK at he
        rw [pt_iff]; omega
    have a:=mul_up hI (show k<=k+((n+1:Nat):Int) by omega)
    have m:=beg_mono hl (show i0+k * r.Interval<=i0+(k+((n+1:Nat):Int)) * r.Interval by omega)
    rw [e]
    unfold insK
    rw [if_pos he]
    exact ⟨rfl,fun h=>absurd h Bool.false_ne_true,fun h=>absurd (he.up m (by show c<=c+((0:Nat):Int); omega)) h⟩
  . have ic:=canT_eq (r:=r) (first:=first) (to:=to) (til:=til) (c:=c) (cand_up (day:=day) (i:=i0+k * r.Interval) hF)
    have ih:=insK_eq hF (n:=n) (k:=k+1) (c:=c+(limL r c ((candP s r day (i0+k * r.Interval)).filter (PT first to til))).length) h2
    have ep:perL s r day i0 (n+1) k=candP s r day (i0+k * r.Interval)++perL s r day i0 n (k+1):=rfl
    unfold insK
    rw [if_neg he,ic,ep,List.filter_append,lim_app,List.length_append]
    dsimp only
    rw [ih.1]
    refine ⟨rfl,ih.2.trans ?_⟩
    have hn:∀ a b:Nat,c+((a+b:Nat):Int)=c+a+b:=fun a b=>by omega
    rw [show k+1+(n:Int)=k+((n+1:Nat):Int) by omega,hn]
theorem insS_eq {fr:Int} (hF:FitsP s r) (h0:0<=k0S s r fr) :
  (insS s r day fr to).1=(if secsT s<to then [secsT s] else [])++limL r 1 ((perL s r day (idxP r (secsT s)) (40000-k0S s r fr).toNat (k0S s r fr)).filter (PT (secsT s) to (tilS r))) /\
  ((insS s r day fr to).2=true↔¬ EndK r to (tilS r) (begP r (idxP r (secsT s)+(k0S s r fr+(40000-k0S s r fr).toNat) * r.Interval)) (1+(limL r 1 ((perL s r day (idxP r (secsT s)) (40000-k0S s r fr).toNat (k0S s r fr)).filter (PT (secsT s) to (tilS r)))).length)):=by
 obtain ⟨a,b⟩:=secs_rg hF.rt
 have hw:=wk_ok hF
 have hl:=idx_lo (r:=r) a b hw.1 hw.2
 have hl:LoP r (idxP r (secsT s)+k0S s r fr * r.Interval):=hl.up (by have:=Int.mul_nonneg h0 (show 0<=r.Interval by have:=int_pos hF; omega); omega)
 obtain ⟨h1,h2⟩:=insK_eq (day:=day) (first:=secsT s) (to:=to) (til:=tilS r) hF (n:=(40000-k0S s r fr).toNat) (c:=1) hl
 unfold insS
 exact ⟨by rw [h1],h2⟩
end
end Go.Re
end
section
namespace Go.Re
open Go Go.Wk Go.Wl Go.Rx
theorem up_ext:∀ {l m:List Int},Up l->Up m->(∀ t,t∈l↔t∈m)->l=m
 | [],[],_,_,_=>rfl
 | [],y::m,_,_,h=>absurd ((h y).2 (List.mem_cons_self ..)) (by simp)
 | x::l,[],_,_,h=>absurd ((h x).1 (List.mem_cons_self ..)) (by simp)
 | x::l,y::m,hl,hm,h=>by
  obtain ⟨a1,a2⟩:=List.pairwise_cons.1 hl
  obtain ⟨b1,b2⟩:=List.pairwise_cons.1 hm
  have e:x=y:=by
   rcases List.mem_cons.1 ((h x).1 (List.mem_cons_self ..)) with e | e
   . exact e
   . rcases List.mem_cons.1 ((h y).2 (List.mem_cons_self ..)) with e2 | e2
     . exact e2.symm
     . have:=b1 x e; have:=a1 y e2; omega
  subst e
  rw [up_ext a2 b2 fun t=>⟨fun ht=>?_,fun ht=>?_⟩]
  . rcases List.mem_cons.1 ((h t).1 (List.mem_cons_of_mem _ ht)) with e | e
    . subst e; have:=a1 t ht; omega
    . exact e
  . rcases List.mem_cons.1 ((h t).2 (List.mem_cons_of_mem _ ht)) with e | e
    . subst e; have:=b1 t ht; omega
    . exact e
def geB (x t:Int):Bool:=decide (x<=t)
def ltB (x t:Int):Bool:=decide (t<x)
theorem ge_iff {x t:Int}:geB x t=true↔x<=t:=decide_eq_true_iff
theorem lt_iff {x t:Int}:ltB x t=true↔t<x:=decide_eq_true_iff
theorem frA_map {s a:Tm}:∀ {l:List Int},frA s a l=(l.filter (geB (secsT a))).map (fun t=>atS t s)
 | []=>rfl
 | t::l=>by
  show (if secsT a<=t then atS t s::frA s a l else frA s a l)=_
  by_cases h:secsT a<=t
  . rw [if_pos h,List.filter_cons_of_pos (ge_iff.2 h),frA_map]; rfl
  . rw [if_neg h,List.filter_cons_of_neg (fun e=>h (ge_iff.1 e)),frA_map]
theorem up_split {x:Int}:∀ {l:List Int},Up l->l=l.filter (ltB x)++l.filter (geB x)
 | [],_=>rfl
 | t::l,h=>by
  obtain ⟨a1,a2⟩:=List.pairwise_cons.1 h
  by_cases hx:t<x
  . rw [List.filter_cons_of_pos (lt_iff.2 hx),List.filter_cons_of_neg (fun e=>by have:=ge_iff.1 e; omega),List.cons_append,<- up_split a2]
  . have e:(t::l).filter (ltB x)=[]:=filter_nil fun u hu e=>by
      have:=lt_iff.1 e
      rcases List.mem_cons.1 hu with rfl | hu
      . exact hx this
      . have:=a1 u hu; omega
    rw [e,List.nil_append,List.filter_eq_self.2]
    intro u hu
    refine ge_iff.2 ?_
    rcases List.mem_cons.1 hu with rfl | hu
    . omega
    . have:=a1 u hu; omega
theorem frA_app_len {s a:Tm} {l m:List Int}:(frA s a l).length<=(frA s a (l++m)).length:=by
 rw [frA_app,List.length_append]; omega
theorem run_all {s a:Tm}:∀ {T y:List Int} {e:Bool},((frA s a (y++T)).length:Int)<=1000->runE (expR s a) y T e=(y++T,e)
 | [],y,e,_=>by unfold runE; rw [List.append_nil]
 | t::T,y,e,h=>by
  have e1:y++t::T=(y++[t])++T:=by simp
  rw [e1] at h ⊢
  have:=frA_app_len (s:=s) (a:=a) (l:=y++[t]) (m:=T)
  have hr:expR s a y t=true:=decide_eq_true (by omega)
  unfold runE
  rw [hr]
  exact run_all h
theorem run_stop {s a:Tm}:∀ {T y:List Int} {e:Bool},((frA s a y).length:Int)<=1000->1000<((frA s a (y++T)).length:Int)->(runE (expR s a) y T e).2=false/\1000<((frA s a (runE (expR s a) y T e).1).length:Int)
 | [],y,e,h0,h=>by rw [List.append_nil] at h; omega
 | t::T,y,e,h0,h=>by
  have e1:y++t::T=(y++[t])++T:=by simp
  rw [e1] at h
  unfold runE
  by_cases hr:((frA s a (y++[t])).length:Int)<=1000
  . rw [show expR s a y t=true from decide_eq_true hr]
    exact run_stop hr h
  . rw [show expR s a y t=false from decide_eq_false hr]
    exact ⟨rfl,by show 1000<((frA s a (y++[t])).length:Int); omega⟩
abbrev insX (s:Tm) (r:Rl) (a b:Tm):List Int×Bool:=insS s r (numS s.Day) (secsT a) (secsT b)
structure ExpOk (s:Tm) (r:Rl) (a b:Tm):Prop where
 bad:¬ BadX s r a b
 far:farB s r (numS s.Day) (secsT b)=false
 many:(insX s r a b).2=false
 few:((frA s a (insX s r a b).1).length:Int)<=1000
theorem exp_mk {s a b:Tm} {r:Rl} (h:ExpOk s r a b):expP s r a b=(frA s a (insX s r a b).1,.nil):=by
 unfold expP expG
 rw [if_neg h.bad,h.far,if_neg Bool.false_ne_true,run_all (T:=(insX s r a b).1) (y:=[]) (e:=(insX s r a b).2) h.few]
 unfold expF
 rw [h.many,if_neg Bool.false_ne_true]
 exact if_neg (show ¬ 1000<((frA s a (insX s r a b).1).length:Int) by have:=h.few; omega)
theorem nr2:(Err.no 2).nr=2:=by decide
theorem nr5:(Err.no 5).nr=5:=by decide
theorem nr16:(Err.no 16).nr=16:=by decide
theorem exp_cases {s a b:Tm} {r:Rl}:ExpOk s r a b ∨ ((expP s r a b).1=[]/\((expP s r a b).2.nr=2 ∨ (expP s r a b).2.nr=5 ∨ (expP s r a b).2.nr=16)):=by
 by_cases h1:BadX s r a b
 . right; unfold expP; rw [if_pos h1]; exact ⟨rfl,.inl nr2⟩
 cases h2:farB s r (numS s.Day) (secsT b) with
 | true=>right; unfold expP; rw [if_neg h1,h2,if_pos rfl]; exact ⟨rfl,.inr (.inl nr5)⟩
 | false =>
 by_cases h4:((frA s a (insX s r a b).1).length:Int)<=1000
 . cases h3:(insX s r a b).2 with
   | true =>
    right
    unfold expP expG
    rw [if_neg h1,h2,if_neg Bool.false_ne_true,run_all (T:=(insX s r a b).1) (y:=[]) (e:=(insX s r a b).2) h4]
    unfold expF
    rw [h3,if_pos rfl]
    exact ⟨rfl,.inr (.inl nr5)⟩
   | false=>exact .inl ⟨h1,h2,h3,h4⟩
 . right
   obtain ⟨q1,q2⟩:=run_stop (s:=s) (a:=a) (T:=(insX s r a b).1) (y:=[]) (e:=(insX s r a b).2) (show ((0:Nat):Int)<=1000 by decide) (by rw [List.nil_append]; omega)
   unfold expP expG
   rw [if_neg h1,h2,if_neg Bool.false_ne_true]
   unfold expF
   rw [q1,if_neg Bool.false_ne_true,if_pos q2]
   exact ⟨rfl,.inr (.inr nr16)⟩
theorem exp_ok {s a b:Tm} {r:Rl} (h:(expP s r a b).2.nr=0):ExpOk s r a b:=by
 rcases exp_cases (s:=s) (r:=r) (a:=a) (b:=b) with e | ⟨_,e⟩
 . exact e
 . omega
theorem exp_len {s a b:Tm} {r:Rl}:((expP s r a b).1.length:Int)<=1000:=by
 rcases exp_cases (s:=s) (r:=r) (a:=a) (b:=b) with e | ⟨e,_⟩
 . rw [exp_mk e]; exact e.few
 . rw [e]; decide
theorem bad_parts {s a b:Tm} {r:Rl} (h:¬ BadX s r a b):FitsP s r/\rightT a=true/\rightT b=true :=
 ⟨fits_iff.1 (Classical.not_not.1 fun e=>h (.inl (.inl e))),Classical.not_not.1 fun e=>h (.inl (.inr e)),Classical.not_not.1 fun e=>h (.inr e)⟩
theorem far_less {s:Tm} {r:Rl} {day m to:Int} (h:farB s r day to=false) (hm:m<=to):farB s r day m=false:=by
 unfold farB at h ⊢
 generalize begP r (idxP r (secsT s)+40000 * r.Interval)=b at *
 by_cases h1:m<=b ∨ 315537897600<=b
 . rw [if_pos h1]
 . rw [if_neg h1]
   rw [if_neg (by omega)] at h
   exact h
section
variable {s:Tm} {r:Rl} {day first to til i0 k c t m fr:Int} {n:Nat}
theorem lim_sub {l:List Int}:(limL r c l).Sublist l:=by
 unfold limL
 split
 . exact List.take_sublist ..
 . exact List.Sublist.refl _
theorem take_lt {x:Int}:∀ {l:List Int} {n:Nat},Up l->(l.take n).filter (ltB x)=(l.filter (ltB x)).take n
 | [],n,_=>by simp
 | t::l,0,_=>by simp
 | t::l,n+1,h=>by
  obtain ⟨a1,a2⟩:=List.pairwise_cons.1 h
  rw [List.take_succ_cons]
  by_cases hx:t<x
  . rw [List.filter_cons_of_pos (lt_iff.2 hx),List.filter_cons_of_pos (lt_iff.2 hx),List.take_succ_cons,take_lt a2]
  . have no:∀ u∈l,¬ ltB x u=true:=fun u hu e=>by have:=lt_iff.1 e; have:=a1 u hu; omega
    rw [List.filter_cons_of_neg (fun e=>hx (lt_iff.1 e)),List.filter_cons_of_neg (fun e=>hx (lt_iff.1 e)),filter_nil no,filter_nil fun u hu=>no u (List.mem_of_mem_take hu),List.take_nil]
theorem lim_lt {x:Int} {l:List Int} (h:Up l):(limL r c l).filter (ltB x)=limL r c (l.filter (ltB x)):=by
 unfold limL
 split
 . exact take_lt h
 . rfl
theorem pt_lt {l:List Int} (h:m<=to):(l.filter (PT first to til)).filter (ltB m)=l.filter (PT first m til):=by
 rw [List.filter_filter]
 refine List.filter_congr fun t _=>?_
 rw [Bool.eq_iff_iff,Bool.and_eq_true,lt_iff,pt_iff,pt_iff]
 omega
theorem hd_lt {first:Int} (h:m<=to):(if first<to then [first] else []).filter (ltB m)=if first<m then [first] else []:=by
 by_cases h1:first<m
 . rw [if_pos h1,if_pos (by omega),List.filter_cons_of_pos (lt_iff.2 h1),List.filter_nil]
 . rw [if_neg h1]
   refine filter_nil fun t ht e=>?_
   have e:=lt_iff.1 e
   split at ht
   . cases List.mem_singleton.1 ht; omega
   . cases ht
theorem k0_fact (hF:FitsP s r) (h0:0<=fr):0<=k0S s r fr/\(k0S s r fr=0 ∨ (r.Count=0/\secsT s<fr/\begP r (idxP r (secsT s)+k0S s r fr * r.Interval)<=fr)):=by
 obtain ⟨a,b⟩:=secs_rg hF.rt
 obtain ⟨w0,w1⟩:=wk_ok hF
 have hI:=int_pos hF
 have hz:=k0_rg (s:=s) (r:=r) (fr:=fr) hI (fun x x0 x1=>idxP_rg x0 x1 w0 w1) h0 ⟨a,b⟩
 refine ⟨hz.1,?_⟩
 by_cases hc:r.Count=0/\secsT s<fr
 . by_cases hk:k0S s r fr=0
   . exact .inl hk
   refine .inr ⟨hc.1,hc.2,?_⟩
   have h2:k0S s r fr=max 0 ((idxP r (min fr 315537897599)-idxP r (secsT s)).tdiv r.Interval-1):=if_pos hc
   have hm:=idx_mono (r:=r) (t:=secsT s) (u:=min fr 315537897599) a (by omega) (by omega) w0 w1
   rw [Int.tdiv_eq_ediv_of_nonneg (by omega)] at h2
   have h3:=Int.ediv_mul_le (idxP r (min fr 315537897599)-idxP r (secsT s)) (show r.Interval≠0 by omega)
   have h4:((idxP r (min fr 315537897599)-idxP r (secsT s)) / r.Interval-1) * r.Interval=(idxP r (min fr 315537897599)-idxP r (secsT s)) / r.Interval * r.Interval-r.Interval:=by rw [Int.sub_mul,Int.one_mul]
   have h5:k0S s r fr=(idxP r (min fr 315537897599)-idxP r (secsT s)) / r.Interval-1:=by omega
   have hl:LoP r (idxP r (secsT s)+k0S s r fr * r.Interval):=(idx_lo (r:=r) a b w0 w1).up (by omega)
   have:=(beg_le hl (t:=min fr 315537897599) (by omega) (by omega)).2 (by rw [h5,h4]; omega)
   omega
 . exact .inl (if_neg hc)
theorem k0_mono (hF:FitsP s r) (h0:0<=fr) (h:fr<=m):k0S s r fr<=k0S s r m:=by
 obtain ⟨a,b⟩:=secs_rg hF.rt
 obtain ⟨w0,w1⟩:=wk_ok hF
 have hI:=int_pos hF
 by_cases hc:r.Count=0/\secsT s<fr
 . have h1:k0S s r fr=max 0 ((idxP r (min fr 315537897599)-idxP r (secsT s)).tdiv r.Interval-1):=if_pos hc
   have h2:k0S s r m=max 0 ((idxP r (min m 315537897599)-idxP r (secsT s)).tdiv r.Interval-1):=if_pos ⟨hc.1,by omega⟩
   have hm:=idx_mono (r:=r) (t:=secsT s) (u:=min fr 315537897599) a (by omega) (by omega) w0 w1
   have hm2:=idx_mono (r:=r) (t:=min fr 315537897599) (u:=min m 315537897599) (by omega) (by omega) (by omega) w0 w1
   rw [Int.tdiv_eq_ediv_of_nonneg (by omega)] at h1 h2
   have:=Int.ediv_le_ediv (show 0<r.Interval by omega) (show idxP r (min fr 315537897599)-idxP r (secsT s)<=idxP r (min m 315537897599)-idxP r (secsT s) by omega)
   omega
 . have h1:k0S s r fr=0:=if_neg hc
   have:=(k0_fact hF (show 0<=m by omega)).1
   omega
theorem tail_up (hF:FitsP s r) {k:Int} (h0:0<=k) {n:Nat}:Up (perL s r day (idxP r (secsT s)) n k):=by
 obtain ⟨a,b⟩:=secs_rg hF.rt
 obtain ⟨w0,w1⟩:=wk_ok hF
 have hI:=int_pos hF
 exact perL_up hF ((idx_lo (r:=r) a b w0 w1).up (by have:=Int.mul_nonneg h0 (show 0<=r.Interval by omega); omega))
theorem ins_up (hF:FitsP s r) (h0:0<=fr):Up (insS s r day fr to).1:=by
 have hk:=(k0_fact hF h0).1
 rw [(insS_eq hF hk).1]
 refine List.pairwise_append.2 ⟨by split; exact List.pairwise_singleton ..; exact List.Pairwise.nil,((tail_up hF hk).filter _).sublist lim_sub,fun t ht u hu=>?_⟩
 have h2:=pt_iff.1 (List.mem_filter.1 (lim_sub.subset hu)).2
 split at ht
 . cases List.mem_singleton.1 ht; omega
 . cases ht
theorem ins_lt (hF:FitsP s r) (h0:0<=fr) (hm:m<=to):(insS s r day fr m).1=(insS s r day fr to).1.filter (ltB m)/\((insS s r day fr to).2=false->(insS s r day fr m).2=false):=by
 have hk:=(k0_fact hF h0).1
 obtain ⟨a1,a2⟩:=insS_eq (day:=day) (to:=m) hF hk
 obtain ⟨b1,b2⟩:=insS_eq (day:=day) (to:=to) hF hk
 obtain ⟨a,b⟩:=secs_rg hF.rt
 obtain ⟨w0,w1⟩:=wk_ok hF
 have hI:=int_pos hF
 have hl:LoP r (idxP r (secsT s)+k0S s r fr * r.Interval):=(idx_lo (r:=r) a b w0 w1).up (by have:=Int.mul_nonneg hk (show 0<=r.Interval by omega); omega)
 have hU:=tail_up (day:=day) (n:=(40000-k0S s r fr).toNat) hF hk
 have hin:=fun t ht=>perL_ge (t:=t) (day:=day) (n:=(40000-k0S s r fr).toNat) hF hl ht
 rw [a1,b1]
 generalize perL s r day (idxP r (secsT s)) (40000-k0S s r fr).toNat (k0S s r fr)=A at *
 generalize begP r (idxP r (secsT s)+(k0S s r fr+(40000-k0S s r fr).toNat) * r.Interval)=bb at *
 refine ⟨by rw [List.filter_append,hd_lt hm,lim_lt (hU.filter _),pt_lt hm],fun h=>?_⟩
 rw [<- Bool.not_eq_true,b2,Classical.not_not] at h
 rw [<- Bool.not_eq_true,a2,Classical.not_not]
 by_cases hb:m<=bb
 . unfold EndK; omega
 . have e:A.filter (PT (secsT s) m (tilS r))=A.filter (PT (secsT s) to (tilS r)):=List.filter_congr fun t ht=>by
     have:=hin t ht
     rw [Bool.eq_iff_iff,pt_iff,pt_iff]
     omega
   rw [e]
   unfold EndK at h ⊢
   omega
theorem ins_ge (hF:FitsP s r) (h0:0<=fr) (hm:fr<=m):(insS s r day m to).1.filter (geB m)=(insS s r day fr to).1.filter (geB m)/\((insS s r day fr to).2=false->(insS s r day m to).2=false):=by
 have hk:=(k0_fact hF h0).1
 obtain ⟨hk2,hk3⟩:=k0_fact (fr:=m) hF (by omega)
 have hkm:=k0_mono hF h0 hm
 obtain ⟨a1,a2⟩:=insS_eq (day:=day) (to:=to) hF hk2
 obtain ⟨b1,b2⟩:=insS_eq (day:=day) (to:=to) hF hk
 obtain ⟨a,b⟩:=secs_rg hF.rt
 obtain ⟨w0,w1⟩:=wk_ok hF
 have hI:=int_pos hF
 have U1:=tail_up (day:=day) (n:=(40000-k0S s r fr).toNat) hF hk
 have U2:=tail_up (day:=day) (n:=(40000-k0S s r m).toNat) hF hk2
 by_cases he:k0S s r m=k0S s r fr
 . rw [he] at a1 a2
   refine ⟨by rw [a1,b1],fun h=>?_⟩
   rw [<- Bool.not_eq_true,b2] at h
   rw [<- Bool.not_eq_true,a2]
   exact h
 have hc:=hk3.resolve_left (by omega)
 have nc:¬ 0<r.Count:=by omega
 have lo:∀ j:Int,0<=j->LoP r (idxP r (secsT s)+j * r.Interval):=fun j hj=>(idx_lo (r:=r) a b w0 w1).up (by have:=Int.mul_nonneg hj (show 0<=r.Interval by omega); omega)
 rw [lim_no nc] at a1 b1
 refine ⟨?_,fun h=>?_⟩
 . rw [a1,b1,List.filter_append,List.filter_append]
   congr 1
   refine up_ext ((U2.filter _).filter _) ((U1.filter _).filter _) fun t=>?_
   rw [List.mem_filter,List.mem_filter,List.mem_filter,List.mem_filter,ge_iff,perL_mem,perL_mem]
   have key:m<=t->((∃ j:Int,k0S s r m<=j/\j<k0S s r m+(40000-k0S s r m).toNat/\t∈candP s r day (idxP r (secsT s)+j * r.Interval))↔∃ j:Int,k0S s r fr<=j/\j<k0S s r fr+(40000-k0S s r fr).toNat/\t∈candP s r day (idxP r (secsT s)+j * r.Interval)):=fun hmt=>by
    constructor
    . rintro ⟨j,j0,j1,hj⟩
      exact ⟨j,by omega,by omega,hj⟩
    . rintro ⟨j,j0,j1,hj⟩
      have hjk:k0S s r m<=j:=by
       rcases Int.lt_or_le j (k0S s r m) with hlt | hge
       . exfalso
         have g:=(cand_in hF hj).2.2
         have u:=mul_up hI (show j+1<=k0S s r m by omega)
         rw [mul_succ] at u
         have:=beg_mono ((lo j (by omega)).up (j:=idxP r (secsT s)+j * r.Interval+1) (by omega)) (show idxP r (secsT s)+j * r.Interval+1<=idxP r (secsT s)+k0S s r m * r.Interval by omega)
         omega
       . exact hge
      exact ⟨j,hjk,by omega,hj⟩
   constructor
   . rintro ⟨⟨h1,h2⟩,h3⟩; exact ⟨⟨(key h3).1 h1,h2⟩,h3⟩
   . rintro ⟨⟨h1,h2⟩,h3⟩; exact ⟨⟨(key h3).2 h1,h2⟩,h3⟩
 . rw [<- Bool.not_eq_true,b2,Classical.not_not] at h
   rw [<- Bool.not_eq_true,a2,Classical.not_not]
   have u:=mul_up hI (show k0S s r fr+(40000-k0S s r fr).toNat<=k0S s r m+(40000-k0S s r m).toNat by omega)
   have:=beg_mono (lo (k0S s r fr+(40000-k0S s r fr).toNat) (by omega)) (show idxP r (secsT s)+(k0S s r fr+(40000-k0S s r fr).toNat) * r.Interval<=idxP r (secsT s)+(k0S s r m+(40000-k0S s r m).toNat) * r.Interval by omega)
   unfold EndK at h ⊢
   omega
end
end Go.Re
end
section
namespace Go.Re
open Go Go.Wk Go.Wl Go.Rx
theorem run_true:∀ {T y:List Int} {e:Bool},runE (fun _ _=>true) y T e=(y++T,e)
 | [],y,e=>by unfold runE; rw [List.append_nil]
 | t::T,y,e=>by unfold runE; rw [cond_true,run_true]; simp
theorem run_len {res:List Int->Int->Bool}:∀ {T y:List Int} {e:Bool},(runE res y T e).1.length<=y.length+T.length
 | [],y,e=>by unfold runE; simp
 | t::T,y,e=>by
  unfold runE
  cases res y t with
  | true =>
   have:=run_len (res:=res) (T:=T) (y:=y++[t]) (e:=e)
   rw [List.length_append] at this
   simp only [List.length_cons,List.length_nil] at this ⊢
   rw [cond_true]
   omega
  | false=>simp
theorem far_flag {s:Tm} {r:Rl} {day to fr:Int} (hF:FitsP s r) (h0:0<=fr) (h:farB s r day to=false):(insS s r day fr to).2=false:=by
 obtain ⟨hk,hk1⟩:=k0_fact hF h0
 obtain ⟨a,b⟩:=secs_rg hF.rt
 obtain ⟨w0,w1⟩:=wk_ok hF
 have hI:=int_pos hF
 have lo:∀ j:Int,0<=j->LoP r (idxP r (secsT s)+j * r.Interval):=fun j hj=>(idx_lo (r:=r) a b w0 w1).up (by have:=Int.mul_nonneg hj (show 0<=r.Interval by omega); omega)
 rw [<- Bool.not_eq_true,(insS_eq (day:=day) (to:=to) hF hk).2,Classical.not_not]
 have u:=mul_up hI (show 40000<=k0S s r fr+(40000-k0S s r fr).toNat by omega)
 have hb:=beg_mono (lo 40000 (by decide)) (show idxP r (secsT s)+40000 * r.Interval<=idxP r (secsT s)+(k0S s r fr+(40000-k0S s r fr).toNat) * r.Interval by omega)
 obtain ⟨g0,g1⟩:=begP_rg (r:=r) (lo 40000 (by decide)).a
 have hin:=fun t ht=>perL_ge (t:=t) (day:=day) (n:=40000) hF (lo 0 (by decide)) ht
 unfold farB at h
 rw [show (0:Int)+((40000:Nat):Int)=40000 by omega] at hin
 generalize begP r (idxP r (secsT s)+40000 * r.Interval)=b4 at *
 by_cases h1:to<=b4 ∨ 315537897600<=b4
 . unfold EndK; omega
 rw [if_neg h1] at h
 by_cases h2:0<(r.Until.length:Int)/\secsT (ix r.Until 0)<b4
 . have e:tilS r=secsT (ix r.Until 0):=if_pos h2.1
   unfold EndK; omega
 rw [if_neg h2] at h
 by_cases h3:0<r.Count
 . rw [if_pos h3] at h
   have hz:k0S s r fr=0:=hk1.resolve_right (by omega)
   have hz0:k0S s r 0=0:=(k0_fact hF (show (0:Int)<=0 by decide)).2.resolve_right (by omega)
   have e1:=(insS_eq (day:=day) (fr:=0) (to:=b4) hF (by omega)).1
   rw [hz0] at e1
   rw [hz]
   have l1:=run_len (res:=farR r) (T:=(insS s r day 0 b4).1) (y:=[]) (e:=(insS s r day 0 b4).2)
   unfold farE at h
   generalize runE (farR r) [] (insS s r day 0 b4).1 (insS s r day 0 b4).2=g at *
   have hg:r.Count<=(g.1.length:Int):=by
    by_cases hh:r.Count<=(g.1.length:Int) ∨ g.2=true
    . rw [if_pos hh] at h
      exact hh.resolve_right (by rw [h]; decide)
    . rw [if_neg hh] at h; cases h
   rw [e1,List.length_append] at l1
   have l2:(if secsT s<b4 then [secsT s] else []).length<=1:=by split <;> simp
   have e:(perL s r day (idxP r (secsT s)) (40000-(0:Int)).toNat 0).filter (PT (secsT s) to (tilS r))=(perL s r day (idxP r (secsT s)) (40000-(0:Int)).toNat 0).filter (PT (secsT s) b4 (tilS r)):=List.filter_congr fun t ht=>by
    have:=hin t ht
    rw [Bool.eq_iff_iff,pt_iff,pt_iff]
    omega
   rw [e]
   rw [List.length_nil] at l1
   unfold EndK
   omega
 . rw [if_neg h3] at h; cases h
def lastI (f:Int) (l:List Int):Int:=l.getLast?.getD f
theorem last_snoc {f t:Int} {l:List Int}:lastI f (l++[t])=t:=by unfold lastI; simp
theorem last_of {f x:Int}:∀ {l:List Int},Up l->x∈l->(∀ t∈l,t<=x)->lastI f l=x:=fun {l} hu hx hm=>by
 obtain ⟨m,y,rfl⟩:∃ m y,l=m++[y]:=by
  rcases List.eq_nil_or_concat l with rfl | ⟨m,y,rfl⟩
  . cases hx
  . exact ⟨m,y,by simp⟩
 rw [last_snoc]
 have h1:=hm y (by simp)
 rcases List.mem_append.1 hx with h | h
 . have:=(List.pairwise_append.1 hu).2.2 x h y (by simp)
   omega
 . exact (List.mem_singleton.1 h).symm
theorem at_self {s:Tm} (h:RightT s):atS (secsT s) s=s:=by
 obtain ⟨hd,hh,hm,hs,hb⟩:=h
 have hn:=num_rg hd
 have e:secsT s=secsN s:=if_pos ⟨hd,hh,hm,hs,hb⟩
 have d1:secsN s / 86400+1=numD s.Day:=by unfold secsN; omega
 have d2:secsN s % 86400=s.Hour * 3600+s.Min * 60+s.Sec:=by unfold secsN; omega
 rw [e]
 unfold atS
 rw [if_neg,d1,d2,of_num hd]
 . have e1:(s.Hour * 3600+s.Min * 60+s.Sec) / 3600=s.Hour:=by omega
   have e2:(s.Hour * 3600+s.Min * 60+s.Sec) / 60 % 60=s.Min:=by omega
   have e3:(s.Hour * 3600+s.Min * 60+s.Sec) % 60=s.Sec:=by omega
   rw [e1,e2,e3]
 . rintro (h | h | h)
   . unfold secsN at h; omega
   . refine hb ⟨h.1,?_⟩
     rcases h.2 with h | h
     . exact .inr h
     . left; omega
   . rw [d1] at h; omega
open Classical in
noncomputable def lasP (s:Tm) (r:Rl) (a:Tm):Tm×Bool×Err :=
 if ¬ fitsS s r=true ∨ ¬ rightT a=true then (tm00,false,.no 2) else if farB s r (numS s.Day) (secsT a+1)=true then (tm00,false,.no 5)
 else if secsT a+1<=secsT s then (tm00,false,.nil) else (atS (lastI (secsT s) (insS s r (numS s.Day) 0 (secsT a+1)).1) s,true,.nil)
open Classical in
noncomputable def isP (s:Tm) (r:Rl) (t:Tm):Bool×Err:=if (lasP s r t).2.2=.nil then (decide ((lasP s r t).2.1=true/\(lasP s r t).1=t),.nil) else (false,(lasP s r t).2.2)
theorem ins_mem {s:Tm} {r:Rl} {day to t:Int} (hF:FitsP s r) (hc:¬ 0<r.Count):t∈(insS s r day 0 to).1↔(t=secsT s/\secsT s<to) ∨ (secsT s<t/\t<to/\t<=tilS r)/\∃ j:Int,0<=j/\j<40000/\t∈candP s r day (idxP r (secsT s)+j * r.Interval):=by
 have hz0:k0S s r 0=0:=(k0_fact hF (show (0:Int)<=0 by decide)).2.resolve_right (by have:=(secs_rg hF.rt).1; omega)
 have e1:=(insS_eq (day:=day) (fr:=0) (to:=to) hF (by omega)).1
 rw [hz0] at e1
 rw [e1,lim_no hc,List.mem_append,List.mem_filter,pt_iff,perL_mem]
 have e2:t∈(if secsT s<to then [secsT s] else [])↔t=secsT s/\secsT s<to:=by
  split
  . rename_i h; rw [List.mem_singleton]; exact ⟨fun e=>⟨e,h⟩,fun e=>e.1⟩
  . rename_i h; exact ⟨fun e=>(by cases e),fun e=>absurd e.2 h⟩
 rw [e2]
 constructor
 . rintro (h | ⟨⟨j,j0,j1,hj⟩,h⟩)
   . exact .inl h
   . exact .inr ⟨h,j,j0,by omega,hj⟩
 . rintro (h | ⟨h,j,j0,j1,hj⟩)
   . exact .inl h
   . exact .inr ⟨⟨j,j0,by omega,hj⟩,h⟩
theorem far_k {s:Tm} {r:Rl} {day to t j:Int} (hF:FitsP s r) (hc:¬ 0<r.Count) (h:farB s r day to=false) (hj:0<=j) (ht:t∈candP s r day (idxP r (secsT s)+j * r.Interval)) (h1:t<to) (h2:t<=tilS r):j<40000:=by
 obtain ⟨a,b⟩:=secs_rg hF.rt
 obtain ⟨w0,w1⟩:=wk_ok hF
 have hI:=int_pos hF
 have lo:∀ j:Int,0<=j->LoP r (idxP r (secsT s)+j * r.Interval):=fun j hj=>(idx_lo (r:=r) a b w0 w1).up (by have:=Int.mul_nonneg hj (show 0<=r.Interval by omega); omega)
 rcases Int.lt_or_le j 40000 with hh | hh
 . exact hh
 exfalso
 have u:=mul_up hI hh
 have hb:=beg_mono (lo 40000 (by decide)) (show idxP r (secsT s)+40000 * r.Interval<=idxP r (secsT s)+j * r.Interval by omega)
 have g:=(cand_in hF ht).2.1
 have e:=cand_end hF (lo j hj) ht
 unfold farB at h
 generalize begP r (idxP r (secsT s)+40000 * r.Interval)=b4 at *
 rw [if_neg (by omega)] at h
 by_cases h3:0<(r.Until.length:Int)/\secsT (ix r.Until 0)<b4
 . have e:tilS r=secsT (ix r.Until 0):=if_pos h3.1
   omega
 . rw [if_neg h3,if_neg hc] at h; cases h
structure DnI (s:Tm) (r:Rl) (day tl k:Int):Prop where
 a:∀ t j:Int,0<=j->k<j->secsT s<t->t<tl->t∈candP s r day (idxP r (secsT s)+j * r.Interval)->False
structure DcI (L:List Int) (fi tl x:Int):Prop where
 a:∀ i:Int,x<i->i<L.length->¬ (ix L i<tl/\fi<ix L i)
section
variable {s:Tm} {r:Rl} {day tl k to:Int}
theorem DnI.init (hF:FitsP s r) (h1:tl<=315537897600):DnI s r day tl ((idxP r (max 0 (tl-1))-idxP r (secsT s)).tdiv r.Interval):=⟨fun t j j0 hk h2 h3 ht=>by
 obtain ⟨a,b⟩:=secs_rg hF.rt
 obtain ⟨w0,w1⟩:=wk_ok hF
 have hI:=int_pos hF
 have lo:LoP r (idxP r (secsT s)+j * r.Interval):=(idx_lo (r:=r) a b w0 w1).up (by have:=Int.mul_nonneg j0 (show 0<=r.Interval by omega); omega)
 have g:=(beg_le lo (t:=t) (by omega) (by omega)).1 (cand_in hF ht).2.1
 have m:=idx_mono (r:=r) (t:=t) (u:=max 0 (tl-1)) (by omega) (by omega) (by omega) w0 w1
 have m2:=idx_mono (r:=r) (t:=secsT s) (u:=max 0 (tl-1)) a (by omega) (by omega) w0 w1
 rw [Int.tdiv_eq_ediv_of_nonneg (by omega)] at hk
 have:=Int.le_ediv_of_mul_le (show 0<r.Interval by omega) (show j * r.Interval<=idxP r (max 0 (tl-1))-idxP r (secsT s) by omega)
 omega⟩
theorem DnI.step (h:DnI s r day tl k) (hc:DcI (candP s r day (idxP r (secsT s)+k * r.Interval)) (secsT s) tl (-1)):DnI s r day tl (k-1):=⟨fun t j j0 hk h2 h3 ht=>by
 by_cases e:j=k
 . subst e
   obtain ⟨i,i0,i1,rfl⟩:=ix_of_mem ht
   exact hc.a i (by omega) i1 ⟨h3,h2⟩
 . exact h.a t j j0 (by omega) h2 h3 ht⟩
theorem DnI.found {x:Int} (h:DnI s r day tl k) (hF:FitsP s r) (nc:¬ 0<r.Count) (hf:farB s r day to=false) (hto:∀ t,t<tl↔t<to/\t<=tilS r) (k0:0<=k)
  (hc:DcI (candP s r day (idxP r (secsT s)+k * r.Interval)) (secsT s) tl x) (x0:0<=x) (x1:x<(candP s r day (idxP r (secsT s)+k * r.Interval)).length) (hx:ix (candP s r day (idxP r (secsT s)+k * r.Interval)) x<tl/\secsT s<ix (candP s r day (idxP r (secsT s)+k * r.Interval)) x) :
  lastI (secsT s) (insS s r day 0 to).1=ix (candP s r day (idxP r (secsT s)+k * r.Interval)) x:=by
 obtain ⟨a,b⟩:=secs_rg hF.rt
 obtain ⟨w0,w1⟩:=wk_ok hF
 have hI:=int_pos hF
 have lo:∀ j:Int,0<=j->LoP r (idxP r (secsT s)+j * r.Interval):=fun j hj=>(idx_lo (r:=r) a b w0 w1).up (by have:=Int.mul_nonneg hj (show 0<=r.Interval by omega); omega)
 have hm:=ix_memR x0 x1
 have ht:=(hto _).1 hx.1
 refine last_of (ins_up hF (Int.le_refl 0)) ((ins_mem hF nc).2 (.inr ⟨⟨hx.2,ht⟩,k,k0,far_k hF nc hf k0 hm ht.1 ht.2,hm⟩)) fun t h1=>?_
 rcases (ins_mem hF nc).1 h1 with ⟨rfl,_⟩ | ⟨⟨h2,h3⟩,j,j0,_,hj⟩
 . omega
 have h4:=(hto t).2 h3
 rcases Int.lt_trichotomy j k with hl | rfl | hl
 . have g:=(cand_in hF hj).2.2
   have g2:=(cand_in hF hm).2.1
   have u:=mul_up hI (show j+1<=k by omega)
   rw [mul_succ] at u
   have:=beg_mono ((lo j j0).up (j:=idxP r (secsT s)+j * r.Interval+1) (by omega)) (show idxP r (secsT s)+j * r.Interval+1<=idxP r (secsT s)+k * r.Interval by omega)
   omega
 . obtain ⟨i,i0,i1,rfl⟩:=ix_of_mem hj
   have hix:i<=x:=by
    rcases Int.lt_or_le x i with hh | hh
    . exact absurd ⟨h4,h2⟩ (hc.a i hh i1)
    . exact hh
   by_cases e:i=x
   . subst e; exact Int.le_refl _
   . have:=List.pairwise_iff_getElem.1 (cand_up (day:=day) (i:=idxP r (secsT s)+j * r.Interval) hF) i.toNat x.toNat (by omega) (by omega) (by omega)
     rw [ix_get (by omega),ix_get (by omega)]
     omega
 . exact absurd hj (fun hj=>h.a t j j0 hl h2 h4 hj)
theorem DnI.none (h:DnI s r day tl k) (hF:FitsP s r) (nc:¬ 0<r.Count) (hto:∀ t,t<tl↔t<to/\t<=tilS r) (h1:secsT s<to) (hk:¬ (0<=k/\secsT s<tl)):lastI (secsT s) (insS s r day 0 to).1=secsT s:=by
 refine last_of (ins_up hF (Int.le_refl 0)) ((ins_mem hF nc).2 (.inl ⟨rfl,h1⟩)) fun t h1=>?_
 rcases (ins_mem hF nc).1 h1 with ⟨rfl,_⟩ | ⟨⟨h2,h3⟩,j,j0,_,hj⟩
 . exact Int.le_refl _
 . have h4:=(hto t).2 h3
   exact absurd hj (fun hj=>h.a t j j0 (by omega) h2 h4 hj)
theorem secs_b (t:Tm):-1<=secsT t/\secsT t<315537897600:=by
 unfold secsT
 split
 . rename_i h; have:=secsN_rg h; omega
 . omega
theorem told_nil:toldE .nil=.nil:=by unfold toldE; rw [if_neg (by decide)]
end
end Go.Re
end
section
namespace Go.Proofs.YtdjfeninmbpflaaGreat
open Go Go.Wk Go.Wl Go.Rx Go.Re 
attribute [local irreducible] vcFun
def anla:Nat->Ann:=fun | 24=>⟨138,fun | 22=>some ⟨[3,4,6,9,10,12,17],[.slot 18 (.int .i64),.own 6 [(.int .i64),(.int .i64),(.int .i64),(.int .i64),(.int .i64),(.int .i64),.bool,.bool]]⟩ | 26=>some ⟨[3,4,6,9,10,12,17,18,19],[.slot 20 (.int .i64),.own 6 [(.int .i64),(.int .i64),(.int .i64),(.int .i64),(.int .i64),(.int .i64),.bool,.bool]]⟩ | 16=>some ⟨[3,4,6,9,12,68,69],[.slot 10 (.int .i64),.slot 70 (.int .i64)]⟩ | _=>none,fun _=>none⟩ | 34=>⟨171,fun | 16=>some ⟨[0,2,3,9,11,14],[.slot 10 (.int .i64),.slot 15 (.int .i64),.own 1000003 [.int .i64]]⟩ | 23=>some ⟨[0,2,3,9,11,14,15,130,131],[.slot 10 (.int .i64),.slot 132 (.int .i64),.own 1000003 [.int .i64]]⟩ | 7=>some ⟨[0,1,2,3,9,10,42,43],[.slot 11 (.int .i64),.slot 44 (.int .i64)]⟩ | _=>none,fun | 5=>some ⟨[0,1,2,3,9,10],[.own 1000003 [.int .i64]]⟩ | 16=>some ⟨[0,2,3,9,10,11,14],[.slot 15 (.int .i64)]⟩ | _=>none⟩ | 52=>⟨5,fun _=>none,fun _=>none⟩ | _=>⟨0,fun _=>none,fun _=>none⟩
def qla0 (s:Tm) (r:Rl) (x_2:Int):=candP (etT s) (etR r) (numS (etD s.Day)) (idxP (etR r) (secsT (etT s))+x_2 * r.Interval)
def qla1 (s:Tm) (r:Rl) (x_4:Int):=candP (etT s) (etR r) (numS (etD s.Day)) (idxP (etR r) (secsT (etT (etT s)))+x_4 * r.Interval)
def qla2 (r:Rl) (s:Tm):=idxP (etR r) (bif false then max (0:Int) (315537897599:Int) else min (0:Int) (315537897599:Int))-idxP (etR r) (secsT (etT (etT s)))
def Vla (s:Tm) (r:Rl) (a:Tm) (Q:Tm->Bool->Err->Prop):Prop :=
fewR (etR r)=true/\(¬fitsS (etT s) (etR r)=true ∨ ¬rightT (etT a)=true->Q (Tm.mk (Dy.mk (0:Int) (0:Int) (0:Int)) (0:Int) (0:Int) (0:Int) false false) false (Err.no (2:Int)))/\(¬(¬fitsS (etT s) (etR r)=true ∨ ¬rightT (etT a)=true)->in64 (secsT (etT a)+1)/\fewR (etR r)=true/\fitsS (etT s) (etR r)=true/\(errB (farB (etT s) (etR r) (numS (etD s.Day)) (secsT (etT a)+1))≠Err.nil->((errB (farB (etT s) (etR r) (numS (etD s.Day)) (secsT (etT a)+1))).is (5:Int) ∨ errB (farB (etT s) (etR r) (numS (etD s.Day)) (secsT (etT a)+1))=Err.nil)/\Q (Tm.mk (Dy.mk (0:Int) (0:Int) (0:Int)) (0:Int) (0:Int) (0:Int) false false) false (toldE (errB (farB (etT s) (etR r) (numS (etD s.Day)) (secsT (etT a)+1)))))/\(¬errB (farB (etT s) (etR r) (numS (etD s.Day)) (secsT (etT a)+1))≠Err.nil->(secsT (etT a)+1<=secsT (etT s)->Q (Tm.mk (Dy.mk (0:Int) (0:Int) (0:Int)) (0:Int) (0:Int) (0:Int) false false) false Err.nil)/\(¬secsT (etT a)+1<=secsT (etT s)->((0:Int)<r.Count->∃ (J:Int->Prop),((secsT (etT (etT s))<secsT (etT a)+1/\(0:Int)<=secsT (etT (etT s))->J (secsT (etT (etT s))))/\(¬(secsT (etT (etT s))<secsT (etT a)+1/\(0:Int)<=secsT (etT (etT s)))->J (secsT (etT s))))/\∀ (x:Int),J x->∃ (I:Int->Int->Prop),∃ (m:Int->Int->Nat),I (315537897600:Int) (0:Int)/\∀ (x_1 x_2:Int),I x_1 x_2->(x_2<(↑r.Until.length:Int)->(0:Int)<=x_2/\x_2<(↑r.Until.length:Int)/\(in64 (ix r.Until x_2).Day.Year->in64 (ix r.Until x_2).Day.Month->in64 (ix r.Until x_2).Day.Date->in64 (ix r.Until x_2).Hour->in64 (ix r.Until x_2).Min->in64 (ix r.Until x_2).Sec->in64 (x_2+1)/\I (secsT (etT (ix r.Until x_2))) (x_2+1)/\m (secsT (etT (ix r.Until x_2))) (x_2+1)<m x_1 x_2))/\(¬x_2<(↑r.Until.length:Int)->(0:Int)<=secsT (etT (etT s))/\secsT (etT (etT s))<=400000000000/\(0:Int)<=r.Wkst/\r.Wkst<=6/\∃ (J:Int->Prop),((r.Count=0/\secsT (etT (etT s))<0->(((0:Int)<=bif false then max (0:Int) (315537897599:Int) else min (0:Int) (315537897599:Int))/\(bif false then max (0:Int) (315537897599:Int) else min (0:Int) (315537897599:Int))<=400000000000/\(0:Int)<=r.Wkst/\r.Wkst<=6)/\in64 (qla2 r s)/\(r.Interval≠0/\in64 ((qla2 r s).tdiv r.Interval))/\in64 ((qla2 r s).tdiv r.Interval-1)/\J (bif true then max (0:Int) ((qla2 r s).tdiv r.Interval-1) else min (0:Int) ((qla2 r s).tdiv r.Interval-1)))/\(¬(r.Count=0/\secsT (etT (etT s))<0)->J (0:Int)))/\∀ (x_3:Int),J x_3->∃ (I:Int->Int->Int->Prop),∃ (m:Int->Int->Int->Nat),I (1:Int) x_3 x/\∀ (x x_4 x_5:Int),I x x_4 x_5->in64 (x_4 * r.Interval)/\in64 (idxP (etR r) (secsT (etT (etT s)))+x_4 * r.Interval)/\(0:Int)<=idxP (etR r) (secsT (etT (etT s)))+x_4 * r.Interval/\idxP (etR r) (secsT (etT (etT s)))+x_4 * r.Interval<=1000000000000/\(0:Int)<=r.Wkst/\r.Wkst<=6/\(((secsT (etT a)+1<=begP (etR r) (idxP (etR r) (secsT (etT (etT s)))+x_4 * r.Interval) ∨ x_1<begP (etR r) (idxP (etR r) (secsT (etT (etT s)))+x_4 * r.Interval)) ∨ (0:Int)<r.Count/\r.Count<=x) ∨ (315537897600:Int)<=begP (etR r) (idxP (etR r) (secsT (etT (etT s)))+x_4 * r.Interval)->x_5<=9000000000000000000/\(Err.nil.is (5:Int) ∨ Err.nil=Err.nil)/\Q (etT (atS x_5 (etT s))) (decide (Err.nil=Err.nil)) (toldE Err.nil))/\(¬(((secsT (etT a)+1<=begP (etR r) (idxP (etR r) (secsT (etT (etT s)))+x_4 * r.Interval) ∨ x_1<begP (etR r) (idxP (etR r) (secsT (etT (etT s)))+x_4 * r.Interval)) ∨ (0:Int)<r.Count/\r.Count<=x) ∨ (315537897600:Int)<=begP (etR r) (idxP (etR r) (secsT (etT (etT s)))+x_4 * r.Interval))->((40000:Int)<=x_4->x_5<=9000000000000000000/\((Err.w (87:Nat) [] (Err.no (5:Int))).is (5:Int) ∨ Err.w (87:Nat) [] (Err.no (5:Int))=Err.nil)/\Q (etT (atS x_5 (etT s))) (decide (Err.w (87:Nat) [] (Err.no (5:Int))=Err.nil)) (toldE (Err.w (87:Nat) [] (Err.no (5:Int)))))/\(¬(40000:Int)<=x_4->fewR (etR r)=true/\fitsS (etT s) (etR r)=true/\(0:Int)<=idxP (etR r) (secsT (etT (etT s)))+x_4 * r.Interval/\idxP (etR r) (secsT (etT (etT s)))+x_4 * r.Interval<=999999999999/\∃ (I_1:Int->Int->Int->Prop),∃ (m_1:Int->Int->Int->Nat),I_1 x (0:Int) x_5/\∀ (x_6 x_7 x_8:Int),I_1 x_6 x_7 x_8->(x_7<(↑(qla1 s r x_4).length:Int)->(0:Int)<=x_7/\x_7<(↑(qla1 s r x_4).length:Int)/\(in64 (ix (qla1 s r x_4) x_7)->(ix (qla1 s r x_4) x_7<=secsT (etT (etT s))->in64 (x_7+1)/\I_1 x_6 (x_7+1) x_8/\m_1 x_6 (x_7+1) x_8<m_1 x_6 x_7 x_8)/\(¬ix (qla1 s r x_4) x_7<=secsT (etT (etT s))->((secsT (etT a)+1<=ix (qla1 s r x_4) x_7 ∨ x_1<ix (qla1 s r x_4) x_7) ∨ (0:Int)<r.Count/\r.Count<=x_6->in64 (x_4+1)/\I x_6 (x_4+1) x_8/\m x_6 (x_4+1) x_8<m x x_4 x_5)/\(¬((secsT (etT a)+1<=ix (qla1 s r x_4) x_7 ∨ x_1<ix (qla1 s r x_4) x_7) ∨ (0:Int)<r.Count/\r.Count<=x_6)->in64 (x_6+1)/\in64 (x_7+1)/\I_1 (x_6+1) (x_7+1) (ix (qla1 s r x_4) x_7)/\m_1 (x_6+1) (x_7+1) (ix (qla1 s r x_4) x_7)<m_1 x_6 x_7 x_8))))/\(¬x_7<(↑(qla1 s r x_4).length:Int)->in64 (x_4+1)/\I x_6 (x_4+1) x_8/\m x_6 (x_4+1) x_8<m x x_4 x_5)))))/\(¬(0:Int)<r.Count->∃ (I:Int->Int->Prop),∃ (m:Int->Int->Nat),I (secsT (etT a)+1) (0:Int)/\∀ (x x_1:Int),I x x_1->(x_1<(↑r.Until.length:Int)->(0:Int)<=x_1/\x_1<(↑r.Until.length:Int)/\(in64 (ix r.Until x_1).Day.Year->in64 (ix r.Until x_1).Day.Month->in64 (ix r.Until x_1).Day.Date->in64 (ix r.Until x_1).Hour->in64 (ix r.Until x_1).Min->in64 (ix r.Until x_1).Sec->in64 (secsT (etT (ix r.Until x_1))+1)/\in64 (x_1+1)/\I (bif false then max x (secsT (etT (ix r.Until x_1))+1) else min x (secsT (etT (ix r.Until x_1))+1)) (x_1+1)/\m (bif false then max x (secsT (etT (ix r.Until x_1))+1) else min x (secsT (etT (ix r.Until x_1))+1)) (x_1+1)<m x x_1))/\(¬x_1<(↑r.Until.length:Int)->(0:Int)<=secsT (etT s)/\secsT (etT s)<=400000000000/\(0:Int)<=r.Wkst/\r.Wkst<=6/\in64 (x-1)/\(((0:Int)<=bif true then max (0:Int) (x-1) else min (0:Int) (x-1))/\(bif true then max (0:Int) (x-1) else min (0:Int) (x-1))<=400000000000/\(0:Int)<=r.Wkst/\r.Wkst<=6)/\in64 (idxP (etR r) (bif true then max (0:Int) (x-1) else min (0:Int) (x-1))-idxP (etR r) (secsT (etT s)))/\(r.Interval≠0/\in64 ((idxP (etR r) (bif true then max (0:Int) (x-1) else min (0:Int) (x-1))-idxP (etR r) (secsT (etT s))).tdiv r.Interval))/\∃ (I:Int->Int->Int->Int->Int->Int->Int->Bool->Bool->Prop),∃ (m:Int->Int->Int->Int->Int->Int->Int->Bool->Bool->Nat),I ((idxP (etR r) (bif true then max (0:Int) (x-1) else min (0:Int) (x-1))-idxP (etR r) (secsT (etT s))).tdiv r.Interval) (0:Int) (0:Int) (0:Int) (0:Int) (0:Int) (0:Int) false false/\∀ (x_2 x_3 x_4 x_5 x_6 x_7 x_8:Int) (x_9 x_10:Bool),I x_2 x_3 x_4 x_5 x_6 x_7 x_8 x_9 x_10->((0:Int)<=x_2/\secsT (etT s)<x->in64 (x_2 * r.Interval)/\in64 (idxP (etR r) (secsT (etT s))+x_2 * r.Interval)/\fewR (etR r)=true/\fitsS (etT s) (etR r)=true/\(0:Int)<=idxP (etR r) (secsT (etT s))+x_2 * r.Interval/\idxP (etR r) (secsT (etT s))+x_2 * r.Interval<=999999999999/\in64 ((↑(qla0 s r x_2).length:Int)-1)/\∃ (I_1:Int->Int->Int->Int->Int->Int->Int->Bool->Bool->Prop),∃ (m_1:Int->Int->Int->Int->Int->Int->Int->Bool->Bool->Nat),I_1 ((↑(qla0 s r x_2).length:Int)-1) x_3 x_4 x_5 x_6 x_7 x_8 (decide (x_9=true)) (decide (x_10=true))/\∀ (x_11 x_12 x_13 x_14 x_15 x_16 x_17:Int) (x_18 x_19:Bool),I_1 x_11 x_12 x_13 x_14 x_15 x_16 x_17 x_18 x_19->((0:Int)<=x_11->(0:Int)<=x_11/\x_11<(↑(qla0 s r x_2).length:Int)/\(in64 (ix (qla0 s r x_2) x_11)->(ix (qla0 s r x_2) x_11<x->(0:Int)<=x_11)/\(ix (qla0 s r x_2) x_11<x->x_11<(↑(qla0 s r x_2).length:Int))/\((ix (qla0 s r x_2) x_11<x->in64 (ix (qla0 s r x_2) x_11))->(ix (qla0 s r x_2) x_11<x/\secsT (etT s)<ix (qla0 s r x_2) x_11->((0:Int)<=x_11/\x_11<(↑(qla0 s r x_2).length:Int))/\(in64 (ix (qla0 s r x_2) x_11)->ix (qla0 s r x_2) x_11<=9000000000000000000)/\(in64 (ix (qla0 s r x_2) x_11)->Q (etT (atS (ix (qla0 s r x_2) x_11) (etT s))) true Err.nil))/\(¬(ix (qla0 s r x_2) x_11<x/\secsT (etT s)<ix (qla0 s r x_2) x_11)->in64 (x_11-1)/\I_1 (x_11-1) x_12 x_13 x_14 x_15 x_16 x_17 (decide (x_18=true)) (decide (x_19=true))/\m_1 (x_11-1) x_12 x_13 x_14 x_15 x_16 x_17 (decide (x_18=true)) (decide (x_19=true))<m_1 x_11 x_12 x_13 x_14 x_15 x_16 x_17 x_18 x_19))))/\(¬(0:Int)<=x_11->in64 (x_2-1)/\I (x_2-1) x_12 x_13 x_14 x_15 x_16 x_17 (decide (x_18=true)) (decide (x_19=true))/\m (x_2-1) x_12 x_13 x_14 x_15 x_16 x_17 (decide (x_18=true)) (decide (x_19=true))<m x_2 x_3 x_4 x_5 x_6 x_7 x_8 x_9 x_10))/\(¬((0:Int)<=x_2/\secsT (etT s)<x)->Q (etT s) true Err.nil))))))
theorem Vla_eq {s:Tm} {r:Rl} {a:Tm} {Q:Tm->Bool->Err->Prop}:@Eq Prop (Vla s r a Q) (vcFun (E:=NI52) (inlHN NI52 H0 anla 4) (anla 24) Tryz.f24 [.agg [.int .i64 s.Day.Year,.int .i64 s.Day.Month,.int .i64 s.Day.Date,.int .i64 s.Hour,.int .i64 s.Min,.int .i64 s.Sec,blB s.Bare,blB s.UTC],.agg [.int .i64 r.Freq,.int .i64 r.Interval,.int .i64 r.Count,.sl (N:=U) 25 r.Until,.sl (N:=U) 3 r.Month,.sl (N:=U) 3 r.WeekNo,.sl (N:=U) 3 r.YearDay,.sl (N:=U) 3 r.MonthDay,.sl (N:=U) 60 r.Days,.sl (N:=U) 3 r.Hour,.sl (N:=U) 3 r.Minute,.sl (N:=U) 3 r.Second,.sl (N:=U) 3 r.SetPos,.int .i64 r.Wkst],.agg [.int .i64 a.Day.Year,.int .i64 a.Day.Month,.int .i64 a.Day.Date,.int .i64 a.Hour,.int .i64 a.Min,.int .i64 a.Sec,blB a.Bare,blB a.UTC]] [] [] 0 (resP NI52 [.val 25,.bool,.err] Q)):=by kernel_rfl
theorem Vla_ok {s:Tm} {r:Rl} {a:Tm} {Q:Tm->Bool->Err->Prop} (h:Vla s r a Q):vcFun (E:=NI52) (inlHN NI52 H0 anla 4) (anla 24) Tryz.f24 [.agg [.int .i64 s.Day.Year,.int .i64 s.Day.Month,.int .i64 s.Day.Date,.int .i64 s.Hour,.int .i64 s.Min,.int .i64 s.Sec,blB s.Bare,blB s.UTC],.agg [.int .i64 r.Freq,.int .i64 r.Interval,.int .i64 r.Count,.sl (N:=U) 25 r.Until,.sl (N:=U) 3 r.Month,.sl (N:=U) 3 r.WeekNo,.sl (N:=U) 3 r.YearDay,.sl (N:=U) 3 r.MonthDay,.sl (N:=U) 60 r.Days,.sl (N:=U) 3 r.Hour,.sl (N:=U) 3 r.Minute,.sl (N:=U) 3 r.Second,.sl (N:=U) 3 r.SetPos,.int .i64 r.Wkst],.agg [.int .i64 a.Day.Year,.int .i64 a.Day.Month,.int .i64 a.Day.Date,.int .i64 a.Hour,.int .i64 a.Min,.int .i64 a.Sec,blB a.Bare,blB a.UTC]] [] [] 0 (resP NI52 [.val 25,.bool,.err] Q):=by rw [<- Vla_eq]; exact h
set_option maxHeartbeats 2000000 in
theorem pla (s:Tm) (r:Rl) (a:Tm) (hfw:fewR r=true):Vla s r a (fun y0 y1 y2=>y0=(lasP s r a).1/\y1=(lasP s r a).2.1/\y2=(lasP s r a).2.2):=by
 unfold Vla qla2 qla1 qla0
 simp only [etT_eq,etR_eq,etD_eq]
 refine ⟨hfw,fun h=>?_,fun h=>?_⟩
 . unfold lasP; rw [if_pos h]; exact ⟨rfl,rfl,rfl⟩
 have hf:fitsS s r=true:=Classical.not_not.1 fun e=>h (.inl e)
 have ha:rightT a=true:=Classical.not_not.1 fun e=>h (.inr e)
 have hF:=fits_iff.1 hf
 obtain ⟨px,hpx⟩:∃ p,lasP s r a=p:=⟨_,rfl⟩
 rw [hpx]
 unfold lasP at hpx
 rw [if_neg h] at hpx
 obtain ⟨fb,hfb⟩:∃ fb,farB s r (numS s.Day) (secsT a+1)=fb:=⟨_,rfl⟩
 rw [hfb] at hpx ⊢
 obtain ⟨s0,s1⟩:=secs_rg hF.rt
 obtain ⟨g0,g1⟩:=secs_rg ha
 obtain ⟨_,_,v0,v1,n0,n1,w0,w1⟩:=(rightR_iff.1 hF.rr).head
 obtain ⟨u1,u2⟩:=(rightR_iff.1 hF.rr).til
 have hix:∀ x,0<=x->x<315537897600->0<=idxP r x/\idxP r x<=315537897600:=fun x x0 x1=>idxP_rg x0 x1 w0 w1
 have lt:∀ n i:Int,i<n->(n-(i+1)).toNat<(n-i).toNat:=fun n i h=>by omega
 refine ⟨⟨by omega,by omega⟩,hfw,hf,fun he=>?_,fun he=>?_⟩
 . cases fb with
   | false=>exact absurd rfl he
   | true =>
    rw [if_pos rfl] at hpx
    rw [<- hpx]
    exact ⟨.inl is_many,rfl,rfl,told_many⟩
 cases fb with
 | true=>exact absurd (fun e=>by cases e) he
 | false =>
 rw [if_neg Bool.false_ne_true] at hpx
 have hflag:=far_flag (day:=numS s.Day) (fr:=0) hF (Int.le_refl 0) hfb
 refine ⟨fun hle=>?_,fun hle=>?_⟩
 . rw [if_pos hle] at hpx; rw [<- hpx]; exact ⟨rfl,rfl,rfl⟩
 rw [if_neg hle] at hpx
 obtain ⟨a0,a1⟩:=hix _ s0 s1
 have e1:∀ x y:Int,(bif false then max x y else min x y)=min x y:=fun _ _=>rfl
 have e2:∀ x y:Int,(bif true then max x y else min x y)=max x y:=fun _ _=>rfl
 simp only [e1,e2]
 refine ⟨fun hc=>?_,fun hc=>?_⟩
 . obtain ⟨g,hg⟩:∃ g,runE (fun _ _=>true) [] (insS s r (numS s.Day) 0 (secsT a+1)).1 (insS s r (numS s.Day) 0 (secsT a+1)).2=g:=⟨_,rfl⟩
   have hgL:g=((insS s r (numS s.Day) 0 (secsT a+1)).1,false):=by rw [<- hg,run_true,hflag]; rfl
   have R0:RunI (fun _ _=>true) g [] (insS s r (numS s.Day) 0 (secsT a+1)).1 (insS s r (numS s.Day) 0 (secsT a+1)).2:=⟨hg⟩
   have fin:∀ (y:List Int) (e:Bool) (x:Int),g=(y,e)->x=lastI (secsT s) y->e=false/\atS x s=px.1:=fun y e x h1 h2=>by
    rw [hgL] at h1
    have h3:=(Prod.mk.inj h1).1
    rw [h3] at hpx
    rw [h2,<- hpx]
    exact ⟨(Prod.mk.inj h1).2.symm,rfl⟩
   have px2:px.2.1=true/\px.2.2=.nil:=by rw [<- hpx]; exact ⟨rfl,rfl⟩
   clear hpx hgL hg hflag
   have ek:k0S s r 0=0:=by unfold k0S; rw [if_neg (fun hh=>absurd hh.1 (by omega))]
   unfold insS at R0
   rw [ek] at R0
   have lo:∀ j:Int,0<=j->LoP r (idxP r (secsT s)+j * r.Interval):=fun j hj=>(idx_lo (r:=r) s0 s1 w0 w1).up (by have:=Int.mul_nonneg hj (show 0<=r.Interval by omega); omega)
   generalize hfi:secsT s=fi at *
   generalize idxP r fi=i0 at *
   generalize secsT a+1=to at *
   refine ⟨fun x=>x<=315537897600/\∃ y,x=lastI fi y/\OutI (fun _ _=>true) g s r (numS s.Day) fi to (tilS r) i0 0 1 y,⟨fun hfst=>?_,fun hnf=>absurd ⟨by omega,s0⟩ hnf⟩,fun x hx=>⟨fun til z=>0<=z/\z<=(r.Until.length:Int)/\til=if 0<z then secsT (ix r.Until 0) else 315537897600,fun _ z=>((r.Until.length:Int)-z).toNat,⟨Int.le_refl 0,by omega,rfl⟩,fun til z hz=>⟨fun hlt=>⟨hz.1,hlt,fun _ _ _ _ _ _=>⟨⟨by omega,by omega⟩,⟨by omega,by omega,?_⟩,lt _ _ hlt⟩⟩,fun hge=>?_⟩⟩⟩
   . rw [if_pos hfst.1,List.cons_append,List.nil_append] at R0
     exact ⟨by omega,[fi],rfl,⟨R0.go rfl⟩⟩
   . have e:z=0:=by omega
     subst e; rfl
   . have etil:til=tilS r:=by
       rw [hz.2.2]
       unfold tilS
       by_cases hl:0<(r.Until.length:Int)
       . rw [if_pos hl,if_pos (by omega)]
       . rw [if_neg hl,if_neg (by omega)]
     rw [etil]
     generalize tilS r=til at *
     refine ⟨s0,by omega,w0,w1,fun k=>k=0,⟨fun hh=>absurd hh.1 (by omega),fun _=>rfl⟩,fun k hk=>⟨fun c k x=>x<=315537897600/\1<=c/\c<=r.Count/\0<=k/\k<=40000/\∃ y,x=lastI fi y/\OutI (fun _ _=>true) g s r (numS s.Day) fi to til i0 k c y,fun _ k _=>(40001-k).toNat,?_,fun c k x hI=>?_⟩⟩
     . subst hk
       exact ⟨hx.1,by decide,by omega,by decide,by decide,hx.2⟩
     . obtain ⟨hx1,c0,c1,k0,k1,y,hy,ho⟩:=hI
       obtain ⟨q0,q1⟩:=k_int hF.rr k0 k1
       refine ⟨⟨by omega,by omega⟩,⟨by omega,by omega⟩,by omega,by omega,w0,w1,fun he=>?_,fun he=>⟨fun h4=>?_,fun h4=>⟨hfw,hf,by omega,by omega,fun c' j x'=>x'<=315537897600/\1<=c'/\c'<=r.Count/\0<=j/\j<=((candP s r (numS s.Day) (i0+k * r.Interval)).length:Int)/\∃ y,x'=lastI fi y/\InI' (fun _ _=>true) g s r (numS s.Day) fi to til i0 k c' ((candP s r (numS s.Day) (i0+k * r.Interval)).drop j.toNat) y,fun _ j _=>(((candP s r (numS s.Day) (i0+k * r.Interval)).length:Int)-j).toNat,⟨hx1,c0,c1,Int.le_refl 0,by omega,y,hy,by simpa using ho.enter he h4⟩,fun c' j x' hI'=>?_⟩⟩⟩
       . obtain ⟨_,q⟩:=fin y _ x (ho.fin he) hy
         exact ⟨by omega,.inr trivial,q,by rw [px2.1]; exact decide_eq_true trivial,by rw [px2.2]; exact told_nil⟩
       . exact absurd (fin y _ x (ho.many he h4) hy).1 (by decide)
       . have hcl:=candP_len (day:=numS s.Day) (i:=i0+k * r.Interval) hF (by omega)
         have hce:∀ t∈candP s r (numS s.Day) (i0+k * r.Interval),t<315537897600:=fun t ht=>cand_end hF (lo k k0) ht
         obtain ⟨hx1,c0,c1,j0,j1,y,hy,hi⟩:=hI'
         generalize candP s r (numS s.Day) (i0+k * r.Interval)=L at *
         refine ⟨fun hj=>⟨j0,hj,fun _=>?_⟩,fun hj=>⟨⟨by omega,by omega⟩,⟨hx1,c0,c1,by omega,by omega,y,hy,?_⟩,by show (_:Int).toNat<(_:Int).toNat; omega⟩⟩
         . have hL:=hce _ (ix_memR j0 hj)
           rw [drop_step j0 hj] at hi
           refine ⟨fun hs=>⟨⟨by omega,by omega⟩,⟨hx1,c0,c1,by omega,by omega,y,hy,hi.skip hs⟩,lt _ _ hj⟩,fun hs=>⟨fun hb=>⟨⟨by omega,by omega⟩,⟨hx1,c0,c1,by omega,by omega,y,hy,hi.leave hs hb⟩,by show (_:Int).toNat<(_:Int).toNat; omega⟩,fun hb=>?_⟩⟩
           have hcc:¬ r.Count<=c':=fun e=>hb (.inr ⟨hc,e⟩)
           exact ⟨⟨by omega,by omega⟩,⟨by omega,by omega⟩,⟨by omega,by omega,by omega,by omega,by omega,y++[ix L j],last_snoc.symm,(hi.one hs hb).1 rfl⟩,lt _ _ hj⟩
         . rw [List.drop_eq_nil_of_le (by omega)] at hi
           exact hi.nil
 . have px2:px=(atS (lastI (secsT s) (insS s r (numS s.Day) 0 (secsT a+1)).1) s,true,.nil):=hpx.symm
   clear hpx
   refine ⟨fun tl z=>0<=z/\z<=(r.Until.length:Int)/\tl=if 0<z then min (secsT a+1) (secsT (ix r.Until 0)+1) else secsT a+1,fun _ z=>((r.Until.length:Int)-z).toNat,⟨Int.le_refl 0,by omega,rfl⟩,fun tl z hz=>⟨fun hlt=>⟨hz.1,hlt,fun _ _ _ _ _ _=>?_⟩,fun hge=>?_⟩⟩
   . have e:z=0:=by omega
     subst e
     have:=secs_b (ix r.Until 0)
     exact ⟨⟨by omega,by omega⟩,⟨by omega,by omega⟩,⟨by omega,by omega,by rw [hz.2.2]; rfl⟩,lt _ _ hlt⟩
   . have:=secs_b (ix r.Until 0)
     have hto:∀ t,t<tl↔t<secsT a+1/\t<=tilS r:=fun t=>by
      rw [hz.2.2]
      unfold tilS
      by_cases hl:0<(r.Until.length:Int)
      . rw [if_pos hl,if_pos (by omega)]; omega
      . rw [if_neg hl,if_neg (by omega)]; omega
     have tl1:0<=tl/\tl<=315537897600:=by
      rw [hz.2.2]
      split <;> omega
     obtain ⟨b0,b1⟩:=hix (max 0 (tl-1)) (by omega) (by omega)
     have hD:=DnI.init (day:=numS s.Day) (tl:=tl) hF tl1.2
     obtain ⟨t0,t1⟩:=tdivA_rg (d:=idxP r (max 0 (tl-1))-idxP r (secsT s)) (n:=r.Interval)
     have hkm:secsT s<tl->∀ k,0<=k->k<=(idxP r (max 0 (tl-1))-idxP r (secsT s)).tdiv r.Interval->0<=k * r.Interval/\k * r.Interval<=315537897600:=fun h1 k k0 k1=>by
      have m2:=idx_mono (r:=r) (t:=secsT s) (u:=max 0 (tl-1)) s0 (by omega) (by omega) w0 w1
      rw [Int.tdiv_eq_ediv_of_nonneg (by omega)] at k1
      have h3:=Int.ediv_mul_le (idxP r (max 0 (tl-1))-idxP r (secsT s)) (show r.Interval≠0 by omega)
      have h4:=mul_up v0 k1
      have h5:=Int.mul_nonneg k0 (show 0<=r.Interval by omega)
      omega
     generalize (idxP r (max 0 (tl-1))-idxP r (secsT s)).tdiv r.Interval=km at *
     refine ⟨s0,by omega,w0,w1,⟨by omega,by omega⟩,⟨by omega,by omega,w0,w1⟩,⟨by omega,by omega⟩,⟨by omega,by omega,by omega⟩,fun k _ _ _ _ _ _ _ _=>k<=km/\(k=km ∨ -1<=k)/\DnI s r (numS s.Day) tl k,fun k _ _ _ _ _ _ _ _=>(k+1).toNat,⟨Int.le_refl _,.inl rfl,hD⟩,?_⟩
     rintro k _ _ _ _ _ _ _ _ ⟨kk,kl,hk⟩
     refine ⟨fun hg=>?_,fun hg=>?_⟩
     . obtain ⟨q0,q1⟩:=hkm hg.2 k hg.1 kk
       have hcl:=candP_len (day:=numS s.Day) (i:=idxP r (secsT s)+k * r.Interval) hF (by omega)
       have hce:∀ t∈candP s r (numS s.Day) (idxP r (secsT s)+k * r.Interval),t<315537897600:=fun t ht=>cand_end hF ((idx_lo (r:=r) s0 s1 w0 w1).up (by omega)) ht
       have hfd:=fun x h1 h2 h3 h4=>hk.found (x:=x) hF hc hfb hto hg.1 h1 h2 h3 h4
       have hst:=hk.step
       generalize candP s r (numS s.Day) (idxP r (secsT s)+k * r.Interval)=L at *
       refine ⟨⟨by omega,by omega⟩,⟨by omega,by omega⟩,hfw,hf,by omega,by omega,⟨by omega,by omega⟩,fun x _ _ _ _ _ _ _ _=>-1<=x/\x<(L.length:Int)/\DcI L (secsT s) tl x,fun x _ _ _ _ _ _ _ _=>(x+1).toNat,⟨by omega,by omega,⟨fun i h1 h2=>by omega⟩⟩,?_⟩
       rintro x _ _ _ _ _ _ _ _ ⟨x0,x1,hx⟩
       refine ⟨fun hx0=>⟨hx0,x1,fun _=>⟨fun _=>hx0,fun _=>x1,fun _=>⟨fun hyes=>⟨⟨hx0,x1⟩,fun _=>?_,fun _=>?_⟩,fun hno=>⟨⟨by omega,by omega⟩,⟨by omega,by omega,⟨fun i h1 h2=>?_⟩⟩,?_⟩⟩⟩⟩,fun hx0=>?_⟩
       . have:=hce _ (ix_memR hx0 x1); omega
       . rw [px2,hfd x hx hx0 x1 hyes]; exact ⟨rfl,rfl,rfl⟩
       . by_cases e:i=x
         . subst e; exact hno
         . exact hx.a i (by omega) h2
       . show (_:Int).toNat<(_:Int).toNat
         omega
       . have e:x=-1:=by omega
         subst e
         refine ⟨⟨by omega,by omega⟩,⟨by omega,.inr (by omega),hst hx⟩,?_⟩
         show (_:Int).toNat<(_:Int).toNat
         omega
     . rw [px2,hk.none hF hc hto (by omega) hg,at_self (rightT_iff.1 hF.rt)]
       exact ⟨rfl,rfl,rfl⟩
noncomputable def clas (s:Tm) (r:Rl) (a:Tm) (nx:Nat):CR U:=⟨[fewR r=true],[],.tup [.agg [.int .i64 ((lasP s r a).1).Day.Year,.int .i64 ((lasP s r a).1).Day.Month,.int .i64 ((lasP s r a).1).Day.Date,.int .i64 ((lasP s r a).1).Hour,.int .i64 ((lasP s r a).1).Min,.int .i64 ((lasP s r a).1).Sec,blB ((lasP s r a).1).Bare,blB ((lasP s r a).1).UTC],blB ((lasP s r a).2.1),.err ((lasP s r a).2.2)],[]⟩
noncomputable def cla (a:List (SV U)) (nx:Nat):Option (CR U):=match a with | [.agg l_s,.agg l_r,.agg l_a]=>(y25.bk (.agg l_s)).bind fun s=>(y30.bk (.agg l_r)).bind fun r=>(y25.bk (.agg l_a)).bind fun a=>some (clas s r a nx) | _=>none
theorem cla_ok (args:List (SV U)) (nx:Nat) (c:CR U) (h:cla args nx=some c) (hp:args.all pureS=true) (ho:allP c.ob):ConOK NI52.P NI52.N NI52.T NI52.G 24 args nx c:=by
 unfold cla at h
 split at h
 . rename_i l_s l_r l_a
   obtain ⟨s,hb_s,h⟩:=Option.bind_eq_some_iff.1 h
   obtain ⟨r,hb_r,h⟩:=Option.bind_eq_some_iff.1 h
   obtain ⟨a,hb_a,h⟩:=Option.bind_eq_some_iff.1 h
   cases h
   exact ConOK.weak (b:=[.agg [.int .i64 s.Day.Year,.int .i64 s.Day.Month,.int .i64 s.Day.Date,.int .i64 s.Hour,.int .i64 s.Min,.int .i64 s.Sec,blB s.Bare,blB s.UTC],.agg [.int .i64 r.Freq,.int .i64 r.Interval,.int .i64 r.Count,.sl (N:=U) 25 r.Until,.sl (N:=U) 3 r.Month,.sl (N:=U) 3 r.WeekNo,.sl (N:=U) 3 r.YearDay,.sl (N:=U) 3 r.MonthDay,.sl (N:=U) 60 r.Days,.sl (N:=U) 3 r.Hour,.sl (N:=U) 3 r.Minute,.sl (N:=U) 3 r.Second,.sl (N:=U) 3 r.SetPos,.int .i64 r.Wkst],.agg [.int .i64 a.Day.Year,.int .i64 a.Day.Month,.int .i64 a.Day.Date,.int .i64 a.Hour,.int .i64 a.Min,.int .i64 a.Sec,blB a.Bare,blB a.UTC]]) (con3 NI52_ok (inlHN_ok NI52_ok H0_ok anla 4) Tryz.func24 (k1:=.val 25) (k2:=.bool) (k3:=.err) rfl rfl rfl (Vla_ok (pla s r a ho.1))) fun ρ Z w v hr=>tup_conv [.agg l_s,.agg l_r,.agg l_a] [.agg [.int .i64 s.Day.Year,.int .i64 s.Day.Month,.int .i64 s.Day.Date,.int .i64 s.Hour,.int .i64 s.Min,.int .i64 s.Sec,blB s.Bare,blB s.UTC],.agg [.int .i64 r.Freq,.int .i64 r.Interval,.int .i64 r.Count,.sl (N:=U) 25 r.Until,.sl (N:=U) 3 r.Month,.sl (N:=U) 3 r.WeekNo,.sl (N:=U) 3 r.YearDay,.sl (N:=U) 3 r.MonthDay,.sl (N:=U) 60 r.Days,.sl (N:=U) 3 r.Hour,.sl (N:=U) 3 r.Minute,.sl (N:=U) 3 r.Second,.sl (N:=U) 3 r.SetPos,.int .i64 r.Wkst],.agg [.int .i64 a.Day.Year,.int .i64 a.Day.Month,.int .i64 a.Day.Date,.int .i64 a.Hour,.int .i64 a.Min,.int .i64 a.Sec,blB a.Bare,blB a.UTC]] _ ⟨fun _ h=>agg_conv25 hb_s h,fun _ h=>agg_conv30 hb_r h,fun _ h=>agg_conv25 hb_a h,trivial⟩ hr
 . cases h
noncomputable def Nla:Env:=NI52.addC 24 cla
theorem Nla_ok:EnvOK Nla:=NI52_ok.addC Tryz.call24 cla_ok
end Go.Proofs.YtdjfeninmbpflaaGreat
end
section
namespace Go.Proofs.YtdjfeninmbpflaaGreat
open Go Go.Wk Go.Wl Go.Rx Go.Re 
attribute [local irreducible] vcFun
def anli:Nat->Ann:=fun | 26=>⟨38,fun _=>none,fun _=>none⟩ | _=>⟨0,fun _=>none,fun _=>none⟩
def Vli (s:Tm) (r:Rl) (a:Tm) (Q:Bool->Err->Prop):Prop :=
fewR (etR r)=true/\(¬fitsS (etT s) (etR r)=true ∨ ¬rightT (etT a)=true->Q false (Err.no (2:Int)))/\(¬(¬fitsS (etT s) (etR r)=true ∨ ¬rightT (etT a)=true)->fewR (etR r)=true/\((lasP (etT s) (etR r) (etT a)).snd.snd≠Err.nil->Q false (lasP (etT s) (etR r) (etT a)).snd.snd)/\(¬(lasP (etT s) (etR r) (etT a)).snd.snd≠Err.nil->Q (decide ((lasP (etT s) (etR r) (etT a)).snd.fst=true/\((lasP (etT s) (etR r) (etT a)).fst.Day.Year=a.Day.Year/\(lasP (etT s) (etR r) (etT a)).fst.Day.Month=a.Day.Month/\(lasP (etT s) (etR r) (etT a)).fst.Day.Date=a.Day.Date/\True)/\(lasP (etT s) (etR r) (etT a)).fst.Hour=a.Hour/\(lasP (etT s) (etR r) (etT a)).fst.Min=a.Min/\(lasP (etT s) (etR r) (etT a)).fst.Sec=a.Sec/\((lasP (etT s) (etR r) (etT a)).fst.Bare=true↔a.Bare=true)/\((lasP (etT s) (etR r) (etT a)).fst.UTC=true↔a.UTC=true)/\True)) Err.nil))
theorem Vli_eq {s:Tm} {r:Rl} {a:Tm} {Q:Bool->Err->Prop}:@Eq Prop (Vli s r a Q) (vcFun (E:=Nla) (inlHN Nla H0 anli 2) (anli 26) Tryz.f26 [.agg [.int .i64 s.Day.Year,.int .i64 s.Day.Month,.int .i64 s.Day.Date,.int .i64 s.Hour,.int .i64 s.Min,.int .i64 s.Sec,blB s.Bare,blB s.UTC],.agg [.int .i64 r.Freq,.int .i64 r.Interval,.int .i64 r.Count,.sl (N:=U) 25 r.Until,.sl (N:=U) 3 r.Month,.sl (N:=U) 3 r.WeekNo,.sl (N:=U) 3 r.YearDay,.sl (N:=U) 3 r.MonthDay,.sl (N:=U) 60 r.Days,.sl (N:=U) 3 r.Hour,.sl (N:=U) 3 r.Minute,.sl (N:=U) 3 r.Second,.sl (N:=U) 3 r.SetPos,.int .i64 r.Wkst],.agg [.int .i64 a.Day.Year,.int .i64 a.Day.Month,.int .i64 a.Day.Date,.int .i64 a.Hour,.int .i64 a.Min,.int .i64 a.Sec,blB a.Bare,blB a.UTC]] [] [] 0 (resP Nla [.bool,.err] Q)):=by kernel_rfl
theorem Vli_ok {s:Tm} {r:Rl} {a:Tm} {Q:Bool->Err->Prop} (h:Vli s r a Q):vcFun (E:=Nla) (inlHN Nla H0 anli 2) (anli 26) Tryz.f26 [.agg [.int .i64 s.Day.Year,.int .i64 s.Day.Month,.int .i64 s.Day.Date,.int .i64 s.Hour,.int .i64 s.Min,.int .i64 s.Sec,blB s.Bare,blB s.UTC],.agg [.int .i64 r.Freq,.int .i64 r.Interval,.int .i64 r.Count,.sl (N:=U) 25 r.Until,.sl (N:=U) 3 r.Month,.sl (N:=U) 3 r.WeekNo,.sl (N:=U) 3 r.YearDay,.sl (N:=U) 3 r.MonthDay,.sl (N:=U) 60 r.Days,.sl (N:=U) 3 r.Hour,.sl (N:=U) 3 r.Minute,.sl (N:=U) 3 r.Second,.sl (N:=U) 3 r.SetPos,.int .i64 r.Wkst],.agg [.int .i64 a.Day.Year,.int .i64 a.Day.Month,.int .i64 a.Day.Date,.int .i64 a.Hour,.int .i64 a.Min,.int .i64 a.Sec,blB a.Bare,blB a.UTC]] [] [] 0 (resP Nla [.bool,.err] Q):=by rw [<- Vli_eq]; exact h
set_option maxHeartbeats 2000000 in
theorem pli (s:Tm) (r:Rl) (a:Tm) (hfw:fewR r=true):Vli s r a (fun y0 y1=>y0=(isP s r a).1/\y1=(isP s r a).2):=by
 unfold Vli
 simp only [etT_eq,etR_eq,etD_eq,tm_eq]
 unfold isP
 refine ⟨hfw,fun h=>?_,fun h=>⟨hfw,fun h1=>?_,fun h1=>?_⟩⟩
 . have e:lasP s r a=(tm00,false,.no 2):=if_pos h
   rw [e,if_neg (fun e=>by cases e)]
   exact ⟨rfl,rfl⟩
 . rw [if_neg h1]; exact ⟨rfl,rfl⟩
 . rw [if_pos (Classical.not_not.1 h1)]
   exact ⟨decide_eq_decide.2 Iff.rfl,rfl⟩
noncomputable def clis (s:Tm) (r:Rl) (a:Tm) (nx:Nat):CR U:=⟨[fewR r=true],[],.tup [blB ((isP s r a).1),.err ((isP s r a).2)],[]⟩
noncomputable def cli (a:List (SV U)) (nx:Nat):Option (CR U):=match a with | [.agg l_s,.agg l_r,.agg l_a]=>(y25.bk (.agg l_s)).bind fun s=>(y30.bk (.agg l_r)).bind fun r=>(y25.bk (.agg l_a)).bind fun a=>some (clis s r a nx) | _=>none
theorem cli_ok (args:List (SV U)) (nx:Nat) (c:CR U) (h:cli args nx=some c) (hp:args.all pureS=true) (ho:allP c.ob):ConOK Nla.P Nla.N Nla.T Nla.G 26 args nx c:=by
 unfold cli at h
 split at h
 . rename_i l_s l_r l_a
   obtain ⟨s,hb_s,h⟩:=Option.bind_eq_some_iff.1 h
   obtain ⟨r,hb_r,h⟩:=Option.bind_eq_some_iff.1 h
   obtain ⟨a,hb_a,h⟩:=Option.bind_eq_some_iff.1 h
   cases h
   exact ConOK.weak (b:=[.agg [.int .i64 s.Day.Year,.int .i64 s.Day.Month,.int .i64 s.Day.Date,.int .i64 s.Hour,.int .i64 s.Min,.int .i64 s.Sec,blB s.Bare,blB s.UTC],.agg [.int .i64 r.Freq,.int .i64 r.Interval,.int .i64 r.Count,.sl (N:=U) 25 r.Until,.sl (N:=U) 3 r.Month,.sl (N:=U) 3 r.WeekNo,.sl (N:=U) 3 r.YearDay,.sl (N:=U) 3 r.MonthDay,.sl (N:=U) 60 r.Days,.sl (N:=U) 3 r.Hour,.sl (N:=U) 3 r.Minute,.sl (N:=U) 3 r.Second,.sl (N:=U) 3 r.SetPos,.int .i64 r.Wkst],.agg [.int .i64 a.Day.Year,.int .i64 a.Day.Month,.int .i64 a.Day.Date,.int .i64 a.Hour,.int .i64 a.Min,.int .i64 a.Sec,blB a.Bare,blB a.UTC]]) (con2 Nla_ok (inlHN_ok Nla_ok H0_ok anli 2) Tryz.func26 (k1:=.bool) (k2:=.err) rfl rfl (Vli_ok (pli s r a ho.1))) fun ρ Z w v hr=>tup_conv [.agg l_s,.agg l_r,.agg l_a] [.agg [.int .i64 s.Day.Year,.int .i64 s.Day.Month,.int .i64 s.Day.Date,.int .i64 s.Hour,.int .i64 s.Min,.int .i64 s.Sec,blB s.Bare,blB s.UTC],.agg [.int .i64 r.Freq,.int .i64 r.Interval,.int .i64 r.Count,.sl (N:=U) 25 r.Until,.sl (N:=U) 3 r.Month,.sl (N:=U) 3 r.WeekNo,.sl (N:=U) 3 r.YearDay,.sl (N:=U) 3 r.MonthDay,.sl (N:=U) 60 r.Days,.sl (N:=U) 3 r.Hour,.sl (N:=U) 3 r.Minute,.sl (N:=U) 3 r.Second,.sl (N:=U) 3 r.SetPos,.int .i64 r.Wkst],.agg [.int .i64 a.Day.Year,.int .i64 a.Day.Month,.int .i64 a.Day.Date,.int .i64 a.Hour,.int .i64 a.Min,.int .i64 a.Sec,blB a.Bare,blB a.UTC]] _ ⟨fun _ h=>agg_conv25 hb_s h,fun _ h=>agg_conv30 hb_r h,fun _ h=>agg_conv25 hb_a h,trivial⟩ hr
 . cases h
noncomputable def Nli:Env:=Nla.addC 26 cli
theorem Nli_ok:EnvOK Nli:=Nla_ok.addC Tryz.call26 cli_ok
end Go.Proofs.YtdjfeninmbpflaaGreat
end
section
namespace Go.Re
open Go Go.Wk Go.Wl Go.Rx
structure AtP (s:Tm) (u:Int):Prop where
 a:0<=u
 b:u<315537897600
 c:s.Bare=true->s.UTC=false/\u % 86400=0
structure AtR (s t:Tm) (u:Int):Prop where
 rt:rightT t=true
 se:secsT t=u
 ba:t.Bare=s.Bare
 ut:t.UTC=s.UTC
theorem atS_ok {s:Tm} {u:Int} (h:AtP s u):AtR s (atS u s) u:=by
 obtain ⟨a,b,c⟩:=h
 have hb:¬ (s.Bare=true/\(s.UTC=true ∨ u % 86400≠0)):=fun ⟨h1,h2⟩=>by
  obtain ⟨c1,c2⟩:=c h1
  rcases h2 with h2 | h2
  . rw [c1] at h2; cases h2
  . exact h2 c2
 have e:atS u s=⟨ofS (u / 86400+1),u % 86400 / 3600,u % 86400 / 60 % 60,u % 86400 % 60,s.Bare,s.UTC⟩:=by
  unfold atS
  rw [if_neg]
  rintro (h | h | h)
  . omega
  . exact hb h
  . omega
 obtain ⟨d1,d2⟩:=of_ok (n:=u / 86400+1) (by omega) (by omega)
 have hr:RightT ⟨ofS (u / 86400+1),u % 86400 / 3600,u % 86400 / 60 % 60,u % 86400 % 60,s.Bare,s.UTC⟩:=by
  refine ⟨d1,⟨?_,?_⟩,⟨?_,?_⟩,⟨?_,?_⟩,?_⟩
  . show 0<=u % 86400 / 3600; omega
  . show u % 86400 / 3600<=23; omega
  . show 0<=u % 86400 / 60 % 60; omega
  . show u % 86400 / 60 % 60<=59; omega
  . show 0<=u % 86400 % 60; omega
  . show u % 86400 % 60<=59; omega
  . rintro ⟨h1,h2⟩
    have h1:s.Bare=true:=h1
    obtain ⟨c1,c2⟩:=c h1
    rcases h2 with ((h2 | h2) | h2) | h2
    . have h2:u % 86400 / 3600≠0:=h2; omega
    . have h2:u % 86400 / 60 % 60≠0:=h2; omega
    . have h2:u % 86400 % 60≠0:=h2; omega
    . have h2:s.UTC=true:=h2
      rw [c1] at h2; cases h2
 rw [e]
 refine ⟨rightT_iff.2 hr,?_,rfl,rfl⟩
 have e2:secsT ⟨ofS (u / 86400+1),u % 86400 / 3600,u % 86400 / 60 % 60,u % 86400 % 60,s.Bare,s.UTC⟩=secsN ⟨ofS (u / 86400+1),u % 86400 / 3600,u % 86400 / 60 % 60,u % 86400 % 60,s.Bare,s.UTC⟩:=if_pos hr
 rw [e2]
 show (numD (ofS (u / 86400+1))-1) * 86400+u % 86400 / 3600 * 3600+u % 86400 / 60 % 60 * 60+u % 86400 % 60=u
 rw [d2]
 omega
theorem bare_0 {s:Tm} {r:Rl} (hF:FitsP s r) (hb:s.Bare=true):s.UTC=false/\s.Hour=0/\s.Min=0/\s.Sec=0:=by
 obtain ⟨_,_,_,_,h⟩:=rightT_iff.1 hF.rt
 have h:¬ (((s.Hour≠0 ∨ s.Min≠0) ∨ s.Sec≠0) ∨ s.UTC=true):=fun e=>h ⟨hb,e⟩
 refine ⟨?_,by omega,by omega,by omega⟩
 rw [<- Bool.not_eq_true]
 exact fun e=>h (.inr e)
theorem clk_bare {s:Tm} {r:Rl} {c:Int} (hF:FitsP s r) (hb:s.Bare=true) (h:c∈clkS s r):c=0:=by
 obtain ⟨k,m,x,⟨_,h1⟩,⟨_,h2⟩,⟨_,h3⟩,e⟩:=clkS_mem.1 h
 obtain ⟨_,b1,b2,b3⟩:=bare_0 hF hb
 obtain ⟨f,l1,l2,l3⟩:=hF.ba hb
 unfold hB at h1
 unfold mB at h2
 unfold sB at h3
 have e1:(k:Int)=0:=by
  rcases Int.lt_trichotomy (k:Int) 0 with q | q | q
  . omega
  . exact q
  . exact absurd (.inr ⟨⟨l1,by omega⟩,by omega⟩) h1
 have e2:(m:Int)=0:=by
  rcases Int.lt_trichotomy (m:Int) 0 with q | q | q
  . omega
  . exact q
  . exact absurd (.inr ⟨⟨l2,by omega⟩,by omega⟩) h2
 have e3:(x:Int)=0:=by
  rcases h3 with h3 | h3
  . omega
  . rcases h3.2 with q | q
    . omega
    . omega
 omega
section
variable {s:Tm} {r:Rl} {day t u to fr:Int}
theorem cand_at (hF:FitsP s r) {i:Int} (hl:LoP r i) (h:t∈candP s r day i):AtP s t/\idxP r t=i:=by
 obtain ⟨⟨_,h2⟩,h3,h4⟩:=cand_in hF h
 have h5:=cand_end hF hl h
 have h0:=(begP_rg (r:=r) hl.a).1
 refine ⟨⟨by omega,h5,fun hb=>⟨(bare_0 hF hb).1,clk_bare hF hb h2⟩⟩,?_⟩
 have a:=(beg_le hl (t:=t) (by omega) h5).1 h3
 have b:¬ i+1<=idxP r t:=fun e=>by
  have:=(beg_le (hl.up (j:=i+1) (by omega)) (t:=t) (by omega) h5).2 e
  omega
 omega
theorem first_at (hF:FitsP s r):AtP s (secsT s):=by
 obtain ⟨a,b⟩:=secs_rg hF.rt
 refine ⟨a,b,fun hb=>?_⟩
 obtain ⟨h0,h1,h2,h3⟩:=bare_0 hF hb
 have e:secsT s=secsN s:=if_pos (rightT_iff.1 hF.rt)
 refine ⟨h0,?_⟩
 rw [e]
 unfold secsN
 rw [h1,h2,h3]
 omega
structure InsT (s:Tm) (r:Rl) (day to t:Int):Prop where
 a:AtP s t
 b:t<to
 c:t=secsT s ∨ secsT s<t/\∃ j:Int,0<=j/\t∈candP s r day (idxP r (secsT s)+j * r.Interval)
theorem ins_t (hF:FitsP s r) (h0:0<=fr) (h:t∈(insS s r day fr to).1):InsT s r day to t:=by
 obtain ⟨a,b⟩:=secs_rg hF.rt
 obtain ⟨w0,w1⟩:=wk_ok hF
 have hI:=int_pos hF
 have lo:∀ j:Int,0<=j->LoP r (idxP r (secsT s)+j * r.Interval):=fun j hj=>(idx_lo (r:=r) a b w0 w1).up (by have:=Int.mul_nonneg hj (show 0<=r.Interval by omega); omega)
 have hk:=(k0_fact hF h0).1
 rw [(insS_eq (day:=day) (to:=to) hF hk).1] at h
 rcases List.mem_append.1 h with h | h
 . split at h
   . rename_i hlt
     cases List.mem_singleton.1 h
     exact ⟨first_at hF,hlt,.inl rfl⟩
   . cases h
 . obtain ⟨h1,h2⟩:=List.mem_filter.1 (lim_sub.subset h)
   have h2:=pt_iff.1 h2
   obtain ⟨j,j0,_,hj⟩:=perL_mem.1 h1
   exact ⟨(cand_at hF (lo j (by omega)) hj).1,h2.2.1,.inr ⟨h2.1,j,by omega,hj⟩⟩
theorem InsT.ge (h:InsT s r day to t):secsT s<=t:=by
 rcases h.c with e | e <;> omega
theorem InsT.mat (h:InsT s r (numS s.Day) to t) (hF:FitsP s r) (hn:t≠secsT s):matK s r t=true:=by
 obtain ⟨a,b⟩:=secs_rg hF.rt
 obtain ⟨w0,w1⟩:=wk_ok hF
 have hI:=int_pos hF
 obtain ⟨_,j,j0,hj⟩:=h.c.resolve_left hn
 have lo:LoP r (idxP r (secsT s)+j * r.Interval):=(idx_lo (r:=r) a b w0 w1).up (by have:=Int.mul_nonneg j0 (show 0<=r.Interval by omega); omega)
 have e:=(cand_at hF lo hj).2
 obtain ⟨h1,h2⟩:=(cand_in hF hj).1
 have e2:idxR r t-idxR r (secsT s)=j * r.Interval:=by unfold idxP at e; omega
 unfold matK
 rw [e2,h1,hasN_iff.2 h2,decide_eq_true ⟨Int.mul_nonneg j0 (by omega),Int.mul_emod_left ..⟩]
 rfl
end
structure Rise (s:Tm) (r:Rl) (a b:Tm) (l:List Tm) (x:Int):Prop where
 lo:secsT a<=secsT (ix l x)
 hi:secsT (ix l x)<secsT b
 up:0<x->secsT (ix l (x-1))<secsT (ix l x)
 ba:(ix l x).Bare=s.Bare
 ut:(ix l x).UTC=s.UTC
 ma:ix l x≠s->matR s r (ix l x)=true
 ge:secsT s<=secsT (ix l x)
 is:isP s r (ix l x)=(true,.nil)
theorem rise_law {s a b:Tm} {r:Rl} {x:Int} (h:(expP s r a b).2.nr=0) (h0:0<=x) (h1:x<(expP s r a b).1.length):Rise s r a b (expP s r a b).1 x:=by
 have hx:=exp_ok h
 obtain ⟨hF,ha,hb⟩:=bad_parts hx.bad
 have a0:=(secs_rg ha).1
 have b1:=secs_rg hb
 have hU:=ins_up (day:=numS s.Day) (to:=secsT b) hF a0
 have hT:=fun t=>ins_t (t:=t) (day:=numS s.Day) (to:=secsT b) hF a0
 have hI0:(insS s r (numS s.Day) 0 (secsT b)).1.filter (geB (secsT a))=(insX s r a b).1.filter (geB (secsT a)):=((ins_ge (day:=numS s.Day) (fr:=0) (m:=secsT a) (to:=secsT b) hF (Int.le_refl 0) a0).1).symm
 rw [exp_mk hx] at h1 ⊢
 dsimp only at h1 ⊢
 rw [frA_map] at h1 ⊢
 have hU2:=hU.filter (geB (secsT a))
 have hm:∀ u∈(insX s r a b).1.filter (geB (secsT a)),u∈(insS s r (numS s.Day) 0 (secsT b)).1/\secsT a<=u/\InsT s r (numS s.Day) (secsT b) u:=fun u hu=>by
  have h3:=hu
  rw [<- hI0] at h3
  have h2:=List.mem_filter.1 hu
  exact ⟨(List.mem_filter.1 h3).1,ge_iff.1 h2.2,hT u h2.1⟩
 generalize (insX s r a b).1.filter (geB (secsT a))=M at *
 have gx:∀ i:Int,0<=i->i<M.length->ix (M.map fun t=>atS t s) i=atS (ix M i) s:=fun i i0 i1=>by
  rw [ix_get (by rw [List.length_map]; omega),ix_get (by omega),List.getElem_map]
 rw [List.length_map] at h1
 obtain ⟨m1,m2,m3⟩:=hm _ (ix_memR h0 h1)
 have at1:=atS_ok m3.a
 refine ⟨?_,?_,fun hp=>?_,?_,?_,fun hn=>?_,?_,?_⟩
 . rw [gx x h0 h1,at1.se]; exact m2
 . rw [gx x h0 h1,at1.se]; exact m3.b
 . obtain ⟨_,_,p3⟩:=hm _ (ix_memR (l:=M) (i:=x-1) (by omega) (by omega))
   rw [gx x h0 h1,gx (x-1) (by omega) (by omega),at1.se,(atS_ok p3.a).se]
   have:=List.pairwise_iff_getElem.1 hU2 (x-1).toNat x.toNat (by omega) (by omega) (by omega)
   rw [ix_get (by omega),ix_get (by omega)]
   exact this
 . rw [gx x h0 h1]; exact at1.ba
 . rw [gx x h0 h1]; exact at1.ut
 . rw [gx x h0 h1] at hn ⊢
   unfold matR
   rw [if_neg,at1.se]
   . exact m3.mat hF fun e=>hn (by rw [e,at_self (rightT_iff.1 hF.rt)])
   . rintro (((e | e) | e) | e)
     . exact e (fits_iff.2 hF)
     . exact e at1.rt
     . exact e (by rw [at1.ba])
     . exact e (by rw [at1.ut])
 . rw [gx x h0 h1,at1.se]; exact m3.ge
 . rw [gx x h0 h1]
   have m3b:=m3.b
   have m3g:=m3.ge
   have hl:lasP s r (atS (ix M x) s)=(atS (ix M x) s,true,.nil):=by
    unfold lasP
    rw [at1.se,if_neg (fun e=>e.elim (fun e=>e (fits_iff.2 hF)) fun e=>e at1.rt),far_less hx.far (m:=ix M x+1) (by omega),if_neg Bool.false_ne_true,if_neg (by omega)]
    have q:=(ins_lt (day:=numS s.Day) (fr:=0) (m:=ix M x+1) (to:=secsT b) hF (Int.le_refl 0) (by omega)).1
    rw [last_of (x:=ix M x) (ins_up hF (Int.le_refl 0))]
    . rw [q]; exact List.mem_filter.2 ⟨m1,lt_iff.2 (by omega)⟩
    . intro t ht
      have:=(ins_t hF (Int.le_refl 0) ht).b
      omega
   unfold isP
   rw [hl,if_pos rfl]
   exact Prod.ext (decide_eq_true ⟨rfl,rfl⟩) rfl
end Go.Re
end
section
namespace Go.Proofs.YtdjfeninmbpflaaGreat
open Go Go.Wk Go.Wl Go.Rx Go.Re 
attribute [local irreducible] vcFun
def anlR:Nat->Ann:=fun | 9=>⟨139,fun | 7=>some ⟨[4,5,6,7,9,51,52],[.slot 53 (.int .i64)]⟩ | _=>none,fun _=>none⟩ | _=>⟨0,fun _=>none,fun _=>none⟩
def VlR (s:Tm) (r:Rl) (a:Tm) (b:Tm) (Q:Bool->Prop):Prop :=
((¬fewR (etR r)=true ∨ ¬nearS (etT a) (etR r) (etT b)=true) ∨ ¬nearS (etT s) (etR r) (etT a)=true->Q (decide (true=true)))/\(¬((¬fewR (etR r)=true ∨ ¬nearS (etT a) (etR r) (etT b)=true) ∨ ¬nearS (etT s) (etR r) (etT a)=true)->fewR (etR r)=true/\((expP (etT s) (etR r) (etT a) (etT b)).snd.nr≠0->Q (decide ((↑(expP (etT s) (etR r) (etT a) (etT b)).fst.length:Int)=0/\true=true)))/\(¬(expP (etT s) (etR r) (etT a) (etT b)).snd.nr≠0->∃ (I:Int->Prop),∃ (m:Int->Nat),I (0:Int)/\∀ (x:Int),I x->(x<(↑(expP (etT s) (etR r) (etT a) (etT b)).fst.length:Int)->(0:Int)<=x/\x<(↑(expP (etT s) (etR r) (etT a) (etT b)).fst.length:Int)/\(in64 (ix (expP (etT s) (etR r) (etT a) (etT b)).fst x).Day.Year->in64 (ix (expP (etT s) (etR r) (etT a) (etT b)).fst x).Day.Month->in64 (ix (expP (etT s) (etR r) (etT a) (etT b)).fst x).Day.Date->in64 (ix (expP (etT s) (etR r) (etT a) (etT b)).fst x).Hour->in64 (ix (expP (etT s) (etR r) (etT a) (etT b)).fst x).Min->in64 (ix (expP (etT s) (etR r) (etT a) (etT b)).fst x).Sec->(¬(secsT (etT (ix (expP (etT s) (etR r) (etT a) (etT b)).fst x))<secsT (etT a) ∨ secsT (etT b)<=secsT (etT (ix (expP (etT s) (etR r) (etT a) (etT b)).fst x)))/\(0:Int)<x->in64 (x-1))/\(¬(secsT (etT (ix (expP (etT s) (etR r) (etT a) (etT b)).fst x))<secsT (etT a) ∨ secsT (etT b)<=secsT (etT (ix (expP (etT s) (etR r) (etT a) (etT b)).fst x)))/\(0:Int)<x->(0:Int)<=x-1)/\(¬(secsT (etT (ix (expP (etT s) (etR r) (etT a) (etT b)).fst x))<secsT (etT a) ∨ secsT (etT b)<=secsT (etT (ix (expP (etT s) (etR r) (etT a) (etT b)).fst x)))/\(0:Int)<x->x-1<(↑(expP (etT s) (etR r) (etT a) (etT b)).fst.length:Int))/\((¬(secsT (etT (ix (expP (etT s) (etR r) (etT a) (etT b)).fst x))<secsT (etT a) ∨ secsT (etT b)<=secsT (etT (ix (expP (etT s) (etR r) (etT a) (etT b)).fst x)))/\(0:Int)<x->in64 (ix (expP (etT s) (etR r) (etT a) (etT b)).fst (x-1)).Day.Year)->(¬(secsT (etT (ix (expP (etT s) (etR r) (etT a) (etT b)).fst x))<secsT (etT a) ∨ secsT (etT b)<=secsT (etT (ix (expP (etT s) (etR r) (etT a) (etT b)).fst x)))/\(0:Int)<x->in64 (ix (expP (etT s) (etR r) (etT a) (etT b)).fst (x-1)).Day.Month)->(¬(secsT (etT (ix (expP (etT s) (etR r) (etT a) (etT b)).fst x))<secsT (etT a) ∨ secsT (etT b)<=secsT (etT (ix (expP (etT s) (etR r) (etT a) (etT b)).fst x)))/\(0:Int)<x->in64 (ix (expP (etT s) (etR r) (etT a) (etT b)).fst (x-1)).Day.Date)->(¬(secsT (etT (ix (expP (etT s) (etR r) (etT a) (etT b)).fst x))<secsT (etT a) ∨ secsT (etT b)<=secsT (etT (ix (expP (etT s) (etR r) (etT a) (etT b)).fst x)))/\(0:Int)<x->in64 (ix (expP (etT s) (etR r) (etT a) (etT b)).fst (x-1)).Hour)->(¬(secsT (etT (ix (expP (etT s) (etR r) (etT a) (etT b)).fst x))<secsT (etT a) ∨ secsT (etT b)<=secsT (etT (ix (expP (etT s) (etR r) (etT a) (etT b)).fst x)))/\(0:Int)<x->in64 (ix (expP (etT s) (etR r) (etT a) (etT b)).fst (x-1)).Min)->(¬(secsT (etT (ix (expP (etT s) (etR r) (etT a) (etT b)).fst x))<secsT (etT a) ∨ secsT (etT b)<=secsT (etT (ix (expP (etT s) (etR r) (etT a) (etT b)).fst x)))/\(0:Int)<x->in64 (ix (expP (etT s) (etR r) (etT a) (etT b)).fst (x-1)).Sec)->((((secsT (etT (ix (expP (etT s) (etR r) (etT a) (etT b)).fst x))<secsT (etT a) ∨ secsT (etT b)<=secsT (etT (ix (expP (etT s) (etR r) (etT a) (etT b)).fst x))) ∨ (0:Int)<x/\secsT (etT (ix (expP (etT s) (etR r) (etT a) (etT b)).fst x))<=secsT (etT (ix (expP (etT s) (etR r) (etT a) (etT b)).fst (x-1)))) ∨ ¬((ix (expP (etT s) (etR r) (etT a) (etT b)).fst x).Bare=true↔s.Bare=true)) ∨ ¬((ix (expP (etT s) (etR r) (etT a) (etT b)).fst x).UTC=true↔s.UTC=true)->Q false)/\(¬((((secsT (etT (ix (expP (etT s) (etR r) (etT a) (etT b)).fst x))<secsT (etT a) ∨ secsT (etT b)<=secsT (etT (ix (expP (etT s) (etR r) (etT a) (etT b)).fst x))) ∨ (0:Int)<x/\secsT (etT (ix (expP (etT s) (etR r) (etT a) (etT b)).fst x))<=secsT (etT (ix (expP (etT s) (etR r) (etT a) (etT b)).fst (x-1)))) ∨ ¬((ix (expP (etT s) (etR r) (etT a) (etT b)).fst x).Bare=true↔s.Bare=true)) ∨ ¬((ix (expP (etT s) (etR r) (etT a) (etT b)).fst x).UTC=true↔s.UTC=true))->(¬(((ix (expP (etT s) (etR r) (etT a) (etT b)).fst x).Day.Year=s.Day.Year/\(ix (expP (etT s) (etR r) (etT a) (etT b)).fst x).Day.Month=s.Day.Month/\(ix (expP (etT s) (etR r) (etT a) (etT b)).fst x).Day.Date=s.Day.Date/\True)/\(ix (expP (etT s) (etR r) (etT a) (etT b)).fst x).Hour=s.Hour/\(ix (expP (etT s) (etR r) (etT a) (etT b)).fst x).Min=s.Min/\(ix (expP (etT s) (etR r) (etT a) (etT b)).fst x).Sec=s.Sec/\((ix (expP (etT s) (etR r) (etT a) (etT b)).fst x).Bare=true↔s.Bare=true)/\((ix (expP (etT s) (etR r) (etT a) (etT b)).fst x).UTC=true↔s.UTC=true)/\True)->fewR (etR r)=true)/\(¬(((ix (expP (etT s) (etR r) (etT a) (etT b)).fst x).Day.Year=s.Day.Year/\(ix (expP (etT s) (etR r) (etT a) (etT b)).fst x).Day.Month=s.Day.Month/\(ix (expP (etT s) (etR r) (etT a) (etT b)).fst x).Day.Date=s.Day.Date/\True)/\(ix (expP (etT s) (etR r) (etT a) (etT b)).fst x).Hour=s.Hour/\(ix (expP (etT s) (etR r) (etT a) (etT b)).fst x).Min=s.Min/\(ix (expP (etT s) (etR r) (etT a) (etT b)).fst x).Sec=s.Sec/\((ix (expP (etT s) (etR r) (etT a) (etT b)).fst x).Bare=true↔s.Bare=true)/\((ix (expP (etT s) (etR r) (etT a) (etT b)).fst x).UTC=true↔s.UTC=true)/\True)/\¬matR (etT s) (etR r) (etT (ix (expP (etT s) (etR r) (etT a) (etT b)).fst x))=true ∨ secsT (etT (ix (expP (etT s) (etR r) (etT a) (etT b)).fst x))<secsT (etT s)->Q false)/\(¬(¬(((ix (expP (etT s) (etR r) (etT a) (etT b)).fst x).Day.Year=s.Day.Year/\(ix (expP (etT s) (etR r) (etT a) (etT b)).fst x).Day.Month=s.Day.Month/\(ix (expP (etT s) (etR r) (etT a) (etT b)).fst x).Day.Date=s.Day.Date/\True)/\(ix (expP (etT s) (etR r) (etT a) (etT b)).fst x).Hour=s.Hour/\(ix (expP (etT s) (etR r) (etT a) (etT b)).fst x).Min=s.Min/\(ix (expP (etT s) (etR r) (etT a) (etT b)).fst x).Sec=s.Sec/\((ix (expP (etT s) (etR r) (etT a) (etT b)).fst x).Bare=true↔s.Bare=true)/\((ix (expP (etT s) (etR r) (etT a) (etT b)).fst x).UTC=true↔s.UTC=true)/\True)/\¬matR (etT s) (etR r) (etT (ix (expP (etT s) (etR r) (etT a) (etT b)).fst x))=true ∨ secsT (etT (ix (expP (etT s) (etR r) (etT a) (etT b)).fst x))<secsT (etT s))->(¬x<4->in64 ((↑(expP (etT s) (etR r) (etT a) (etT b)).fst.length:Int)-1))/\(x<4 ∨ x=(↑(expP (etT s) (etR r) (etT a) (etT b)).fst.length:Int)-1->fewR (etR r)=true/\(¬(isP (etT s) (etR r) (etT (ix (expP (etT s) (etR r) (etT a) (etT b)).fst x))).fst=true ∨ (isP (etT s) (etR r) (etT (ix (expP (etT s) (etR r) (etT a) (etT b)).fst x))).snd.nr≠0->Q false)/\(¬(¬(isP (etT s) (etR r) (etT (ix (expP (etT s) (etR r) (etT a) (etT b)).fst x))).fst=true ∨ (isP (etT s) (etR r) (etT (ix (expP (etT s) (etR r) (etT a) (etT b)).fst x))).snd.nr≠0)->in64 (x+1)/\I (x+1)/\m (x+1)<m x))/\(¬(x<4 ∨ x=(↑(expP (etT s) (etR r) (etT a) (etT b)).fst.length:Int)-1)->in64 (x+1)/\I (x+1)/\m (x+1)<m x))))))/\(¬x<(↑(expP (etT s) (etR r) (etT a) (etT b)).fst.length:Int)->Q (decide (true=true)))))
theorem VlR_eq {s:Tm} {r:Rl} {a:Tm} {b:Tm} {Q:Bool->Prop}:@Eq Prop (VlR s r a b Q) (vcFun (E:=Nli) (inlHN Nli H0 anlR 2) (anlR 9) Tryz.f9 [.agg [.int .i64 s.Day.Year,.int .i64 s.Day.Month,.int .i64 s.Day.Date,.int .i64 s.Hour,.int .i64 s.Min,.int .i64 s.Sec,blB s.Bare,blB s.UTC],.agg [.int .i64 r.Freq,.int .i64 r.Interval,.int .i64 r.Count,.sl (N:=U) 25 r.Until,.sl (N:=U) 3 r.Month,.sl (N:=U) 3 r.WeekNo,.sl (N:=U) 3 r.YearDay,.sl (N:=U) 3 r.MonthDay,.sl (N:=U) 60 r.Days,.sl (N:=U) 3 r.Hour,.sl (N:=U) 3 r.Minute,.sl (N:=U) 3 r.Second,.sl (N:=U) 3 r.SetPos,.int .i64 r.Wkst],.agg [.int .i64 a.Day.Year,.int .i64 a.Day.Month,.int .i64 a.Day.Date,.int .i64 a.Hour,.int .i64 a.Min,.int .i64 a.Sec,blB a.Bare,blB a.UTC],.agg [.int .i64 b.Day.Year,.int .i64 b.Day.Month,.int .i64 b.Day.Date,.int .i64 b.Hour,.int .i64 b.Min,.int .i64 b.Sec,blB b.Bare,blB b.UTC]] [] [] 0 (resP Nli [.bool] Q)):=by kernel_rfl
theorem VlR_ok {s:Tm} {r:Rl} {a:Tm} {b:Tm} {Q:Bool->Prop} (h:VlR s r a b Q):vcFun (E:=Nli) (inlHN Nli H0 anlR 2) (anlR 9) Tryz.f9 [.agg [.int .i64 s.Day.Year,.int .i64 s.Day.Month,.int .i64 s.Day.Date,.int .i64 s.Hour,.int .i64 s.Min,.int .i64 s.Sec,blB s.Bare,blB s.UTC],.agg [.int .i64 r.Freq,.int .i64 r.Interval,.int .i64 r.Count,.sl (N:=U) 25 r.Until,.sl (N:=U) 3 r.Month,.sl (N:=U) 3 r.WeekNo,.sl (N:=U) 3 r.YearDay,.sl (N:=U) 3 r.MonthDay,.sl (N:=U) 60 r.Days,.sl (N:=U) 3 r.Hour,.sl (N:=U) 3 r.Minute,.sl (N:=U) 3 r.Second,.sl (N:=U) 3 r.SetPos,.int .i64 r.Wkst],.agg [.int .i64 a.Day.Year,.int .i64 a.Day.Month,.int .i64 a.Day.Date,.int .i64 a.Hour,.int .i64 a.Min,.int .i64 a.Sec,blB a.Bare,blB a.UTC],.agg [.int .i64 b.Day.Year,.int .i64 b.Day.Month,.int .i64 b.Day.Date,.int .i64 b.Hour,.int .i64 b.Min,.int .i64 b.Sec,blB b.Bare,blB b.UTC]] [] [] 0 (resP Nli [.bool] Q):=by rw [<- VlR_eq]; exact h
theorem plR (s:Tm) (r:Rl) (a:Tm) (b:Tm)  : VlR s r a b (fun y0=>y0=true):=by
 unfold VlR
 simp only [etT_eq,etR_eq,tm_eq]
 refine ⟨fun _=>rfl,fun h=>?_⟩
 have hfw:fewR r=true:=Classical.not_not.1 fun e=>h (.inl (.inl e))
 refine ⟨hfw,fun hz=>?_,fun hz=>?_⟩
 . rcases exp_cases (s:=s) (r:=r) (a:=a) (b:=b) with e | ⟨e,_⟩
   . exact absurd (by rw [exp_mk e]; show Err.nil.nr=0; decide) hz
   . rw [e]; exact decide_eq_true ⟨rfl,trivial⟩
 have hz:=Classical.not_not.1 hz
 have hl:=exp_len (s:=s) (r:=r) (a:=a) (b:=b)
 have hR:=fun x h0 h1=>rise_law (x:=x) hz h0 h1
 generalize (expP s r a b).1=l at *
 refine ⟨fun x=>0<=x/\x<=(l.length:Int),fun x=>((l.length:Int)-x).toNat,⟨Int.le_refl 0,by omega⟩,?_⟩
 rintro x ⟨x0,x1⟩
 refine ⟨fun hx=>?_,fun _=>rfl⟩
 have R:=hR x x0 hx
 have lt:((l.length:Int)-(x+1)).toNat<((l.length:Int)-x).toNat:=by omega
 have nx:in64 (x+1)/\(0<=x+1/\x+1<=(l.length:Int))/\((l.length:Int)-(x+1)).toNat<((l.length:Int)-x).toNat:=⟨⟨by omega,by omega⟩,⟨by omega,by omega⟩,lt⟩
 have lo:=R.lo
 have hi:=R.hi
 have ge:=R.ge
 refine ⟨x0,hx,fun _ _ _ _ _ _=>⟨fun _=>⟨by omega,by omega⟩,fun hh=>by omega,fun hh=>by omega,fun _ _ _ _ _ _=>⟨fun hb=>?_,fun _=>⟨fun _=>hfw,fun hb=>?_,fun _=>⟨fun _=>⟨by omega,by omega⟩,fun _=>⟨hfw,fun hb=>?_,fun _=>nx⟩,fun _=>nx⟩⟩⟩⟩⟩
 . exfalso
   rcases hb with ((hb | hb) | hb) | hb
   . omega
   . have:=R.up hb.1; omega
   . exact hb (by rw [R.ba])
   . exact hb (by rw [R.ut])
 . exfalso
   rcases hb with hb | hb
   . exact hb.2 (R.ma hb.1)
   . omega
 . exfalso
   rw [R.is] at hb
   rcases hb with hb | hb
   . exact hb rfl
   . exact hb (by show Err.nil.nr=0; decide)
end Go.Proofs.YtdjfeninmbpflaaGreat
end
section
namespace Go.Proofs.YtdjfeninmbpflaaGreat
open Go Go.Wk Go.Wl Go.Rx Go.RowKit Go.ChangeShapes Go.WideShapes Go.Re
theorem laid0:laidOutB Tryz.prog=true:=by kernel_rfl
theorem own0:ownKnob Tryz.prog.godebug=none:=by kernel_rfl
theorem read0 {P:Program} {ts:List TypeId} (h:(ts.all fun t=>P.readableRec t && decide (t<P.types.size))=true):∀ t∈ts,P.readableRec t=true/\t<P.types.size:=fun t ht=>by
 have:=List.all_eq_true.1 h t ht
 rw [Bool.and_eq_true,decide_eq_true_eq] at this
 exact this
theorem opens_dDy:OpensD Tryz.prog 23 dDy:=fun {H enc fuel w sp cs x} h=>by
 obtain ⟨xs,n,_,_,hlen,hxl,hget⟩:=DataW.trod_struct Tryz.underlying23 h
 have hz:Tryz.prog.cellsOf 23=3:=by kernel_rfl
 rw [hz] at hlen
 have z3:Tryz.prog.cellsOf 3=1:=by kernel_rfl
 have g0:DataW.trod enc Tryz.prog w 0 sp true n 3 ((cs.drop 0).take (Tryz.prog.cellsOf 3))=xs[0]? := hget 0 _ rfl
 rw [List.getElem?_eq_getElem (by rw [hxl]; decide),z3] at g0
 obtain ⟨y0,k0⟩:=(opensD_int Tryz.underlying3) g0
 have g1:DataW.trod enc Tryz.prog w 0 sp true n 3 ((cs.drop 1).take (Tryz.prog.cellsOf 3))=xs[1]? := hget 1 _ rfl
 rw [List.getElem?_eq_getElem (by rw [hxl]; decide),z3] at g1
 obtain ⟨y1,k1⟩:=(opensD_int Tryz.underlying3) g1
 have g2:DataW.trod enc Tryz.prog w 0 sp true n 3 ((cs.drop 2).take (Tryz.prog.cellsOf 3))=xs[2]? := hget 2 _ rfl
 rw [List.getElem?_eq_getElem (by rw [hxl]; decide),z3] at g2
 obtain ⟨y2,k2⟩:=(opensD_int Tryz.underlying3) g2
 have q:cs=(cs.drop 0).take (1+(1+(1))):=wholeL hlen
 exact ⟨⟨y0,y1,y2⟩,_,_,_,q.trans (cutL.trans (congrArg _ cutL)),k0,k1,k2⟩
theorem opens_dTm:OpensD Tryz.prog 25 dTm:=fun {H enc fuel w sp cs x} h=>by
 obtain ⟨xs,n,_,_,hlen,hxl,hget⟩:=DataW.trod_struct Tryz.underlying25 h
 have hz:Tryz.prog.cellsOf 25=8:=by kernel_rfl
 rw [hz] at hlen
 have z3:Tryz.prog.cellsOf 3=1:=by kernel_rfl
 have z4:Tryz.prog.cellsOf 4=1:=by kernel_rfl
 have z23:Tryz.prog.cellsOf 23=3:=by kernel_rfl
 have g0:DataW.trod enc Tryz.prog w 0 sp true n 23 ((cs.drop 0).take (Tryz.prog.cellsOf 23))=xs[0]? := hget 0 _ rfl
 rw [List.getElem?_eq_getElem (by rw [hxl]; decide),z23] at g0
 obtain ⟨y0,k0⟩:=opens_dDy g0
 have g1:DataW.trod enc Tryz.prog w 0 sp true n 3 ((cs.drop 3).take (Tryz.prog.cellsOf 3))=xs[1]? := hget 1 _ rfl
 rw [List.getElem?_eq_getElem (by rw [hxl]; decide),z3] at g1
 obtain ⟨y1,k1⟩:=(opensD_int Tryz.underlying3) g1
 have g2:DataW.trod enc Tryz.prog w 0 sp true n 3 ((cs.drop 4).take (Tryz.prog.cellsOf 3))=xs[2]? := hget 2 _ rfl
 rw [List.getElem?_eq_getElem (by rw [hxl]; decide),z3] at g2
 obtain ⟨y2,k2⟩:=(opensD_int Tryz.underlying3) g2
 have g3:DataW.trod enc Tryz.prog w 0 sp true n 3 ((cs.drop 5).take (Tryz.prog.cellsOf 3))=xs[3]? := hget 3 _ rfl
 rw [List.getElem?_eq_getElem (by rw [hxl]; decide),z3] at g3
 obtain ⟨y3,k3⟩:=(opensD_int Tryz.underlying3) g3
 have g4:DataW.trod enc Tryz.prog w 0 sp true n 4 ((cs.drop 6).take (Tryz.prog.cellsOf 4))=xs[4]? := hget 4 _ rfl
 rw [List.getElem?_eq_getElem (by rw [hxl]; decide),z4] at g4
 obtain ⟨y4,k4⟩:=(opensD_bool Tryz.underlying4) g4
 have g5:DataW.trod enc Tryz.prog w 0 sp true n 4 ((cs.drop 7).take (Tryz.prog.cellsOf 4))=xs[5]? := hget 5 _ rfl
 rw [List.getElem?_eq_getElem (by rw [hxl]; decide),z4] at g5
 obtain ⟨y5,k5⟩:=(opensD_bool Tryz.underlying4) g5
 have q:cs=(cs.drop 0).take (3+(1+(1+(1+(1+(1)))))):=wholeL hlen
 exact ⟨⟨y0,y1,y2,y3,y4,y5⟩,_,_,_,_,_,_,q.trans (cutL.trans (congrArg _ (cutL.trans (congrArg _ (cutL.trans (congrArg _ (cutL.trans (congrArg _ cutL)))))))),k0,k1,k2,k3,k4,k5⟩
theorem opens_dNt:OpensD Tryz.prog 60 dNt:=fun {H enc fuel w sp cs x} h=>by
 obtain ⟨xs,n,_,_,hlen,hxl,hget⟩:=DataW.trod_struct Tryz.underlying60 h
 have hz:Tryz.prog.cellsOf 60=2:=by kernel_rfl
 rw [hz] at hlen
 have z3:Tryz.prog.cellsOf 3=1:=by kernel_rfl
 have g0:DataW.trod enc Tryz.prog w 0 sp true n 3 ((cs.drop 0).take (Tryz.prog.cellsOf 3))=xs[0]? := hget 0 _ rfl
 rw [List.getElem?_eq_getElem (by rw [hxl]; decide),z3] at g0
 obtain ⟨y0,k0⟩:=(opensD_int Tryz.underlying3) g0
 have g1:DataW.trod enc Tryz.prog w 0 sp true n 3 ((cs.drop 1).take (Tryz.prog.cellsOf 3))=xs[1]? := hget 1 _ rfl
 rw [List.getElem?_eq_getElem (by rw [hxl]; decide),z3] at g1
 obtain ⟨y1,k1⟩:=(opensD_int Tryz.underlying3) g1
 have q:cs=(cs.drop 0).take (1+(1)):=wholeL hlen
 exact ⟨⟨y0,y1⟩,_,_,q.trans cutL,k0,k1⟩
theorem opens_dRl:OpensD Tryz.prog 30 dRl:=fun {H enc fuel w sp cs x} h=>by
 obtain ⟨xs,n,_,_,hlen,hxl,hget⟩:=DataW.trod_struct Tryz.underlying30 h
 have hz:Tryz.prog.cellsOf 30=14:=by kernel_rfl
 rw [hz] at hlen
 have z3:Tryz.prog.cellsOf 3=1:=by kernel_rfl
 have z26:Tryz.prog.cellsOf 26=1:=by kernel_rfl
 have z27:Tryz.prog.cellsOf 27=1:=by kernel_rfl
 have z28:Tryz.prog.cellsOf 28=1:=by kernel_rfl
 have g0:DataW.trod enc Tryz.prog w 0 sp true n 3 ((cs.drop 0).take (Tryz.prog.cellsOf 3))=xs[0]? := hget 0 _ rfl
 rw [List.getElem?_eq_getElem (by rw [hxl]; decide),z3] at g0
 obtain ⟨y0,k0⟩:=(opensD_int Tryz.underlying3) g0
 have g1:DataW.trod enc Tryz.prog w 0 sp true n 3 ((cs.drop 1).take (Tryz.prog.cellsOf 3))=xs[1]? := hget 1 _ rfl
 rw [List.getElem?_eq_getElem (by rw [hxl]; decide),z3] at g1
 obtain ⟨y1,k1⟩:=(opensD_int Tryz.underlying3) g1
 have g2:DataW.trod enc Tryz.prog w 0 sp true n 3 ((cs.drop 2).take (Tryz.prog.cellsOf 3))=xs[2]? := hget 2 _ rfl
 rw [List.getElem?_eq_getElem (by rw [hxl]; decide),z3] at g2
 obtain ⟨y2,k2⟩:=(opensD_int Tryz.underlying3) g2
 have g3:DataW.trod enc Tryz.prog w 0 sp true n 26 ((cs.drop 3).take (Tryz.prog.cellsOf 26))=xs[3]? := hget 3 _ rfl
 rw [List.getElem?_eq_getElem (by rw [hxl]; decide),z26] at g3
 obtain ⟨y3,k3⟩:=(opensD_slice Tryz.underlying26 (by kernel_rfl) (by decide) opens_dTm) g3
 have g4:DataW.trod enc Tryz.prog w 0 sp true n 27 ((cs.drop 4).take (Tryz.prog.cellsOf 27))=xs[4]? := hget 4 _ rfl
 rw [List.getElem?_eq_getElem (by rw [hxl]; decide),z27] at g4
 obtain ⟨y4,k4⟩:=(opensD_slice Tryz.underlying27 (by kernel_rfl) (by decide) (opensD_int Tryz.underlying3)) g4
 have g5:DataW.trod enc Tryz.prog w 0 sp true n 27 ((cs.drop 5).take (Tryz.prog.cellsOf 27))=xs[5]? := hget 5 _ rfl
 rw [List.getElem?_eq_getElem (by rw [hxl]; decide),z27] at g5
 obtain ⟨y5,k5⟩:=(opensD_slice Tryz.underlying27 (by kernel_rfl) (by decide) (opensD_int Tryz.underlying3)) g5
 have g6:DataW.trod enc Tryz.prog w 0 sp true n 27 ((cs.drop 6).take (Tryz.prog.cellsOf 27))=xs[6]? := hget 6 _ rfl
 rw [List.getElem?_eq_getElem (by rw [hxl]; decide),z27] at g6
 obtain ⟨y6,k6⟩:=(opensD_slice Tryz.underlying27 (by kernel_rfl) (by decide) (opensD_int Tryz.underlying3)) g6
 have g7:DataW.trod enc Tryz.prog w 0 sp true n 27 ((cs.drop 7).take (Tryz.prog.cellsOf 27))=xs[7]? := hget 7 _ rfl
 rw [List.getElem?_eq_getElem (by rw [hxl]; decide),z27] at g7
 obtain ⟨y7,k7⟩:=(opensD_slice Tryz.underlying27 (by kernel_rfl) (by decide) (opensD_int Tryz.underlying3)) g7
 have g8:DataW.trod enc Tryz.prog w 0 sp true n 28 ((cs.drop 8).take (Tryz.prog.cellsOf 28))=xs[8]? := hget 8 _ rfl
 rw [List.getElem?_eq_getElem (by rw [hxl]; decide),z28] at g8
 obtain ⟨y8,k8⟩:=(opensD_slice Tryz.underlying28 (by kernel_rfl) (by decide) opens_dNt) g8
 have g9:DataW.trod enc Tryz.prog w 0 sp true n 27 ((cs.drop 9).take (Tryz.prog.cellsOf 27))=xs[9]? := hget 9 _ rfl
 rw [List.getElem?_eq_getElem (by rw [hxl]; decide),z27] at g9
 obtain ⟨y9,k9⟩:=(opensD_slice Tryz.underlying27 (by kernel_rfl) (by decide) (opensD_int Tryz.underlying3)) g9
 have g10:DataW.trod enc Tryz.prog w 0 sp true n 27 ((cs.drop 10).take (Tryz.prog.cellsOf 27))=xs[10]? := hget 10 _ rfl
 rw [List.getElem?_eq_getElem (by rw [hxl]; decide),z27] at g10
 obtain ⟨y10,k10⟩:=(opensD_slice Tryz.underlying27 (by kernel_rfl) (by decide) (opensD_int Tryz.underlying3)) g10
 have g11:DataW.trod enc Tryz.prog w 0 sp true n 27 ((cs.drop 11).take (Tryz.prog.cellsOf 27))=xs[11]? := hget 11 _ rfl
 rw [List.getElem?_eq_getElem (by rw [hxl]; decide),z27] at g11
 obtain ⟨y11,k11⟩:=(opensD_slice Tryz.underlying27 (by kernel_rfl) (by decide) (opensD_int Tryz.underlying3)) g11
 have g12:DataW.trod enc Tryz.prog w 0 sp true n 27 ((cs.drop 12).take (Tryz.prog.cellsOf 27))=xs[12]? := hget 12 _ rfl
 rw [List.getElem?_eq_getElem (by rw [hxl]; decide),z27] at g12
 obtain ⟨y12,k12⟩:=(opensD_slice Tryz.underlying27 (by kernel_rfl) (by decide) (opensD_int Tryz.underlying3)) g12
 have g13:DataW.trod enc Tryz.prog w 0 sp true n 3 ((cs.drop 13).take (Tryz.prog.cellsOf 3))=xs[13]? := hget 13 _ rfl
 rw [List.getElem?_eq_getElem (by rw [hxl]; decide),z3] at g13
 obtain ⟨y13,k13⟩:=(opensD_int Tryz.underlying3) g13
 have q:cs=(cs.drop 0).take (1+(1+(1+(1+(1+(1+(1+(1+(1+(1+(1+(1+(1+(1)))))))))))))):=wholeL hlen
 exact ⟨⟨y0,y1,y2,y3,y4,y5,y6,y7,y8,y9,y10,y11,y12,y13⟩,_,_,_,_,_,_,_,_,_,_,_,_,_,_,q.trans (cutL.trans (congrArg _ (cutL.trans (congrArg _ (cutL.trans (congrArg _ (cutL.trans (congrArg _ (cutL.trans (congrArg _ (cutL.trans (congrArg _ (cutL.trans (congrArg _ (cutL.trans (congrArg _ (cutL.trans (congrArg _ (cutL.trans (congrArg _ (cutL.trans (congrArg _ (cutL.trans (congrArg _ cutL)))))))))))))))))))))))),k0,k1,k2,k3,k4,k5,k6,k7,k8,k9,k10,k11,k12,k13⟩
theorem bool_true {Z:Nat->Prop} {W:World} {v:Value} (h:Rep U eT (fun _=>none) Z W v (blB true)):v=.bool true:=by
 cases h with | bl=>rfl
theorem agg_of {v:Value} {n:Nat} (h:v.cells.toList.length=n+2):∃ cs:List Value,v=.agg cs.toArray/\v.cells.toList=cs:=by
 cases v with
 | agg cs=>exact ⟨cs.toList,by simp,rfl⟩
 | _=>simp [Value.cells] at h
theorem rep_T {H:Type} {enc:TypeId×Value->H} {W:World} {sp:Nat->Bool} {v:Value} {d:DataW H} {ps:List MemPlace} (h:DataW.Trod enc Tryz.prog W 0 sp true 25 v d ps):∃ y:Tm,Rep U eT (fun _=>none) (fun b=>b<W.heap.size) W v (.agg [.int .i64 y.Day.Year,.int .i64 y.Day.Month,.int .i64 y.Day.Date,.int .i64 y.Hour,.int .i64 y.Min,.int .i64 y.Sec,blB y.Bare,blB y.UTC]):=by
 obtain ⟨n,h⟩:=h
 obtain ⟨y,k⟩:=opens_dTm h
 have k:=Rd.weak (D':=fun b=>b<W.heap.size) _ k (fun _ _ hb=>hb)
 obtain ⟨cs,e1,e2⟩:=agg_of (n:=6) (Rd.len _ k)
 rw [e2] at k
 exact ⟨y,by rw [e1]; exact y25.sv_ok k⟩
theorem rep_R {H:Type} {enc:TypeId×Value->H} {W:World} {sp:Nat->Bool} {v:Value} {d:DataW H} {ps:List MemPlace} (h:DataW.Trod enc Tryz.prog W 0 sp true 30 v d ps):∃ y:Rl,Rep U eT (fun _=>none) (fun b=>b<W.heap.size) W v (.agg [.int .i64 y.Freq,.int .i64 y.Interval,.int .i64 y.Count,.sl (N:=U) 25 y.Until,.sl (N:=U) 3 y.Month,.sl (N:=U) 3 y.WeekNo,.sl (N:=U) 3 y.YearDay,.sl (N:=U) 3 y.MonthDay,.sl (N:=U) 60 y.Days,.sl (N:=U) 3 y.Hour,.sl (N:=U) 3 y.Minute,.sl (N:=U) 3 y.Second,.sl (N:=U) 3 y.SetPos,.int .i64 y.Wkst]):=by
 obtain ⟨n,h⟩:=h
 obtain ⟨y,k⟩:=opens_dRl h
 have k:=Rd.weak (D':=fun b=>b<W.heap.size) _ k (fun _ _ hb=>hb)
 obtain ⟨cs,e1,e2⟩:=agg_of (n:=12) (Rd.len _ k)
 rw [e2] at k
 exact ⟨y,by rw [e1]; exact y30.sv_ok k⟩
end Go.Proofs.YtdjfeninmbpflaaGreat
end
