/- 36 texts, one behind the other. -/
import Derived.Test.YtdjfeninmbpflaaGreatV6
import Derived.Test.YtdjfeninmbpflaaGreatV4
import Derived.RangeFuncRecord
set_option linter.unusedVariables false
set_option linter.unusedSimpArgs false
set_option maxRecDepth 100000
section
namespace Go.Re
open Go Go.Wk Go.Wl Go.Rx
theorem I9 {l:List Int} {i:Int} (h0:0<=i) (h1:i<l.length):l.drop i.toNat=ix l i::l.drop (i+1).toNat:=by
 have h:i.toNat<l.length:=by omega
 rw [List.drop_eq_getElem_cons h,A8 h,show (i+1).toNat=i.toNat+1 by omega]
def N5 (sp:List Int) (len:Int):Int->List Int->List Int
 | _,[]=>[]
 | i,t::r=>if w7 sp (i+1)=true ∨ w7 sp (i-len)=true then t::N5 sp len (i+1) r else N5 sp len (i+1) r
theorem c2j {sp:List Int} {n i:Int}:N5 sp n i []=[]:=rfl
theorem V5 {sp:List Int} {n i t:Int} {r:List Int}:N5 sp n i (t::r)=if w7 sp (i+1)=true ∨ w7 sp (i-n)=true then t::N5 sp n (i+1) r else N5 sp n (i+1) r:=rfl
def s7 (r:Rl) (l:List Int):List Int:=if (r.SetPos.length:Int)=0 then l else N5 r.SetPos l.length 0 l
structure S0 (sp:List Int) (l x:List Int) (i:Int):Prop where
 a:0<=i
 b:i<=l.length
 c:(x.length:Int)<=i
 d:x++N5 sp l.length i (l.drop i.toNat)=N5 sp l.length 0 l
theorem S0.init {sp l:List Int}:S0 sp l [] 0:=⟨Int.le_refl 0,by omega,by simp,by simp⟩
theorem S0.yes {sp l x:List Int} {i:Int} (h:S0 sp l x i) (hi:i<l.length) (hp:w7 sp (i+1)=true ∨ w7 sp (i-l.length)=true):S0 sp l (x++[ix l i]) (i+1):=by
 have d:=h.d
 rw [I9 h.a hi,V5,if_pos hp] at d
 exact ⟨by have:=h.a; omega,by omega,by have:=h.c; simp only [List.length_append,List.length_cons,List.length_nil]; omega,by rw [<- d]; simp⟩
theorem S0.no {sp l x:List Int} {i:Int} (h:S0 sp l x i) (hi:i<l.length) (hp:¬ (w7 sp (i+1)=true ∨ w7 sp (i-l.length)=true)):S0 sp l x (i+1):=by
 have d:=h.d
 rw [I9 h.a hi,V5,if_neg hp] at d
 exact ⟨by have:=h.a; omega,by omega,by have:=h.c; omega,d⟩
theorem S0.fin {sp l x:List Int} {i:Int} (h:S0 sp l x i) (hi:¬ i<l.length):x=N5 sp l.length 0 l:=by
 have d:=h.d
 rw [List.drop_eq_nil_of_le (by omega),c2j] at d
 rw [<- d,List.append_nil]
def a7v (n:Nat):List Int:=(List.range n).map Int.ofNat
def l7 (l:List Int) (fr:Bool) (own all:Int):List Int:=if 0<(l.length:Int) then l else if fr=true then a7v all.toNat else [own]
theorem a4u (n:Nat):(a7v n).length=n:=by unfold a7v; simp
structure a8q (n:Nat) (x:List Int) (i:Int):Prop where
 a:0<=i
 b:i<=n
 c:x.length=n
 d:∀ j:Nat,(j:Int)<i->x[j]?=some (j:Int)
theorem a8q.step {n:Nat} {x:List Int} {i:Int} (h:a8q n x i) (hi:i<n):a8q n (x.set i.toNat i) (i+1):=by
 have ha:=h.a
 refine ⟨by omega,by omega,by rw [List.length_set]; exact h.c,fun j hj=>?_⟩
 by_cases e:j=i.toNat
 . subst e
   rw [List.getElem?_set_self (by rw [h.c]; omega)]
   congr 1; omega
 . rw [List.getElem?_set_ne (Ne.symm e)]
   exact h.d j (by omega)
theorem a8q.fin {n:Nat} {x:List Int} {i:Int} (h:a8q n x i) (hi:¬ i<n):x=a7v n:=by
 have hb:=h.b
 refine List.ext_getElem? fun j=>?_
 by_cases hj:j<n
 . rw [h.d j (by omega)]
   unfold a7v
   simp [hj]
 . rw [List.getElem?_eq_none (by rw [h.c]; omega),List.getElem?_eq_none (by rw [a4u]; omega)]
def hB (s:Tm) (r:Rl) (h:Int):Prop:=¬ ((0<(r.Hour.length:Int)/\¬ w7 r.Hour h=true) ∨ ((r.Hour.length:Int)=0/\r.Freq<=3)/\h≠s.Hour)
def mB (s:Tm) (r:Rl) (m:Int):Prop:=¬ ((0<(r.Minute.length:Int)/\¬ w7 r.Minute m=true) ∨ ((r.Minute.length:Int)=0/\r.Freq<=4)/\m≠s.Min)
def sB (s:Tm) (r:Rl) (x:Int):Prop:=(0<(r.Second.length:Int)/\w7 r.Second x=true) ∨ (r.Second.length:Int)=0/\(5<r.Freq ∨ x=s.Sec)
instance (s:Tm) (r:Rl) (h:Int):Decidable (hB s r h):=by unfold hB; infer_instance
instance (s:Tm) (r:Rl) (h:Int):Decidable (mB s r h):=by unfold mB; infer_instance
instance (s:Tm) (r:Rl) (h:Int):Decidable (sB s r h):=by unfold sB; infer_instance
def P9 (s:Tm) (r:Rl) (h m:Int):Nat->List Int
 | 0=>[]
 | k+1=>P9 s r h m k++if sB s r k then [3600 * h+60 * m+(k:Int)] else []
def O4 (s:Tm) (r:Rl) (h:Int):Nat->List Int
 | 0=>[]
 | k+1=>O4 s r h k++if mB s r k then P9 s r h k 60 else []
def S9 (s:Tm) (r:Rl):Nat->List Int
 | 0=>[]
 | k+1=>S9 s r k++if hB s r k then O4 s r k 60 else []
def A5 (s:Tm) (r:Rl):List Int:=S9 s r 24
theorem a5l (s:Tm) (r:Rl) (h m:Int):∀ k,(P9 s r h m k).length<=k
 | 0=>Nat.le_refl 0
 | k+1=>by
  have:=a5l s r h m k
  unfold P9
  rw [List.length_append]
  split <;> simp <;> omega
theorem a7a (s:Tm) (r:Rl) (h:Int):∀ k,(O4 s r h k).length<=60 * k
 | 0=>Nat.le_refl 0
 | k+1=>by
  have:=a7a s r h k
  have:=a5l s r h k 60
  unfold O4
  rw [List.length_append]
  split <;> simp <;> omega
theorem a1k (s:Tm) (r:Rl):∀ k,(S9 s r k).length<=3600 * k
 | 0=>Nat.le_refl 0
 | k+1=>by
  have:=a1k s r k
  have:=a7a s r k 60
  unfold S9
  rw [List.length_append]
  split <;> simp <;> omega
section
variable {s:Tm} {r:Rl} {i h m:Int}
theorem d3x (i0:0<=i) (hn:¬ hB s r i):S9 s r (i+1).toNat=S9 s r i.toNat:=by
 rw [show (i+1).toNat=i.toNat+1 by omega]
 show S9 s r i.toNat++(if hB s r (i.toNat:Int) then _ else _)=_
 rw [show ((i.toNat:Nat):Int)=i by omega,if_neg hn,List.append_nil]
theorem d0i (i0:0<=i) (hn:hB s r i):S9 s r (i+1).toNat=S9 s r i.toNat++O4 s r i 60:=by
 rw [show (i+1).toNat=i.toNat+1 by omega]
 show S9 s r i.toNat++(if hB s r (i.toNat:Int) then O4 s r (i.toNat:Int) 60 else _)=_
 rw [show ((i.toNat:Nat):Int)=i by omega,if_pos hn]
theorem d2t (i0:0<=i) (hn:¬ mB s r i):O4 s r h (i+1).toNat=O4 s r h i.toNat:=by
 rw [show (i+1).toNat=i.toNat+1 by omega]
 show O4 s r h i.toNat++(if mB s r (i.toNat:Int) then _ else _)=_
 rw [show ((i.toNat:Nat):Int)=i by omega,if_neg hn,List.append_nil]
theorem c8f (i0:0<=i) (hn:mB s r i):O4 s r h (i+1).toNat=O4 s r h i.toNat++P9 s r h i 60:=by
 rw [show (i+1).toNat=i.toNat+1 by omega]
 show O4 s r h i.toNat++(if mB s r (i.toNat:Int) then P9 s r h (i.toNat:Int) 60 else _)=_
 rw [show ((i.toNat:Nat):Int)=i by omega,if_pos hn]
theorem d4u (i0:0<=i) (hn:¬ sB s r i):P9 s r h m (i+1).toNat=P9 s r h m i.toNat:=by
 rw [show (i+1).toNat=i.toNat+1 by omega]
 show P9 s r h m i.toNat++(if sB s r (i.toNat:Int) then _ else _)=_
 rw [show ((i.toNat:Nat):Int)=i by omega,if_neg hn,List.append_nil]
theorem c7r (i0:0<=i) (hn:sB s r i):P9 s r h m (i+1).toNat=P9 s r h m i.toNat++[3600 * h+60 * m+i]:=by
 rw [show (i+1).toNat=i.toNat+1 by omega]
 show P9 s r h m i.toNat++(if sB s r (i.toNat:Int) then [3600 * h+60 * m+(i.toNat:Int)] else _)=_
 rw [show ((i.toNat:Nat):Int)=i by omega,if_pos hn]
end
end Go.Re
end
section
namespace Go.Proofs.YtdjfeninmbpflaaGreat
open Go Go.Wk Go.Wl Go.Rx Go.Re 
attribute [local irreducible] m7
def b7a:Nat->Ann:=fun | 87=>⟨34,fun | 7=>some ⟨[9,24],[.slot 25 (.int .i64),.cont 9 3]⟩ | _=>none,nn⟩ | _=>⟨0,nn,nn⟩
def Vcp (l:List Int) (fr:Bool) (o:Int) (a:Int) (Q:List Int->Prop):Prop :=
((0:Int)<(↑l.length:Int)->Q l)/\(¬(0:Int)<(↑l.length:Int)->(¬fr=true->Q [o])/\(¬¬fr=true->(0:Int)<=a/\a=a/\(↑((some (8:Nat)).getD (0:Nat)):Int) * a<=140737488355328/\∃ (I:Int->List Int->Prop),∃ (m:Int->List Int->Nat),I (0:Int) (List.replicate a.toNat (0:Int))/\∀ (x:Int) (x_1:List Int),I x x_1->(x<(↑(List.replicate a.toNat (0:Int)).length:Int)->(0:Int)<=x/\x<(↑x_1.length:Int)/\b9 (x+1)/\I (x+1) (x_1.set x.toNat x)/\m (x+1) (x_1.set x.toNat x)<m x x_1)/\(¬x<(↑(List.replicate a.toNat (0:Int)).length:Int)->Q x_1)))
def Wcp (l:List Int) (fr:Bool) (o:Int) (a:Int) (Q:List Int->Prop):Prop:=m7 (E:=Ncd) (P7 Ncd H0 b7a 2) (b7a 87) Tryz.f87 [.sl (N:=U) 3 l,blB fr,.int .i64 o,.int .i64 a] [] [] 0 (c7e Ncd 1 [.sl 3] Q)
attribute [local irreducible] Wcp HZ
theorem d6x {l:List Int} {fr:Bool} {o:Int} {a:Int} {Q:List Int->Prop}:Vcp l fr o a Q=Wcp l fr o a Q:=by kernel_rfl
theorem d5i {l:List Int} {fr:Bool} {o:Int} {a:Int} {Q:List Int->Prop} (h:Vcp l fr o a Q):Wcp l fr o a Q:=by rw [<- d6x]; exact h
theorem pcp (l:List Int) (fr:Bool) (o:Int) (a:Int) (ha0:0<=a) (ha1:a<=100):Vcp l fr o a (fun y0=>y0=l7 l fr o a):=by
 have a0:=ha0
 have a1:=ha1
 unfold Vcp l7
 refine ⟨fun h=>by rw [if_pos h],fun h=>?_⟩
 rw [if_neg h]
 refine ⟨fun h=>by rw [if_neg h],fun h=>?_⟩
 rw [if_pos (Classical.not_not.1 h)]
 have el:((List.replicate a.toNat (0:Int)).length:Int)=a:=by rw [List.length_replicate]; omega
 refine ⟨a0,rfl,by show (8:Int) * a<=140737488355328; omega,fun i x=>a8q a.toNat x i,fun i _=>(a-i).toNat,⟨Int.le_refl 0,by omega,List.length_replicate,fun j hj=>by omega⟩,?_⟩
 rintro i x hI
 have ha:=hI.a
 have hc:=hI.c
 refine ⟨fun hi=>⟨ha,by omega,⟨by omega,by omega⟩,hI.step (by omega),by dsimp only; omega⟩,fun hi=>hI.fin (by omega)⟩
theorem d3g {l:List Int} {fr:Bool} {o:Int} {a:Int}:Wcp l fr o a (fun y0=>y0=l7 l fr o a)=HZ Ncd (P7 Ncd H0 b7a 2) (b7a 87) Tryz.f87 [.sl (N:=U) 3 l,blB fr,.int .i64 o,.int .i64 a] 1 [.sl 3] (l7 l fr o a,()):=by kernel_rfl
theorem d5m (l:List Int) (fr:Bool) (o:Int) (a:Int) (ha0:0<=a) (ha1:a<=100):HZ Ncd (P7 Ncd H0 b7a 2) (b7a 87) Tryz.f87 [.sl (N:=U) 3 l,blB fr,.int .i64 o,.int .i64 a] 1 [.sl 3] (l7 l fr o a,()):=by
 rw [<- d3g]
 exact d5i (pcp l fr o a ha0 ha1)
def d2v (l:List Int) (fr:Bool) (o:Int) (a:Int):CR U:=⟨[0<=a,a<=100],[],.sl 3 (l7 l fr o a),[]⟩
theorem c98 (l:List Int) (fr:Bool) (o:Int) (a:Int):(⟨[0<=a,a<=100],[],a6p 1 (b18 Ncd [.sl 3] (l7 l fr o a,())),[]⟩:CR Ncd.N)=d2v l fr o a:=by kernel_rfl
theorem c7u (l:List Int) (fr:Bool) (o:Int) (a:Int) (ha0:0<=a) (ha1:a<=100) (nx:Nat) (hp:([.sl (N:=U) 3 l,blB fr,.int .i64 o,.int .i64 a]:List (SV U)).all B3=true):E2 Ncd.P Ncd.N Ncd.T Ncd.G 87 [.sl (N:=U) 3 l,blB fr,.int .i64 o,.int .i64 a] nx (d2v l fr o a):=by
 rw [<- c98]
 exact e0m b4w (j6 b4w o9 b7a 2) Tryz.func87 rfl hp (d5m l fr o a ha0 ha1)
def ccp (a:List (SV U)) (nx:Nat):Option (CR U):=match a with | [.sl 3 l,x_fr,.int .i64 o,.int .i64 a]=>(b0b x_fr).bind fun fr=>some (d2v l fr o a) | _=>none
noncomputable def Ncp:Env:=Ncd.addC 87 ccp
theorem b7j:j7 Ncp:=b4w.addC Tryz.call87 fun (args:List (SV U)) nx (c:CR U) (h:ccp args nx=some c) hp ho=>by
 unfold ccp at h
 split at h
 . rename_i l x_fr o a
   obtain ⟨fr,hb_fr,h⟩:=Option.bind_eq_some_iff.1 h
   cases h
   exact E2.weak (b:=[.sl (N:=U) 3 l,blB fr,.int .i64 o,.int .i64 a]) (c7u l fr o a ho.1 ho.2.1 nx rfl) fun ρ Z w v hr=>q9 [.sl 3 l,x_fr,.int .i64 o,.int .i64 a] [.sl (N:=U) 3 l,blB fr,.int .i64 o,.int .i64 a] _ ⟨fun _ h=>h,fun _ h=>a18 (E:=Ncd) hb_fr h,fun _ h=>h,fun _ h=>h,trivial⟩ hr
 . cases h
end Go.Proofs.YtdjfeninmbpflaaGreat
end
section
namespace Go.Re
open Go Go.Wk Go.Wl Go.Rx
def nbR (r:Rl) (n:Int):Int:=if (n<1/\r.Freq<2) ∨ 3652059<n then 315537897600 else E5 (86400 * (n-1))
def d6i (r:Rl) (i:Int):Int :=
 if r.Freq=0 then nbR r (j9 ⟨i,1,1⟩) else if r.Freq=1 then nbR r (j9 ⟨(i-1) / 12,(i-1) % 12+1,1⟩) else if r.Freq=2 then nbR r (7 * i-6+r.Wkst)
 else if r.Freq=4 then E5 (3600 * i) else if r.Freq=5 then E5 (60 * i) else if r.Freq=6 then E5 i else nbR r i
def a0c (s:Tm) (r:Rl) (k:Int):Int:=d6i r (s5 r (b8 s)+k * r.Interval)
theorem a4n {r:Rl} {t:Int} (t0:0<=t) (t1:t<315537897600) (w0:0<=r.Wkst) (w1:r.Wkst<=6):0<=s5 r t/\s5 r t<=315537897600/\(r.Freq=1->13<=s5 r t):=by
 obtain ⟨h1,_⟩:=Q5 (n:=t / 86400+1) (by omega) (by omega)
 obtain ⟨a,b,c,d,_⟩:=h1.ym
 unfold s5
 split
 . omega
 split
 . omega
 split
 . omega
 split
 . omega
 split
 . omega
 split <;> omega
theorem v6 {s:Tm} (h:n7 s=true):0<=b8 s/\b8 s<315537897600:=by
 have hr:=u7.1 h
 have:=a1v hr
 unfold b8
 rw [if_pos hr]
 omega
theorem c06 {r:Rl} {k:Int} (hR:A6 r=true) (k0:0<=k) (k1:k<=40000):0<=k * r.Interval/\k * r.Interval<=399960000:=by
 obtain ⟨_,_,i0,i1,_⟩:=(m8.1 hR).head
 have a:=Int.mul_nonneg k0 (show 0<=r.Interval by omega)
 have b:=Int.mul_le_mul k1 i1 (show 0<=r.Interval by omega) (by omega:(0:Int)<=40000)
 omega
end Go.Re
end
section
namespace Go.Re
open Go Go.Wk Go.Wl Go.Rx
def a11 (a b:List Tm):Bool:=decide (a=b)
def c6h:List Int:=[3000,3000,1500,700,60,4,1]
def b2l (s:Tm) (r:Rl) (t:Tm):Bool:=if ¬ n7 s=true ∨ ¬ n7 t=true then true else decide (b8 t-b8 s<=86400 * ix c6h (max 0 (min r.Freq 6)))
def I0 (e:Err):Err:=if e.is 5 then .no 5 else .nil
theorem b7i (e:Err):I0 e=.nil ∨ ∃ n,I0 e=.no n:=by
 unfold I0
 split
 . exact .inr ⟨5,rfl⟩
 . exact .inl rfl
theorem d3h {i:Int} (h0:0<=i) (h1:i<=6):1<=ix c6h i/\ix c6h i<=3000:=by
 have:i=0 ∨ i=1 ∨ i=2 ∨ i=3 ∨ i=4 ∨ i=5 ∨ i=6:=by omega
 rcases this with rfl | rfl | rfl | rfl | rfl | rfl | rfl <;> decide
theorem d4f {a b:Tm} (h:((a.Day.Year=b.Day.Year/\a.Day.Month=b.Day.Month/\a.Day.Date=b.Day.Date/\True)/\a.Hour=b.Hour/\a.Min=b.Min/\a.Sec=b.Sec/\(a.Bare=true↔b.Bare=true)/\(a.UTC=true↔b.UTC=true)/\True)):a=b:=by
 obtain ⟨⟨y,m,d⟩,hh,mi,se,ba,ut⟩:=a
 obtain ⟨⟨y2,m2,d2⟩,hh2,mi2,se2,ba2,ut2⟩:=b
 obtain ⟨⟨h1,h2,h3,_⟩,h4,h5,h6,h7,h8,_⟩:=h
 have e7:ba=ba2:=Bool.eq_iff_iff.2 h7
 have e8:ut=ut2:=Bool.eq_iff_iff.2 h8
 subst h1 h2 h3 h4 h5 h6 e7 e8
 rfl
end Go.Re
end
section
namespace Go.Proofs.YtdjfeninmbpflaaGreat
open Go Go.Wk Go.Wl Go.Rx Go.Re 
attribute [local irreducible] m7
def e0u:Nat->Ann:=fun | 15=>⟨26,fun | 4=>some ⟨[0,1],[.slot 5 (.int .i64)]⟩ | _=>none,nn⟩ | _=>⟨0,nn,nn⟩
def VxS (a:List Tm) (b:List Tm) (Q:Bool->Prop):Prop :=
((↑a.length:Int)≠(↑b.length:Int)->Q false)/\(¬(↑a.length:Int)≠(↑b.length:Int)->∃ (I:Int->Prop),∃ (m:Int->Nat),I (0:Int)/\∀ (x:Int),I x->(x<(↑a.length:Int)->(0:Int)<=x/\x<(↑a.length:Int)/\(b9 (ix a x).Day.Year->b9 (ix a x).Day.Month->b9 (ix a x).Day.Date->b9 (ix a x).Hour->b9 (ix a x).Min->b9 (ix a x).Sec->(0:Int)<=x/\x<(↑b.length:Int)/\(b9 (ix b x).Day.Year->b9 (ix b x).Day.Month->b9 (ix b x).Day.Date->b9 (ix b x).Hour->b9 (ix b x).Min->b9 (ix b x).Sec->(¬(((ix a x).Day.Year=(ix b x).Day.Year/\(ix a x).Day.Month=(ix b x).Day.Month/\(ix a x).Day.Date=(ix b x).Day.Date/\True)/\(ix a x).Hour=(ix b x).Hour/\(ix a x).Min=(ix b x).Min/\(ix a x).Sec=(ix b x).Sec/\((ix a x).Bare=true↔(ix b x).Bare=true)/\((ix a x).UTC=true↔(ix b x).UTC=true)/\True)->Q false)/\(¬¬(((ix a x).Day.Year=(ix b x).Day.Year/\(ix a x).Day.Month=(ix b x).Day.Month/\(ix a x).Day.Date=(ix b x).Day.Date/\True)/\(ix a x).Hour=(ix b x).Hour/\(ix a x).Min=(ix b x).Min/\(ix a x).Sec=(ix b x).Sec/\((ix a x).Bare=true↔(ix b x).Bare=true)/\((ix a x).UTC=true↔(ix b x).UTC=true)/\True)->b9 (x+1)/\I (x+1)/\m (x+1)<m x))))/\(¬x<(↑a.length:Int)->Q true))
theorem c42 {a b:List Tm} (hl:a.length=b.length) (h:∀ i:Int,0<=i->i<a.length->ix a i=ix b i):a=b:=List.ext_getElem hl fun i h1 h2=>by
 have:=h i (by omega) (by omega)
 have e:(i:Int).toNat=i:=by omega
 rw [A8 (by omega),A8 (by omega)] at this
 simpa [e] using this
set_option maxHeartbeats 2000000 in
theorem pxS (a:List Tm) (b:List Tm) (ha:a.length<=10000000):VxS a b (fun y0=>y0=a11 a b):=by
 unfold VxS a11
 refine ⟨fun h=>(decide_eq_false (p:=(a:List Tm)=b) fun e=>h (by rw [e])).symm,fun h=>?_⟩
 have hl:a.length=b.length:=by omega
 refine ⟨fun i=>0<=i/\∀ j:Int,0<=j->j<i->ix a j=ix b j,fun i=>((a.length:Int)-i).toNat,⟨by omega,fun j h0 h1=>absurd h1 (by omega)⟩,?_⟩
 rintro i ⟨i0,hi⟩
 refine ⟨fun h1=>⟨i0,h1,fun _ _ _ _ _ _=>⟨i0,by omega,fun _ _ _ _ _ _=>⟨fun hn=>(decide_eq_false (p:=(a:List Tm)=b) fun e=>hn (by rw [e]; exact ⟨⟨rfl,rfl,rfl,trivial⟩,rfl,rfl,rfl,Iff.rfl,Iff.rfl,trivial⟩)).symm,fun he=>⟨⟨by omega,by omega⟩,⟨by omega,fun j j0 j1=>?_⟩,by dsimp only; omega⟩⟩⟩⟩,fun h1=>(decide_eq_true (p:=(a:List Tm)=b) (c42 hl fun j j0 j1=>hi j j0 (by omega))).symm⟩
 by_cases e:j=i
 . subst e; exact d4f (Classical.not_not.1 he)
 . exact hi j j0 (by omega)
def cxS (a:List (SV U)):Option (Q1 U):=match a with | [.sl 25 a,.sl 25 b]=>some ⟨[List.length (α:=Tm) a<=10000000],[],blB (a11 a b)⟩ | _=>none
noncomputable def NxS:Env:=Ncp.addL 15 cxS
theorem b5t:j7 NxS:=b7j.addL Tryz.call15 fun (args:List (SV U)) (q:Q1 U) (h:cxS args=some q) ho=>by
 unfold cxS at h
 split at h
 . rename_i a b
   cases h
   exact q8 (an:=e0u 15) b7j (j6 b7j o9 e0u 2) Tryz.func15 (k:=.bool) (x:=a11 a b) trivial (kc (pxS a b ho.1) (by kernel_rfl)) 0
 . cases h
def d8g:Nat->Ann:=fun | 33=>⟨8,nn,nn⟩ | _=>⟨0,nn,nn⟩
def Vct (e:Err) (Q:Err->Prop):Prop :=
(e.is (5:Int)->Q (Err.no (5:Int)))/\(¬e.is (5:Int)->Q e)
theorem pct (e:Err) (he:e.is 5 ∨ e=Err.nil):Vct e (fun y0=>y0=I0 e):=by
 unfold Vct I0
 exact ⟨fun h=>by rw [if_pos h],fun h=>by rw [if_neg h]; exact he.resolve_left h⟩
def cct (a:List (SV U)):Option (Q1 U):=match a with | [.err e]=>some ⟨[e.is 5 ∨ e=Err.nil],[],.err (I0 e)⟩ | _=>none
noncomputable def Nct:Env:=NxS.addL 33 cct
theorem b4z:j7 Nct:=b5t.addL Tryz.call33 fun (args:List (SV U)) (q:Q1 U) (h:cct args=some q) ho=>by
 unfold cct at h
 split at h
 . rename_i e
   cases h
   exact q8 (an:=d8g 33) b5t (j6 b5t o9 d8g 2) Tryz.func33 (k:=.err) (x:=I0 e) (b7i _) (kc (pct e ho.1) (by kernel_rfl)) 0
 . cases h
def e0k:Nat->Ann:=fun | 81=>⟨18,nn,nn⟩ | _=>⟨0,nn,nn⟩
def Vc2 (l:List Int) (n:Int) (a:Int) (Q:Bool->Prop):Prop :=
l.length<=1000000/\(¬w7 l n=true->b9 (n-a))/\(¬w7 l n=true->b9 (n-a-1))/\(¬w7 l n=true->l.length<=1000000)/\Q (decide (w7 l n=true ∨ w7 l (n-a-1)=true))
theorem pc2 (l:List Int) (n:Int) (a:Int) (hl:l.length<=1000000) (n0:-1000000000000000<=n) (n1:n<=1000000000000000) (a0:-1000000000000000<=a) (a1:a<=1000000000000000):Vc2 l n a (fun y0=>y0=Re.hasE l n a):=by
 unfold Vc2 Re.hasE
 refine ⟨hl,fun _=>⟨by omega,by omega⟩,fun _=>⟨by omega,by omega⟩,fun _=>hl,b6x ?_⟩
 rw [Bool.or_eq_true]
def cc2 (a:List (SV U)):Option (Q1 U):=match a with | [.sl 3 l,.int .i64 n,.int .i64 a]=>some ⟨[List.length (α:=Int) l<=1000000,-1000000000000000<=n,n<=1000000000000000,-1000000000000000<=a,a<=1000000000000000],[],blB (Re.hasE l n a)⟩ | _=>none
noncomputable def Nc2:Env:=Nct.addL 81 cc2
theorem b6g:j7 Nc2:=b4z.addL Tryz.call81 fun (args:List (SV U)) (q:Q1 U) (h:cc2 args=some q) ho=>by
 unfold cc2 at h
 split at h
 . rename_i l n a
   cases h
   exact q8 (an:=e0k 81) b4z (j6 b4z o9 e0k 2) Tryz.func81 (k:=.bool) (x:=Re.hasE l n a) trivial (kc (pc2 l n a ho.1 ho.2.1 ho.2.2.1 ho.2.2.2.1 ho.2.2.2.2.1) (by kernel_rfl)) 0
 . cases h
end Go.Proofs.YtdjfeninmbpflaaGreat
end
section
namespace Go.Rx
open Go Go.Wk Go.Wl
def mark (D:Nat):Deferred:={ target:=.collected D,args:=#[] }
def marks (ds:List Nat):List Deferred:=ds.map mark
abbrev QD:=Exit->Fr->World->List Nat->Prop
def d8b (n:Nat) (Q:QD):Exit->Act->World->Prop:=fun e a w1=>∃ f w ds,Is a f n/\a.defers=marks ds/\Sim w w1/\Q e f w ds
def WD (P:Program) (n:Nat) (c:Code) (Q:QD) (f:Fr) (w:World) (ds:List Nat):Prop :=
 ∀ a w1,Is a f n->a.defers=marks ds->Sim w w1->c.wpIn (I8 none) 0 P (d8b n Q) a w1
def d1d (next:Fr->World->List Nat->Prop) (Q:QD):QD
 | .normal,f,w,ds=>next f w ds
 | e,f,w,ds=>Q e f w ds
def c46 (id:Nat) (Q:QD):QD
 | .exit j,f,w,ds=>bif Nat.beq j id then Q .normal f w ds else Q (.exit j) f w ds
 | e,f,w,ds=>Q e f w ds
section
variable {P:Program} {n:Nat} {Q:QD} {f:Fr} {w:World} {ds:List Nat}
theorem d7w {c:Code} {Q0:Exit->Fr->World->Prop} (h:W P n c Q0 f w) (hq:∀ e f' w',Q0 e f' w'->Q e f' w' ds):WD P n c Q f w ds:=fun a w1 ha hd hs =>
 Go.wpIn_mono (h a w1 ha hs none) fun _ _ _ ⟨g,v,hg,hd',hv,q⟩=>⟨g,v,ds,hg,hd'.trans hd,hv,hq _ _ _ q⟩
theorem a4q {c:Code} {Q':QD} (h:WD P n c Q f w ds) (hq:∀ e f w ds,Q e f w ds->Q' e f w ds):WD P n c Q' f w ds:=fun a w1 ha hd hs =>
 Go.wpIn_mono (h a w1 ha hd hs) fun _ _ _ ⟨g,v,d,h1,h2,h3,q⟩=>⟨g,v,d,h1,h2,h3,hq _ _ _ _ q⟩
theorem d6f {x y:Code} (h:WD P n x (d1d (WD P n y Q) Q) f w ds):WD P n (.seq x y) Q f w ds:=fun a w1 ha hd hs =>
 wpIn_seq (Go.wpIn_mono (h a w1 ha hd hs) fun e a' w' ⟨g,v,d,hg,hd,hv,q⟩=>by
  cases e <;> first | exact q a' w' hg hd hv | exact ⟨g,v,d,hg,hd,hv,q⟩)
theorem c4d {id:Nat} {c:Code} (h:WD P n c (c46 id Q) f w ds):WD P n (.block id c) Q f w ds:=fun a w1 ha hd hs =>
 wpIn_block (Go.wpIn_mono (h a w1 ha hd hs) fun e a' w' ⟨g,v,d,hg,hd,hv,q⟩=>by
  cases e with
  | exit j =>
   simp only [Exit.inBlock]
   unfold c46 at q
   by_cases hj:j=id
   . subst hj; simp only [Nat.beq_refl,cond_true] at q; rw [if_pos rfl]; exact ⟨g,v,d,hg,hd,hv,q⟩
   . simp only [O1 hj,cond_false] at q; rw [if_neg hj]; exact ⟨g,v,d,hg,hd,hv,q⟩
  | _=>exact ⟨g,v,d,hg,hd,hv,q⟩)
theorem c8j {c:Code} (I:Nat->Fr->World->List Nat->Prop) (m:Nat) (h0:I m f w ds)
  (round:∀ m f w ds,I m f w ds->WD P n c (d1d (fun f' w' ds'=>∃ m',m'<m/\I m' f' w' ds') Q) f w ds):WD P n (.loop c) Q f w ds:=by
 intro a w1 ha hd hs
 classical
 let X:Nat->Act->World->Prop:=fun m a w1=>∃ f w ds,Is a f n/\a.defers=marks ds/\Sim w w1/\I m f w ds
 let J:Act->World->Prop:=fun a w1=>∃ m,X m a w1
 let μ:Act->World->Nat:=fun a w1=>if h:∃ m,X m a w1 then Classical.choose (L7 h) else 0
 have mu:∀ a w1,J a w1->X (μ a w1) a w1/\∀ k,X k a w1->μ a w1<=k:=fun a w1 h=>by
  grind
 refine wpIn_loop J μ ⟨m,f,w,ds,ha,hd,hs,h0⟩ ?_
 intro a w1 hJ
 obtain ⟨f,w,ds,hf,hds,hw,hI⟩:=(mu a w1 hJ).1
 refine Go.wpIn_mono (round _ f w ds hI a w1 hf hds hw) ?_
 intro e a' w' ⟨g,v,d,hg,hd,hv,q⟩
 cases e with
 | normal =>
  obtain ⟨m',hlt,hI'⟩:=q
  have hx:X m' a' w':=⟨g,v,d,hg,hd,hv,hI'⟩
  exact ⟨⟨m',hx⟩,Nat.lt_of_le_of_lt ((mu a' w' ⟨m',hx⟩).2 m' hx) hlt⟩
 | _=>exact ⟨g,v,d,hg,hd,hv,q⟩
def rcL (fn:FuncId) (tm:Array Value) (ps:Array Tmp) (asg body:Code) (D:Nat) (st:LoopState) (pe:Option Code):Loop :=
 { state:=st,pending:=pe,fn,tmps:=tm,params:=ps,assign:=asg,body,defers:=D }
theorem a25 {w1:World} (hs:Sim w w1) (r:Nat) (o:Obj):Sim (w.putObj r o) (w1.putObj r o):=by obtain ⟨k,rfl⟩:=hs; exact ⟨k,rfl⟩
theorem a8d {w1:World} (hs:Sim w w1) (o:Obj):Sim (w.alloc o) (w1.alloc o):=by obtain ⟨k,rfl⟩:=hs; exact ⟨k,rfl⟩
def X4 (w:World) (fn:FuncId) (tm:Array Value) (ps:Array Tmp) (asg body:Code):World:=(w.alloc (.deferred (some []))).alloc (.loop (rcL fn tm ps asg body w.heap.size .ready none))
theorem c66 {g:Operand} {ps:Array Tmp} {asg body:Code} {gf:Nat} {lb:List Value} (hg:ev f g=.func (.func gf) #[] lb.toArray) (eg:∀ args w,(callFunc gf args).run P w=.ok (.enter gf args) w)
  (h:∀ (fn:FuncId) (tm:Array Value),Is { tmps:=tm,defers:=[] } f n ->
   D4 P gf (.func (.yield (w.heap.size+1)) #[] #[]::lb) (X4 w fn tm ps asg body) (fun _ w2=>∃ st pe,st≠.busy/\w2.heap[w.heap.size+1]?=some (.loop (rcL fn tm ps asg body w.heap.size st pe)) /\
    ((pe=none/\Q .normal f (w2.putObj (w.heap.size+1) (.loop (rcL fn tm ps asg body w.heap.size .exhausted pe))) (w.heap.size::ds)) ∨
     (pe=some .ret/\Q .ret f (w2.putObj (w.heap.size+1) (.loop (rcL fn tm ps asg body w.heap.size .exhausted pe))) (w.heap.size::ds))))):WD P n (.rangeFunc g ps asg body) Q f w ds:=by
 intro a w1 ha hd hs
 have hsz:w1.heap.size=w.heap.size:=by rw [hs.heap]
 refine wpIn_rangeFunc fun fn _=>?_
 obtain ⟨W1,hW1⟩:∃ W1,(w1.alloc (.deferred (some []))).alloc (.loop { state:=.ready,pending:=none,fn,tmps:=a.tmps,params:=ps,assign:=asg,body,defers:=w1.heap.size })=W1:=⟨_,rfl⟩
 refine ⟨w1.heap.size+1,[{ target:=.collected w1.heap.size,args:=#[] }],W1,{ target:=.fn (.func gf) lb.toArray,args:=#[.func (.yield (w1.heap.size+1)) #[] #[]] },W1,gf,#[.func (.yield (w1.heap.size+1)) #[] #[]]++lb.toArray,W1,by rw [<- hW1]; exact run_enterLoop_outer _ _ _ _ _,?_,?_,?_,fun h=>(by cases h),?_⟩
 . have e:a.eval g=.func (.func gf) #[] lb.toArray:=by rw [ha.eval]; exact hg
   simp only [resolve,e]
   simp [go_sem]
 . intro f' _; trivial
 . simp [invoke,go_sem,eg]
 . have hi:Is { tmps:=a.tmps,defers:=[] } f n:=⟨ha.size,ha.get⟩
   have hc:=h fn a.tmps hi
   have hS:Sim (X4 w fn a.tmps ps asg body) W1:=by
    rw [<- hW1,hsz]; exact a8d (a8d hs _) _
   have hc:=hc _ hS
   have ea:(Value.func (.yield (w.heap.size+1)) #[] #[]::lb).toArray=#[.func (.yield (w1.heap.size+1)) #[] #[]]++lb.toArray:=by rw [hsz]; simp
   rw [ea] at hc
   refine a4x (Calls.mono hc ?_)
   rintro e w3 ⟨v,w2,rfl,hs2,st,pe,hb,hl,hq⟩
   have hl3:w3.heap[w1.heap.size+1]?=some (.loop (rcL fn a.tmps ps asg body w.heap.size st pe)):=by rw [hs2.heap,hsz]; exact hl
   have hend:=run_endLoop (P:=P) hl3 hb
   have hs3:Sim (w2.putObj (w.heap.size+1) (.loop (rcL fn a.tmps ps asg body w.heap.size .exhausted pe))) (w3.putObj (w1.heap.size+1) (.loop (rcL fn a.tmps ps asg body w.heap.size .exhausted pe))):=by rw [hsz]; exact a25 hs2 _ _
   have hdd:([{ target:=.collected w1.heap.size,args:=#[] }]:List Deferred)++a.defers=marks (w.heap.size::ds):=by rw [hd,hsz]; rfl
   rcases hq with ⟨rfl,hq⟩ | ⟨rfl,hq⟩
   . exact ⟨none,_,hend,f,_,_,⟨ha.size,ha.get⟩,hdd,hs3,hq⟩
   . exact ⟨some .ret,_,hend,wpIn_ret ⟨f,_,_,⟨ha.size,ha.get⟩,hdd,hs3,hq⟩⟩
theorem b3l {l:Nat} {fn:FuncId} {tm:Array Value} {p:Tmp} {asg body:Code} {D:Nat} {v:Value} {R:Value->World->Prop} (hl:w.heap[l]?=some (.loop (rcL fn tm #[p] asg body D .ready none))) (hi:Is { tmps:=tm,defers:=[] } f n) (hp:Nat.blt p n=true)
  (h:W P n asg (c0j (fun f2 w2=>w2.heap[l]?=some (.loop (rcL fn tm #[p] asg body D .ready none))/\W P n body (fun e _ w3=>w3.heap[l]?=some (.loop (rcL fn tm #[p] asg body D .busy none)) /\
   ((e=.normal/\R (.bool true) (w3.putObj l (.loop (rcL fn tm #[p] asg body D .ready none)))) ∨ (e=.ret/\R (.bool false) (w3.putObj l (.loop (rcL fn tm #[p] asg body D .done (some .ret)))))))
    f2 (w2.putObj l (.loop (rcL fn tm #[p] asg body D .busy none)))) (fun _ _ _=>False)) (upd f p v) w):T5 P l [v] w R:=by
 intro w1 hs
 have hl1:w1.heap[l]?=some (.loop (rcL fn tm #[p] asg body D .ready none)):=by rw [hs.heap]; exact hl
 refine ⟨fn,_,asg,body,run_yield (P:=P) (args:=[v].toArray) hl1 rfl,roundIn_of_wpIn trivial ?_⟩
 have ht:((#[p]:Array Tmp).zip [v].toArray).foldl (fun tmps (x:Tmp×Value)=>tmps.setIfInBounds x.1 x.2) tm=tm.setIfInBounds p v:=by simp
 have hip:Is { tmps:=((#[p]:Array Tmp).zip [v].toArray).foldl (fun tmps (x:Tmp×Value)=>tmps.setIfInBounds x.1 x.2) tm,defers:=[] } (upd f p v) n:=by
  rw [ht]; exact hi.put (A1 hp) v
 refine Go.wpIn_mono (h _ w1 hip hs (some l)) ?_
 rintro e a2 w2 ⟨f2,w2',hi2,hd2,hs2,q⟩
 cases e with
 | normal =>
  obtain ⟨hl2,hb⟩:=q
  have hl2':w2.heap[l]?=some (.loop (rcL fn tm #[p] asg body D .ready none)):=by rw [hs2.heap]; exact hl2
  refine ⟨_,run_beginRound (P:=P) hl2' rfl,?_⟩
  refine Go.wpIn_mono (hb a2 _ hi2 (a25 hs2 _ _) (some l)) ?_
  rintro e a3 w3 ⟨f3,w3',hi3,hd3,hs3,hl3,q⟩
  have hl3':w3.heap[l]?=some (.loop (rcL fn tm #[p] asg body D .busy none)):=by rw [hs3.heap]; exact hl3
  rcases q with ⟨rfl,q⟩ | ⟨rfl,q⟩
  . exact ⟨_,_,run_endRound (P:=P) none hl3',_,_,rfl,a25 hs3 _ _,q⟩
  . exact ⟨_,_,run_endRound (P:=P) (some .ret) hl3',_,_,rfl,a25 hs3 _ _,q⟩
 | _=>exact q.elim
def shutM:World->List Nat->World
 | w,[]=>w
 | w,D::ds=>shutM (w.putObj D (.deferred none)) ds
theorem a1t {fn:Func} {R:Ending->World->Prop} {tm:Array Value}:∀ (ds:List Nat) (w:World),ds.Nodup->(∀ D∈ds,w.heap[D]?=some (.deferred (some [])))->(∃ v,(results fn tm).run P (shutM w ds)=.ok v (shutM w ds)/\R (.returned v) (shutM w ds))->LeavesInM (I8 none) 0 P fn tm R (marks ds) .returning w
 | [],_,_,_,h=>h
 | D::ds,w,hn,hd,h=>by
  refine ⟨(by simp_all),.inl ⟨D,_,rfl,run_takeDeferred (hd D (List.mem_cons_self ..)),?_⟩⟩
  refine a1t ds _ (List.nodup_cons.1 hn).2 (fun D' h'=>?_) h
  have hne:D'≠D:=fun e=>(List.nodup_cons.1 hn).1 (e ▸ h')
  rw [World.putObj_heap_other hne]
  simp_all
theorem a8l {w1:World}:∀ (ds:List Nat) (w:World) (w1:World),Sim w w1->Sim (shutM w ds) (shutM w1 ds)
 | [],_,_,h=>h
 | _::ds,_,_,h=>a8l (w1:=w1) ds _ _ (a25 h _ _)
theorem d5z {K:FuncId} {fn:Func} {c:Code} {args:List Value} {R:Value->World->Prop} (hf:P.funcs[K]?=some fn) (hb:fn.body=some c) (hn:fn.ntmps=n) (hs:Nat.ble args.length n=true)
  (h:WD P n c (fun e f w ds=>(e=.ret ∨ e=.normal)/\ds.Nodup/\(∀ D∈ds,w.heap[D]?=some (.deferred (some [])))/\∃ v,c28 P fn n f (shutM w ds) v/\R v (shutM w ds)) (nth args) w []):D4 P K args w R:=by
 subst hn
 intro w1 hw
 refine (callsIn_wide (n:=0)).1 (callsIn_of_wp_marks hf hb trivial (Go.wpIn_mono (h _ w1 (b2h args _ (Nat.le_of_ble_eq_true hs)) rfl hw) ?_))
 rintro e a w2 ⟨f,w',ds,hi,hd,hv,he,hnd,hm,v,hr,hR⟩
 have key:LeavesInM (I8 none) 0 P fn a.tmps (fun e w2=>∃ v w',e=.returned v/\Sim w' w2/\R v w') a.defers .returning w2:=by
  rw [hd]
  have hss:=a8l (w1:=w1) ds w' w2 hv
  refine a1t ds w2 hnd (fun D hD=>by rw [hv.heap]; exact hm D hD) ⟨v,hr a _ hi hss,v,_,rfl,hss,hR⟩
 rcases he with rfl | rfl <;> exact key
end
end Go.Rx
end
section
namespace Go.Rx
open Go Go.Wk Go.Wl
theorem Sep.stay {B0:List Nat} {w0 w w':World} {Z:Nat->Prop} {l:List It} {B F:List Nat} (hs:Sep B0 w0 Z w l) (hx:Ext B w w') (hB:∀ b∈B,b<w.heap.size->(∀ t∈l,b ∉ t.F)/\¬ Z b) (hO:∀ t∈l,t.O=F) (hF:∀ t∈l,∀ b∈t.F,b∈F):Sep F w' Z w' l:=by
 refine ⟨Ext.refl _ _,fun b hb=>Nat.lt_of_lt_of_le (hs.zlt b hb) hx.size,fun k t hk=>?_,hs.apart⟩
 have hm:t∈l:=List.mem_of_getElem? hk
 have ok:=hs.ok k t hk
 refine ⟨ok.stab Z Z B w w' ok.holds hx (fun b hb h=>?_) (fun _ h=>h),ok.stab,fun b hb=>Nat.lt_of_lt_of_le (ok.lt b hb) hx.size,ok.notZ,fun b hb=>.inl (by grind),fun b hb=>by simp_all⟩
 grind
section
variable {E:Env} {C C0:Ctx} {ρ ρ' ρb:n9} {Z Z' Zb:Nat->Prop} {w w' wb:World} {its its' lkd:i6 E.N} {nx nb:Nat} {fx:m6 E.N} {st:E.St} {f fb:Fr}
def w6 (E:Env) (ρ:n9) (its:i6 E.N):List Nat:=its.flatMap fun p=>o8 E.N ρ p.1 p.2
theorem p3 {b:Nat}:b∈w6 E ρ its↔∃ p∈its,b∈o8 E.N ρ p.1 p.2:=by unfold w6; simp_all
theorem a32 {B0:List Nat} {t:It}:t∈o0 E.N E.T ρ B0 its↔∃ p∈its,t=z6 E.N E.T ρ B0 p.1 p.2:=by
 unfold o0
 grind
theorem Mem.okp (hm:Mem E C ρ Z w its nx) {p:Nat×Item E.N} (hp:p∈its):(z6 E.N E.T ρ C.B0 p.1 p.2).Ok C.B0 C.w0 Z w:=by
 obtain ⟨k,hk⟩:=List.getElem?_of_mem hp
 exact hm.sep.ok k _ (l4 hk)
theorem a5e {B0 B1:List Nat} {w0:World} (hs:Sep B0 w0 Z w (o0 E.N E.T ρ B0 its)) (hx:∀ p∈its,∀ b∈o8 E.N ρ p.1 p.2,b∈B1 ∨ w.heap.size<=b):Sep B1 w Z w (o0 E.N E.T ρ B1 its):=by
 refine ⟨Ext.refl _ _,hs.zlt,fun k t hk=>?_,fun j k s t hj hk hne=>?_⟩
 . obtain ⟨p,hp,rfl⟩:=m9 hk
   have ok:=hs.ok k _ (l4 hp)
   refine ⟨ok.holds,p7,ok.lt,ok.notZ,fun b hb=>?_,fun b hb=>hb⟩
   rcases hx p (List.mem_of_getElem? hp) b hb with h | h
   . exact .inl h
   omega
 . obtain ⟨p,hp,rfl⟩:=m9 hj
   obtain ⟨q,hq,rfl⟩:=m9 hk
   exact fun b hb hb'=>hs.apart j k (z6 E.N E.T ρ B0 p.1 p.2) (z6 E.N E.T ρ B0 q.1 q.2) (l4 hp) (l4 hq) hne b hb hb'
def Ctx.gr (ρ0:n9) (Z:Nat->Prop) (w:World) (B:List Nat):Ctx:=⟨ρ0,Z,w,B,w⟩
theorem Mem.movB {B:List Nat} (hm:Mem E C ρ Z w its nx) (hx:Ext B w w') (hB:∀ b∈B,b<w.heap.size->b ∉ w6 E ρ its/\¬ Z b) {ρ0:n9} (h0:∀ i L,ρ0 i=some L->ρ i=some L):Mem E (Ctx.gr ρ0 Z w' (w6 E ρ its)) ρ Z w' its nx:=by
 have h1:Sep (w6 E ρ its) w Z w (o0 E.N E.T ρ (w6 E ρ its) its):=a5e hm.sep fun p hp b hb=>.inl (p3.2 ⟨p,hp,hb⟩)
 refine ⟨Sep.stay h1 hx (fun b hb hlt=>⟨fun t ht hbt=>?_,(hB b hb hlt).2⟩) (fun t ht=>?_) (fun t ht b hb=>?_),hm.fr,h0,fun _ h=>h,fun _ h=>.inl h⟩
 . obtain ⟨p,hp,rfl⟩:=a32.1 ht
   exact (hB b hb hlt).1 (p3.2 ⟨p,hp,hbt⟩)
 . obtain ⟨p,hp,rfl⟩:=a32.1 ht; rfl
 . obtain ⟨p,hp,rfl⟩:=a32.1 ht
   exact p3.2 ⟨p,hp,hb⟩
theorem Mem.base (hm:Mem E C ρ Z w its nx):Mem E (Ctx.gr ρ Z w (w6 E ρ its)) ρ Z w its nx:=hm.movB (B:=[]) (Ext.refl _ _) (fun _ h=>by cases h) (fun _ _ h=>h)
theorem Mem.unbase {ib:i6 E.N} (hb:Mem E C ρb Zb wb ib nb) (hm:Mem E (Ctx.gr ρb Zb wb (w6 E ρb ib)) ρ Z w its nx):Mem E C ρ Z w its nx:=by
 have hB:∀ x∈w6 E ρb ib,x∈C.B0 ∨ C.w0.heap.size<=x:=fun x hx=>by
  obtain ⟨p,hp,h⟩:=p3.1 hx
  exact (hb.okp hp).org x h
 have hsz:=hb.sep.ext.size
 refine ⟨⟨hb.sep.ext.trans hm.sep.ext (fun x hx=>.inl hx) hB,hm.sep.zlt,fun k t hk=>?_,fun j k s t hj hk hne=>?_⟩,hm.fr,fun i L e=>hm.ge i L (hb.ge i L e),fun b h=>hm.zge b (hb.zge b h),fun b h=>?_⟩
 . obtain ⟨p,hp,rfl⟩:=m9 hk
   have ok:=hm.sep.ok k _ (l4 hp)
   refine ⟨ok.holds,p7,ok.lt,ok.notZ,fun b hb'=>?_,fun b hb=>hb⟩
   rcases ok.org b hb' with h | h
   . exact hB b h
   . exact .inr (Nat.le_trans hsz h)
 . obtain ⟨p,hp,rfl⟩:=m9 hj
   obtain ⟨q,hq,rfl⟩:=m9 hk
   exact fun b hb1 hb2=>hm.sep.apart j k (z6 E.N E.T ρ _ p.1 p.2) (z6 E.N E.T ρ _ q.1 q.2) (l4 hp) (l4 hq) hne b hb1 hb2
 . rcases hm.zle b h with h | h | h
   . exact hb.zle b h
   . exact .inr (hB b h)
   . exact .inr (.inr (Nat.le_trans hsz h))
theorem Mem.quiet {B:List Nat} (hm:Mem E C ρ Z w its nx) (hx:Ext B w w') (hB:∀ b∈B,b<w.heap.size->b ∉ w6 E ρ its/\¬ Z b/\C.w0.heap.size<=b):Mem E C ρ Z w' its nx:=by
 have hsz:=hm.sep.ext.size
 refine ⟨⟨hm.sep.ext.trans hx (fun x hx=>.inl hx) (fun x hx=>?_),fun b hb=>Nat.lt_of_lt_of_le (hm.sep.zlt b hb) hx.size,fun k t hk=>?_,hm.sep.apart⟩,hm.fr,hm.ge,hm.zge,hm.zle⟩
 . grind
 . obtain ⟨p,hp,rfl⟩:=m9 hk
   have ok:=hm.sep.ok k _ (l4 hp)
   refine ⟨p7 Z Z B w w' ok.holds hx (fun b hb h=>?_) (fun _ h=>h),p7,fun b hb=>Nat.lt_of_lt_of_le (ok.lt b hb) hx.size,ok.notZ,ok.org,ok.org0⟩
   rcases Nat.lt_or_ge b w.heap.size with h1 | h1
   . rcases h with h | h
     . exact absurd (p3.2 ⟨p,List.mem_of_getElem? hp,h⟩) (hB b hb h1).1
     simp_all
   . exact h1
def TnW (Z:Nat->Prop) (w:World) (Z':Nat->Prop) (w':World):Prop:=Tn (fun _=>none) Z w (fun _=>none) Z' w'
theorem TnW.of (h:Tn ρ Z w ρ' Z' w'):TnW Z w Z' w':=⟨fun _ _ h=>h,h.z,h.ext⟩
theorem TnW.tn (h:TnW Z w Z' w') (hρ:∀ i L,ρ i=some L->ρ' i=some L):Tn ρ Z w ρ' Z' w':=⟨hρ,h.z,h.ext⟩
theorem TnW.tr {Z1:Nat->Prop} {w1:World} (h:TnW Z w Z1 w1) (k:TnW Z1 w1 Z' w'):TnW Z w Z' w':=Tn.trans h k
theorem TnW.q {B:List Nat} (hx:Ext B w w') (hB:∀ b∈B,b<w.heap.size->¬ Z b):TnW Z w Z w':=⟨fun _ _ h=>h,fun _ h _=>h,B,hx,fun b hb hz=>by
 grind⟩
theorem Rel.base (h:Rel E C fx lkd st ρ Z f w):Rel E (Ctx.gr ρ Z w (w6 E ρ (st.items++lkd))) fx lkd st ρ Z f w:=⟨h.sl,h.fx,h.gs,h.mem.base,Tn.refl _ _ _,h.glob⟩
theorem Rel.unbase {lkd':i6 E.N} {fx':m6 E.N} {st':E.St} {f':Fr} (hb:Rel E C fx lkd st ρb Zb fb wb) (h:Rel E (Ctx.gr ρb Zb wb (w6 E ρb (st.items++lkd))) fx' lkd' st' ρ Z f' w):Rel E C fx' lkd' st' ρ Z f' w:=⟨h.sl,h.fx,h.gs,hb.mem.unbase h.mem,hb.tn.trans h.tn,hb.g⟩
structure Mk (E:Env) (C:Ctx) (ρ:n9) (Z:Nat->Prop) (w:World) (its:i6 E.N) (ds:List Nat):Prop where
 nd:ds.Nodup
 is:∀ D∈ds,w.heap[D]?=some (.deferred (some []))
 new:∀ D∈ds,C.w0.heap.size<=D
 ap:∀ D∈ds,D ∉ w6 E ρ its/\¬ Z D
theorem Mk.lt {ds:List Nat} (h:Mk E C ρ Z w its ds):∀ D∈ds,D<w.heap.size:=fun D hD=>(Array.getElem?_eq_some_iff.1 (h.is D hD)).1
theorem Mk.go {ds:List Nat} (h:Mk E C ρ Z w its ds) (hm:Mem E (Ctx.gr ρb Z w (w6 E ρ its)) ρ' Z' w' its' nx):Mk E C ρ' Z' w' its' ds:=by
 refine ⟨h.nd,fun D hD=>?_,h.new,fun D hD=>⟨fun hf=>?_,fun hz=>?_⟩⟩
 . rw [hm.sep.ext.block D (h.lt D hD) (h.ap D hD).1]; exact h.is D hD
 . obtain ⟨p,hp,hb⟩:=p3.1 hf
   have hlt:=h.lt D hD
   rcases (hm.okp hp).org D hb with h1 | h1
   . exact (h.ap D hD).1 h1
   . exact absurd h1 (Nat.not_le.2 hlt)
 . have hlt:=h.lt D hD
   rcases hm.zle D hz with h1 | h1 | h1
   . exact (h.ap D hD).2 h1
   . exact (h.ap D hD).1 h1
   . exact absurd h1 (Nat.not_le.2 hlt)
theorem Mk.sub {ds:List Nat} (h:Mk E C ρ Z w its ds) (hs:∀ p∈its',p∈its):Mk E C ρ Z w its' ds:=⟨h.nd,h.is,h.new,fun D hD=>⟨fun hf=>by
 obtain ⟨p,hp,hb⟩:=p3.1 hf
 exact (h.ap D hD).1 (p3.2 ⟨p,hs p hp,hb⟩),(h.ap D hD).2⟩⟩
def QKD (E:Env) (C:Ctx) (fx:m6 E.N) (lkd:i6 E.N) (K:Ks E):QD:=fun e f w ds=>∃ st ρ Z,Rel E C fx lkd st ρ Z f w/\Mk E C ρ Z w (st.items++lkd) ds/\c15 K e st
theorem a57 {inl:Inl E} {an:Ann} (hE:j7 E) (hI:F1 E inl) {c:Code} {K:Ks E} {ds:List Nat} (h:Rel E C fx lkd st ρ Z f w) (hk:Mk E C ρ Z w (st.items++lkd) ds) (hv:vc inl an c fx lkd st K):WD E.P an.n c (QKD E C fx lkd K) f w ds :=
 d7w (b9s hE hI c _ fx lkd st K ρ Z f w h.base hv) fun _ _ _ ⟨st',ρ',Z',hr,he⟩=>⟨st',ρ',Z',h.unbase hr,hk.go hr.mem,he⟩
theorem a8j:∀ (ds:List Nat) (w:World),Ext ds w (shutM w ds)
 | [],w=>Ext.refl _ _
 | D::ds,w=>by
  refine Ext.trans (B1:=[D]) (B2:=ds) (b:=w.putObj D (.deferred none)) ⟨rfl,rfl,rfl,by simp_all,fun b _ hb=>World.putObj_heap_other (by simp_all)⟩ (a8j ds _) (fun x hx=>.inl (by simp_all)) (fun x hx=>.inl (List.mem_cons_of_mem _ hx))
theorem Rel.shutM {ds:List Nat} (h:Rel E C fx lkd st ρ Z f w) (hk:Mk E C ρ Z w (st.items++lkd) ds):Rel E C fx lkd st ρ Z f (Go.Rx.shutM w ds):=by
 have hx:=a8j ds w
 have ht:TnW Z w Z (Go.Rx.shutM w ds):=TnW.q hx fun b hb _=>(hk.ap b hb).2
 exact ⟨fun k s e=>(ht.tn (fun _ _ h=>h)).rep (h.sl k s e),fun p hp=>(ht.tn (fun _ _ h=>h)).rep (h.fx p hp),fun k j b s e=>⟨fun hb=>(ht.tn (fun _ _ h=>h)).rep ((h.gs k j b s e).1 hb),(h.gs k j b s e).2⟩,h.mem.quiet hx fun b hb _=>⟨(hk.ap b hb).1,(hk.ap b hb).2,hk.new b hb⟩,h.tn.trans (ht.tn (fun _ _ h=>h)),h.g⟩
theorem b8i {keep:List Nat} {vs:List LV} {lkd':i6 E.N} {st':E.St} {α:Type} {g:Cur E.N α vs} {Kα:α->Prop} {K:α->E.St->Prop} (h0:Rel E C0 fx lkd st ρb Zb fb wb) (hl:∀ p∈lkd',p∈st.items++lkd)
  (h:Rel E C (n8 fx st keep++fx) lkd' st' ρ Z f w) (hρ:∀ i L,ρb i=some L->ρ i=some L) (hC:∀ i L,C.ρ0 i=some L->ρb i=some L) (hv:rbP E fx st (n8 fx st keep++fx) st' vs g Kα) (hK:H8 E fx st vs g ⟨[],[],[],st.nx⟩ K) :
  ∃ new ρ2 a,Kα a/\K a new/\Rel E C (n8 fx st keep++fx) lkd' new ρ2 Z f w/\∀ i L,ρb i=some L->ρ2 i=some L:=by
 unfold rbP at hv
 cases hb:b4d E fx st (n8 fx st keep++fx) st' vs with
 | false=>simp_all
 | true =>
  rw [hb,cond_true] at hv
  unfold b4d at hb
  simp only [Bool.and_eq_true] at hb
  obtain ⟨hd,hr⟩:=hb
  split at hv
  . rename_i a ha
    have hbase:∀ s id off,p5 fx st s=.ref id off->∃ L,ρb id=some L:=fun s id off e=>by
     have:=h0.slot s
     rw [e] at this
     generalize fb s=u at this
     cases this with
     | ref hL=>simp_all
    have hbA:∀ s id,b3c (p5 fx st s)=some id ∨ obN (p5 fx st s)=some id->∃ L,ρb id=some L:=fun s id e=>by
     have:=h0.slot s
     generalize p5 fx st s=x at e this
     generalize fb s=u at this
     rcases e with e | e
     . cases this with
       | acc hL=>cases e; simp_all
       | subs hL _ _ _ _ _=>cases e; simp_all
       | _=>cases e
     . cases this with
       | ref hL=>cases e; simp_all
       | yld hL=>cases e; simp_all
       | _=>cases e
    obtain ⟨new,ρ2,os,hF,hp,hk⟩:=K1 (fun s id e=>h0.ownN e) hbase hbA hρ h vs g a ⟨[],[],[],st.nx⟩ ρb [] ha (a7e hr) ⟨.nil,h0.mem.fr,fun _ _ h=>h,fun k s e=>(by cases e),rfl⟩ K hK
    have hnd:(os.filterMap id).Nodup:=hp.nodup_iff.2 (by simpa using E3 hd)
    refine ⟨new,ρ2,a,hv,hk,⟨hF.sl,fun p hp=>?_,fun k j b s e=>(by rw [hF.gs] at e; cases e),?_,⟨fun i L e=>hF.sub i L (hC i L e),h.tn.z,h.tn.ext⟩,h.g⟩,hF.sub⟩
    . have r1:=h.fx p hp
      have r2:∃ v,Rep E.N E.T ρb Zb wb v p.2:=by
       rcases List.mem_append.1 hp with hp | hp
       . simp only [n8,List.mem_map] at hp
         obtain ⟨s,_,rfl⟩:=hp
         exact ⟨_,h0.slot s⟩
       . exact ⟨_,h0.fx p hp⟩
      obtain ⟨v,r2⟩:=r2
      exact Rep.sub (Rep.lower r1 r2 hρ) hF.sub
    . refine Mem.rebuild h.mem (fun p hp=>?_) hF.tg hnd hF.fr (fun i L e=>hF.sub i L (hC i L e))
      obtain ⟨k,hk⟩:=List.getElem?_of_mem hp
      have e1:holds E.N E.T ρ p.1 Z w p.2:=h.mem.holds (k:=st'.items.length+k) (by grind)
      obtain ⟨k2,hk2⟩:=List.getElem?_of_mem (hl p hp)
      have e2:holds E.N E.T ρb p.1 Zb wb p.2:=h0.mem.holds hk2
      obtain ⟨a1,a2⟩:=a41 e1 e2 hρ
      obtain ⟨b1,b2⟩:=J0 hF.sub a1
      simp_all
  simp_all
end
end Go.Rx
end
section
namespace Go.Rx
open Go Go.Wk Go.Wl
structure YE (E:Env) where
 yo:ClX E.P->E.N.O 0
 is:∀ (b:Nat) (Z:Nat->Prop) (w:World) (x:ClX E.P) (F:List Nat),((E.N.oj 0).ob b).is Z w (yo x) F↔(obY E.P b).is Z w x F
def E9 (res:List Int->Int->Bool) (xs:List Int):Bool:=match xs.getLast? with | none=>false | some t=>!res xs.dropLast t
theorem c0r {res:List Int->Int->Bool} {xs:List Int} {t:Int}:E9 res (xs++[t])=!res xs t:=by simp [E9]
def stA (b:Bool):LoopState:=bif b then .done else .ready
def stP (b:Bool):Option Code:=bif b then some .ret else none
def d2n (L:Nat) (r:Loop):It:=⟨[L],[L],fun _ w=>w.heap[L]?=some (.loop r)⟩
theorem a8x {L:Nat} {r:Loop}:(d2n L r).Stab:=fun Z Z' B w w' h hx hB _=>by
 have h:w.heap[L]?=some (.loop r):=h
 have hlt:=(Array.getElem?_eq_some_iff.1 h).1
 show w'.heap[L]?=_
 rw [hx.block L hlt (fun hm=>absurd (hB L hm (.inl (List.mem_singleton.2 rfl))) (Nat.not_le.2 hlt))]; exact h
theorem Sep.stay2 {w w':World} {Z:Nat->Prop} {l:List It} {B F:List Nat} (hs:Sep F w Z w l) (hx:Ext B w w') (hB:∀ b∈B,b<w.heap.size->b ∉ F/\¬ Z b):Sep F w' Z w' l:=by
 refine ⟨Ext.refl _ _,fun b hb=>Nat.lt_of_lt_of_le (hs.zlt b hb) hx.size,fun k t hk=>?_,hs.apart⟩
 have ok:=hs.ok k t hk
 have hO:∀ b∈t.F,b∈t.O:=fun b hb=>by
  rcases ok.org b hb with h | h
  . exact h
  . exact absurd (ok.lt b hb) (Nat.not_lt.2 h)
 refine ⟨ok.stab Z Z B w w' ok.holds hx (fun b hb h=>?_) (fun _ h=>h),ok.stab,fun b hb=>Nat.lt_of_lt_of_le (ok.lt b hb) hx.size,ok.notZ,fun b hb=>.inl (hO b hb),ok.org0⟩
 rcases Nat.lt_or_ge b w.heap.size with h1 | h1
 . rcases h with h | h
   . exact absurd (ok.org0 b (hO b h)) (hB b hb h1).1
   simp_all
 . exact h1
theorem X6 (w:World) (L:Nat) (o:Obj):Ext [L] w (w.putObj L o):=⟨rfl,rfl,rfl,by simp_all,fun b _ hb=>World.putObj_heap_other (by simp_all)⟩
section
variable {E:Env} {fx:m6 E.N} {st:E.St}
theorem a1n {nm:List Nat} {α:Type} {G:α->Nat->i6 E.N->List E.SV->Prop}:∀ (ks:List TK) (f:tcD E.N α ks) (nx:Nat) (its:i6 E.N) (acc:List E.SV),a3x E nm ks nx its acc f G->∀ Y,G (a8s ks f Y) (X7 E nm ks nx its acc Y).1 (X7 E nm ks nx its acc Y).2.1 (X7 E nm ks nx its acc Y).2.2
 | [],_,_,_,_,h,_=>h
 | .v k::r,f,_,_,_,h,Y=>a1n r (f Y.1) _ _ _ (h Y.1) Y.2
 | .to _::r,f,_,_,_,h,Y=>a1n r f _ _ _ h Y
 | .nilp::r,f,_,_,_,h,Y=>a1n r f _ _ _ h Y
theorem a5v {nm:List Nat} {α:Type} {G:α->Nat->i6 E.N->Prop}:∀ (ps:List TP) (f:tpD E.N α ps) (i nx:Nat) (its:i6 E.N),a7i E nm ps i nx its f G->∀ Y,G (a88 ps f Y) (a43 E nm ps i nx its Y).1 (a43 E nm ps i nx its Y).2
 | [],_,_,_,_,h,_=>h
 | .own _ T ks::r,f,i,nx,its,h,Y=>a5v r _ _ _ _ (a1n ks f nx its [] h Y.1) Y.2
 | .ob _ k::r,f,i,nx,its,h,Y=>a5v r (f Y.1) _ _ _ (h Y.1) Y.2
theorem a4z {α:Type} {d:α} {G:α->E.St->Prop}:∀ (vs:List LV) (f:Cur E.N α vs) (new:E.St),a7n vs=true->H8 E fx st vs f new G->∀ Y,G (b7q d vs f Y) (c0w E fx st vs Y new)
 | [],_,_,_,h,_=>h
 | .slot s k::r,f,new,ho,h,Y=>a4z r (f Y.1) _ ho (h Y.1) Y.2
 | .tree ss ps::r,f,new,ho,h,Y=>a4z r (a88 ps f Y.1) _ ho (a5v ps f 0 _ _ h Y.1) Y.2
 | .own _ _::_,_,_,ho,_,_=>by cases ho
 | .ob _ _::_,_,_,ho,_,_=>by cases ho
 | .cont _ _::_,_,_,ho,_,_=>by cases ho
 | .chain _ _ _ _::_,_,_,ho,_,_=>by cases ho
 | .rows _ _ _ _::_,_,_,ho,_,_=>by cases ho
 | .alt::_,_,_,ho,_,_=>by cases ho
 | .unr _::_,_,_,ho,_,_=>by cases ho
def b7c:List LV->Bool
 | []=>true
 | v::r=>(match v with | .tree ss _=>ss.isEmpty | _=>false) && b7c r
def stY (E:Env) (fx:m6 E.N) (st:E.St) (vs:List LV) (Y:vC E.N vs):E.St:=c0w E fx st vs Y ⟨[],[],[],st.nx⟩
theorem a5j:∀ (vs:List LV) (Y:vC E.N vs) (new:E.St),b7c vs=true->(c0w E fx st vs Y new).slots=new.slots
 | [],_,_,_=>rfl
 | v::r,Y,new,h=>by
  unfold b7c at h
  simp only [Bool.and_eq_true] at h
  obtain ⟨h1,h2⟩:=h
  cases v with
  | tree ss ps =>
   have h1:ss.isEmpty=true:=h1
   have e:ss=[]:=List.isEmpty_iff.1 h1
   subst e
   exact a5j r Y.2 _ h2
  | _=>cases h1
theorem a8r {vs:List LV} (Y:vC E.N vs) (h:b7c vs=true):(stY E fx st vs Y).slots=[]:=a5j vs Y _ h
end
section
variable {E:Env} {C0:Ctx} {ρ:n9} {Z:Nat->Prop} {w:World} {lkd:i6 E.N} {fx:m6 E.N} {st:E.St} {f:Fr} {inl:Inl E} {an:Ann}
def JY (E:Env) (fx:m6 E.N) (st:E.St) (vs:List LV) (rest:i6 E.N) (L:Nat) (rec:LoopState->Option Code->Loop) (I:List Int->Cur E.N Prop vs) (res:List Int->Int->Bool) (ρ:n9) (Z:Nat->Prop) (w:World) (Zc:Nat->Prop) (wc:World) (xs:List Int) (F:List Nat):Prop :=
 ∃ (Y:vC E.N vs) (ρj:n9) (Zj:Nat->Prop),b7q False vs (I xs) Y/\(∀ i,(stY E fx st vs Y).nx<=i->ρj i=none)/\(∀ i Lo,ρ i=some Lo->ρj i=some Lo)/\(∀ b,Zj b->Zc b ∨ b∈F)/\(∀ b∈F,b<wc.heap.size)/\TnW Z w Zj wc /\
  Sep F wc Zj wc (d2n L (rec (stA (E9 res xs)) (stP (E9 res xs)))::o0 E.N E.T ρj F ((stY E fx st vs Y).items++rest))
variable {vs:List LV} {rest:i6 E.N} {L:Nat} {I:List Int->Cur E.N Prop vs} {res:List Int->Int->Bool} {pre:List Int->Int->Prop} {keep:List Nat} {p:Nat} {asg body:Code} {fn D:Nat} {tm:Array Value}
theorem c96 {rec:LoopState->Option Code->Loop} {xs:List Int} {F:List Nat}:It.Stab ⟨F,[],fun Zc wc=>JY E fx st vs rest L rec I res ρ Z w Zc wc xs F⟩:=by
 intro Z1 Z2 B w1 w2 h hx hB hZ
 obtain ⟨Y,ρj,Zj,hY,hfr,hsub,hZj,hlt,htn,hs⟩:=h
 have hB':∀ b∈B,b<w1.heap.size->b ∉ F/\¬ Zj b:=fun b hb h1=>by
  grind
 refine ⟨Y,ρj,Zj,hY,hfr,hsub,fun b hb=>?_,fun b hb=>Nat.lt_of_lt_of_le (hlt b hb) hx.size,htn.tr (TnW.q hx fun b hb h1=>(hB' b hb h1).2),Sep.stay2 hs hx hB'⟩
 grind
theorem c4x {C:Ctx} {ρ1:n9} {Z1:Nat->Prop} {w1 w2:World} {st1:E.St} {f1:Fr} {fx1:m6 E.N} {lk1:i6 E.N} {B:List Nat} (h:Rel E C fx1 lk1 st1 ρ1 Z1 f1 w1) (hx:Ext B w1 w2) (hB:∀ b∈B,b<w1.heap.size->b ∉ w6 E ρ1 (st1.items++lk1)/\¬ Z1 b):Rel E (Ctx.gr C.ρ0 Z1 w2 (w6 E ρ1 (st1.items++lk1))) fx1 lk1 st1 ρ1 Z1 f1 w2:=by
 have ht:Tn ρ1 Z1 w1 ρ1 Z1 w2:=(TnW.q hx fun b hb h1=>(hB b hb h1).2).tn (fun _ _ h=>h)
 exact ⟨fun k s e=>ht.rep (h.sl k s e),fun q hq=>ht.rep (h.fx q hq),fun k j b s e=>⟨fun hb=>ht.rep ((h.gs k j b s e).1 hb),(h.gs k j b s e).2⟩,h.mem.movB hx hB h.mem.ge,⟨h.mem.ge,fun _ h _=>h,[],Ext.refl _ _,fun _ h=>by cases h⟩,Y2.turn h.glob ht⟩
theorem c4b (hE:j7 E) (hI:F1 E inl) (h:Rel E C0 fx lkd st ρ Z f w) (hrest:∀ q∈rest,q∈st.items++lkd) (hns:b7c vs=true) (hok:a7n vs=true) (hp:Nat.blt p an.n=true) (hpf:∀ q∈n8 fx st keep++fx,q.1≠p)
  (hst:∀ xs t,pre xs t->E9 res xs=false)
  (hv:∀ xs t,b9 t->pre xs t->H8 E fx st vs (I xs) ⟨[],[],[],st.nx⟩ (fun x new=>x->vc inl an asg (n8 fx st keep++fx) rest ⟨(p,.int .i64 t)::new.slots,[],new.items,new.nx⟩
   ⟨fun st1=>vc inl an body (n8 fx st keep++fx) rest st1 ⟨fun st'=>res xs t=true/\rbP E fx st (n8 fx st keep++fx) st' vs (I (xs++[t])) id,fun st'=>res xs t=false/\rbP E fx st (n8 fx st keep++fx) st' vs (I (xs++[t])) id,[]⟩,fun _=>False,[]⟩))
  (hi:Is { tmps:=tm,defers:=[] } f an.n) (Zc:Nat->Prop) (wc:World) (F:List Nat) (xs:List Int) (t:Int) (hz:∀ b,Zc b->b<wc.heap.size) (hF:∀ b∈F,¬ Zc b) (hJ:JY E fx st vs rest L (rcL fn tm #[p] asg body D) I res ρ Z w Zc wc xs F) (hpre:pre xs t) (hin:b9 t) :
  T5 E.P L [.int .i64 t] wc (fun v w'=>v=.bool (res xs t)/\∃ F',JY E fx st vs rest L (rcL fn tm #[p] asg body D) I res ρ Z w Zc w' (xs++[t]) F'/\c2f wc w' F F'):=by
 classical
 obtain ⟨Y,ρj,Zj,hY,hfr,hsub,hZj,hlt,htn,hs⟩:=hJ
 have hsb:=hst xs t hpre
 rw [hsb] at hs
 have hrec:wc.heap[L]?=some (.loop (rcL fn tm #[p] asg body D .ready none)):=hs.at 0 rfl
 have hLlt:L<wc.heap.size:=(Array.getElem?_eq_some_iff.1 hrec).1
 have hLF:L∈F:=(hs.ok 0 _ rfl).org0 L (List.mem_singleton.2 rfl)
 have hLZ:¬ Zj L:=hs.nz 0 rfl L (List.mem_singleton.2 rfl)
 have hLf:L ∉ w6 E ρj ((stY E fx st vs Y).items++rest):=fun hm=>by
  obtain ⟨q,hq,hb⟩:=p3.1 hm
  obtain ⟨k,hk⟩:=List.getElem?_of_mem hq
  exact hs.apart 0 (k+1) _ (z6 E.N E.T ρj F q.1 q.2) rfl (by rw [List.getElem?_cons_succ]; exact l4 hk) (by omega) L (List.mem_singleton.2 rfl) hb
 have hfF:∀ b∈w6 E ρj ((stY E fx st vs Y).items++rest),b∈F:=fun b hm=>by
  obtain ⟨q,hq,hb⟩:=p3.1 hm
  obtain ⟨k,hk⟩:=List.getElem?_of_mem hq
  have ok:=hs.ok (k+1) (z6 E.N E.T ρj F q.1 q.2) (by rw [List.getElem?_cons_succ]; exact l4 hk)
  rcases ok.org b hb with h1 | h1
  . exact h1
  . exact absurd (ok.lt b hb) (Nat.not_lt.2 h1)
 have hm0:Mem E (Ctx.gr ρ Zj wc F) ρj Zj wc ((stY E fx st vs Y).items++rest) (stY E fx st vs Y).nx:=⟨hs.drop,hfr,hsub,fun _ h=>h,fun _ h=>.inl h⟩
 have hm:=hm0.movB (B:=[]) (Ext.refl _ _) (fun _ h=>by cases h) hsub
 have hT:Tn ρ Z w ρj Zj wc:=htn.tn hsub
 have hr0:Rel E (Ctx.gr ρ Zj wc (w6 E ρj ((stY E fx st vs Y).items++rest))) (n8 fx st keep++fx) rest ⟨(p,.int .i64 t)::(stY E fx st vs Y).slots,[],(stY E fx st vs Y).items,(stY E fx st vs Y).nx⟩ ρj Zj (upd f p (.int .i64 t)) wc:=by
  refine ⟨fun k s e=>?_,fun q hq=>?_,fun k j b s e=>(by cases e),hm,⟨hsub,fun _ h _=>h,[],Ext.refl _ _,fun _ h=>by cases h⟩,Y2.turn h.glob hT⟩
  . have e:lk ((p,.int .i64 t)::(stY E fx st vs Y).slots) k=some s:=e
    rw [D9] at e
    by_cases hk:p=k
    . rw [if_pos hk] at e; cases e; subst hk; rw [H7,if_pos rfl]; exact .int fun _=>hin
    . rw [if_neg hk,a8r Y hns] at e; cases e
  . rw [H7,if_neg (hpf q hq)]
    refine hT.rep ?_
    rcases List.mem_append.1 hq with hq | hq
    . simp only [n8,List.mem_map] at hq
      obtain ⟨s,_,rfl⟩:=hq
      exact h.slot s
    . exact h.fx q hq
 have hvc:=a4z (d:=False) vs (I xs) _ hok (hv xs t hin hpre) Y hY
 refine b3l hrec hi hp (S5 (b9s hE hI asg _ _ _ _ _ ρj Zj _ wc hr0 hvc) fun e f2 w2 q=>?_)
 obtain ⟨st1,ρ1,Z1,hr1,he1⟩:=q
 cases e with
 | normal =>
  have he1:vc inl an body (n8 fx st keep++fx) rest st1 ⟨fun st'=>res xs t=true/\rbP E fx st (n8 fx st keep++fx) st' vs (I (xs++[t])) id,fun st'=>res xs t=false/\rbP E fx st (n8 fx st keep++fx) st' vs (I (xs++[t])) id,[]⟩:=he1
  have hx1:Ext (w6 E ρj ((stY E fx st vs Y).items++rest)) wc w2:=hr1.mem.sep.ext
  have hL2:w2.heap[L]?=some (.loop (rcL fn tm #[p] asg body D .ready none)):=by rw [hx1.block L hLlt hLf]; exact hrec
  refine ⟨hL2,?_⟩
  have hLf1:L ∉ w6 E ρ1 (st1.items++rest):=fun hm=>by
   obtain ⟨q,hq,hb⟩:=p3.1 hm
   rcases (hr1.mem.okp hq).org L hb with h1 | h1
   . exact hLf h1
   . exact absurd hLlt (Nat.not_lt.2 h1)
  have hLZ1:¬ Z1 L:=fun hz=>by
   rcases hr1.mem.zle L hz with h1 | h1 | h1
   . exact hLZ h1
   . exact hLf h1
   . exact absurd hLlt (Nat.not_lt.2 h1)
  have hr2:=c4x hr1 (X6 w2 L (.loop (rcL fn tm #[p] asg body D .busy none))) (fun b hb _=>by simp_all)
  refine S5 (b9s hE hI body _ _ _ _ _ ρ1 Z1 f2 _ hr2 he1) fun e f3 w3 q=>?_
  obtain ⟨st',ρ',Z',hr',he'⟩:=q
  have hx3:Ext (w6 E ρ1 (st1.items++rest)) (w2.putObj L (.loop (rcL fn tm #[p] asg body D .busy none))) w3:=hr'.mem.sep.ext
  have hLlt2:L<w2.heap.size:=(Array.getElem?_eq_some_iff.1 hL2).1
  have hLlt2':L<(w2.putObj L (.loop (rcL fn tm #[p] asg body D .busy none))).heap.size:=by rw [World.putObj_size]; exact hLlt2
  have hL3:w3.heap[L]?=some (.loop (rcL fn tm #[p] asg body D .busy none)):=by rw [hx3.block L hLlt2' hLf1]; exact World.putObj_heap_same hLlt2
  have hLlt3:L<w3.heap.size:=(Array.getElem?_eq_some_iff.1 hL3).1
  have fin:∀ b:Bool,res xs t=b->rbP E fx st (n8 fx st keep++fx) st' vs (I (xs++[t])) id->(Value.bool b=.bool (res xs t)/\∃ F',JY E fx st vs rest L (rcL fn tm #[p] asg body D) I res ρ Z w Zc (w3.putObj L (.loop (rcL fn tm #[p] asg body D (stA (!b)) (stP (!b))))) (xs++[t]) F'/\c2f wc (w3.putObj L (.loop (rcL fn tm #[p] asg body D (stA (!b)) (stP (!b))))) F F'):=by
   intro b hb hrb
   obtain ⟨new,ρ2,a,ha,⟨Y',e1,e2⟩,hr3,hsub2⟩:=b8i (K:=fun x new=>∃ Y,x=b7q False vs (I (xs++[t])) Y/\new=stY E fx st vs Y) h hrest hr' hr'.mem.ge (fun _ _ h=>h) hrb (a4o (d:=False) vs _ _ hok fun Y=>⟨Y,rfl,rfl⟩)
   subst e2
   have hLf2:L ∉ w6 E ρ2 ((stY E fx st vs Y').items++rest):=fun hm=>by
    obtain ⟨q,hq,hb⟩:=p3.1 hm
    rcases (hr3.mem.okp hq).org L hb with h1 | h1
    . exact hLf1 h1
    . exact absurd hLlt2' (Nat.not_lt.2 h1)
   have hLZ2:¬ Z' L:=fun hz=>by
    rcases hr3.mem.zle L hz with h1 | h1 | h1
    . exact hLZ1 h1
    . exact hLf1 h1
    . exact absurd hLlt2' (Nat.not_lt.2 h1)
   have hm4:=hr3.mem.movB (X6 w3 L (.loop (rcL fn tm #[p] asg body D (stA (!b)) (stP (!b))))) (fun b' hb' _=>by simp_all) hr3.mem.ge
   have hs1:w2.heap.size<=w3.heap.size:=by have:=hx3.size; rw [World.putObj_size] at this; exact this
   have hs0:=hx1.size
   let ex:=(List.range w3.heap.size).filter fun b=>decide (Z' b/\¬ Zc b)
   have hex:∀ b,b∈ex↔b<w3.heap.size/\Z' b/\¬ Zc b:=fun b=>by simp [ex]
   -- old feet
   have org1:∀ b∈w6 E ρ1 (st1.items++rest),b∈F ∨ wc.heap.size<=b:=fun b hb=>by
    obtain ⟨q,hq,hb⟩:=p3.1 hb
    rcases (hr1.mem.okp hq).org b hb with h1 | h1
    . exact .inl (hfF b h1)
    . exact .inr h1
   have org2:∀ b∈w6 E ρ2 ((stY E fx st vs Y').items++rest),b∈F ∨ wc.heap.size<=b:=fun b hb=>by
    obtain ⟨q,hq,hb⟩:=p3.1 hb
    rcases (hr3.mem.okp hq).org b hb with h1 | h1
    . exact org1 b h1
    . have h1:(w2.putObj L (.loop (rcL fn tm #[p] asg body D .busy none))).heap.size<=b:=h1
      rw [World.putObj_size] at h1; omega
   have orgZ:∀ b,Z' b->Zc b ∨ b∈F ∨ wc.heap.size<=b:=fun b hz=>by
    rcases hr3.mem.zle b hz with h1 | h1 | h1
    . rcases hr1.mem.zle b h1 with h1 | h1 | h1
      . rcases hZj b h1 with h1 | h1
        all_goals simp_all
      . exact .inr (.inl (hfF b h1))
      . exact .inr (.inr h1)
    . exact .inr (org1 b h1)
    . have h1:(w2.putObj L (.loop (rcL fn tm #[p] asg body D .busy none))).heap.size<=b:=h1
      rw [World.putObj_size] at h1; omega
   have ltf:∀ b∈w6 E ρ2 ((stY E fx st vs Y').items++rest),b<w3.heap.size:=fun b hb=>by
    obtain ⟨q,hq,hb⟩:=p3.1 hb
    exact (hr3.mem.okp hq).lt b hb
   refine ⟨by rw [hb],L::(w6 E ρ2 ((stY E fx st vs Y').items++rest)++ex),⟨Y',ρ2,Z',e1 ▸ ha,hr3.mem.fr,hsub2,fun b hb=>?_,fun b hb=>?_,?_,?_⟩,?_,fun b hb=>?_⟩
   . by_cases hc:Zc b
     . exact .inl hc
     . exact .inr (List.mem_cons_of_mem _ (List.mem_append_right _ ((hex b).2 ⟨hr3.mem.sep.zlt b hb,hb,hc⟩)))
   . rw [World.putObj_size]
     grind
   . exact (((htn.tr (TnW.of hr1.tn)).tr (TnW.q (X6 w2 L _) fun b hb _=>by simp_all)).tr (TnW.of hr3.tn)).tr (TnW.q (X6 w3 L _) fun b hb _=>by simp_all)
   . have es:E9 res (xs++[t])=!b:=by rw [c0r,hb]
     rw [es]
     have h5:Sep (L::(w6 E ρ2 ((stY E fx st vs Y').items++rest)++ex)) (w3.putObj L (.loop (rcL fn tm #[p] asg body D (stA (!b)) (stP (!b))))) Z' (w3.putObj L (.loop (rcL fn tm #[p] asg body D (stA (!b)) (stP (!b))))) (o0 E.N E.T ρ2 (L::(w6 E ρ2 ((stY E fx st vs Y').items++rest)++ex)) ((stY E fx st vs Y').items++rest)) :=
      a5e hm4.sep fun q hq b hb=>.inl (List.mem_cons_of_mem _ (List.mem_append_left _ (p3.2 ⟨q,hq,hb⟩)))
     refine Sep.give h5 ?_ a8x (fun b' hb'=>?_) (fun b' hb'=>?_) rfl (fun b' hb'=>?_) (fun k s hk b' hb' hbs=>?_)
     . exact World.putObj_heap_same hLlt3
     . have hb':b'∈[L]:=hb'
       simp_all
     . have hb':b'∈[L]:=hb'
       simp_all
     . have hb':b'∈[L]:=hb'
       simp_all
     . have hb':b'∈[L]:=hb'
       rw [List.mem_singleton] at hb'; subst hb'
       obtain ⟨q,hq,rfl⟩:=m9 hk
       exact hLf2 (p3.2 ⟨q,List.mem_of_getElem? hq,hbs⟩)
   . refine Ext.trans (B1:=F) (B2:=F) (b:=w3) ?_ ((X6 w3 L _).mono fun x hx=>by simp_all) (fun x hx=>.inl hx) (fun x hx=>.inl hx)
     refine Ext.trans (B1:=F) (B2:=w6 E ρ1 (st1.items++rest)) (b:=w2.putObj L (.loop (rcL fn tm #[p] asg body D .busy none))) ?_ hx3 (fun x hx=>.inl hx) org1
     exact Ext.trans (B1:=w6 E ρj ((stY E fx st vs Y).items++rest)) (B2:=[L]) (b:=w2) hx1 (X6 w2 L _) (fun x hx=>.inl (hfF x hx)) (fun x hx=>by simp_all)
   . grind
  cases e with
  | normal=>exact ⟨hL3,.inl ⟨rfl,fin true he'.1 he'.2⟩⟩
  | ret=>exact ⟨hL3,.inr ⟨rfl,fin false he'.1 he'.2⟩⟩
  | _=>exact he'.elim
 | _=>exact he1.elim
end
end Go.Rx
end
section
namespace Go.Rx
open Go Go.Wk Go.Wl
def a6z {N:Uni}:List (SV N)->Option (List Nat)
 | []=>some []
 | v::r=>match v with
  | .ref id off=>bif Nat.beq off 0 then (match a6z r with | some l=>some (id::l) | none=>none) else none
  | _=>none
def c4n {N:Uni} (its:i6 N):Nat->List Nat->Option (i6 N)
 | _,[]=>some []
 | n,id::r=>match lk its id with
  | some (.own T cells)=>bif cells.all B3 then (match c4n its (n+1) r with | some l=>some ((n,.own T cells)::l) | none=>none) else none
  | _=>none
def b8j {N:Uni}:Nat->Nat->List (SV N)
 | _,0=>[]
 | n,m+1=>.ref n 0::b8j (n+1) m
structure b6m (E:Env) (Y:YE E) where
 f:Nat->List E.SV->i6 E.N->(List Int->Int->Prop)->(List Int->Int->Bool)->Option (Prop×List Int)
 ok:∀ K cs its pre res ob xs,f K cs its pre res=some (ob,xs)->ob->(∀ args w,(callFunc K args).run E.P w=.ok (.enter K args) w)/\∀ c:Cl E.P,c.pre=pre->c.res=res ->
  R9 E.P E.N E.T E.G K (.yld 0::cs) ((0,.ob 0 (its.length+1) (Y.yo (c,[])))::its) (2 * (its.length+1)) (fun k=>∀ fid n v,k v ((0,.ob 0 fid (Y.yo (c,xs)))::its) n)
section
variable {E:Env} {ρ ρ':n9} {Z:Nat->Prop} {w e:World} {its:i6 E.N}
theorem a8e:∀ (ids:List Nat) (n:Nat) (itc:i6 E.N),c4n its n ids=some itc->itc.length=ids.length/\∀ j q,itc[j]?=some q->∃ id T cells,ids[j]?=some id/\lk its id=some (.own T cells)/\cells.all B3=true/\q=(n+j,.own T cells)
 | [],n,itc,h=>by cases h; exact ⟨rfl,fun j q hq=>by simp at hq⟩
 | id::r,n,itc,h=>by
  unfold c4n at h
  split at h
  . rename_i T cells hl
    have ⟨h1,h2⟩:=j3 h
    split at h2
    . rename_i l hr
      cases h2
      obtain ⟨g1,g2⟩:=a8e r (n+1) l hr
      refine ⟨by simp [g1],fun j q hq=>?_⟩
      cases j with
      | zero=>simp at hq; exact ⟨id,T,cells,rfl,hl,h1,by rw [<- hq]; rfl⟩
      | succ j =>
       obtain ⟨id',T',cells',a1,a2,a3,a4⟩:=g2 j q (by simpa using hq)
       exact ⟨id',T',cells',by simpa using a1,a2,a3,by rw [a4]; congr 1; omega⟩
    . cases h2
  . cases h
theorem b42 {ρc:n9}:∀ (cs:List E.SV) (ids:List Nat) (vs:List Value) (n:Nat),a6z cs=some ids->i7 E.N E.T ρ Z w vs cs->(∀ j id,ids[j]?=some id->ρc (n+j)=ρ id)->Rep E.N E.T ρc Z e (.tuple vs.toArray) (.tup (b8j n ids.length))
 | [],ids,vs,n,h,hr,_=>by
  cases h
  rw [i7.nil_inv hr]; exact .tup0
 | v::cs,ids,vs,n,h,hr,hc=>by
  unfold a6z at h
  split at h
  . rename_i id off
    have ⟨h1,h2⟩:=j3 h
    split at h2
    . rename_i l hl
      cases h2
      have:=Nat.eq_of_beq_eq_true h1
      subst this
      obtain ⟨v1,r,rfl,g1,_,g2⟩:=hr.cons_inv
      cases g1 with
      | ref hL =>
       exact .tup1 (.ref (by have:=hc 0 id rfl; rw [Nat.add_zero] at this; rw [this]; exact hL)) (b42 cs l r (n+1) hl g2 fun j id' hj=>by rw [show n+1+j=n+(j+1) by omega]; exact hc (j+1) id' (by simpa using hj))
    . cases h2
  . cases h
theorem b9y {id:Nat} {x y:Item E.N} (hd:distinct (its.map (·.1))=true) (h1:lk its id=some x) (h2:(id,y)∈its):y=x:=by
 have hn:=E3 hd
 obtain ⟨i,hi,_⟩:=p8 h1
 obtain ⟨j,hj⟩:=List.getElem?_of_mem h2
 have e1:(its.map (·.1))[i]?=some id:=by simp [hi]
 have e2:(its.map (·.1))[j]?=some id:=by simp [hj]
 have hlt:i<(its.map (·.1)).length:=s6 e1
 have:i=j:=(List.getElem?_inj hlt hn).1 (e1.trans e2.symm)
 subst this
 rw [hi] at hj; cases hj; rfl
end
section
variable {E:Env} {C:Ctx} {ρ:n9} {Z:Nat->Prop} {w:World} {lkd:i6 E.N} {fx:m6 E.N} {st:E.St} {f:Fr} {inl:Inl E} {an:Ann} {YY:YE E} {ds:List Nat}
variable {vs:List LV} {I:List Int->Cur E.N Prop vs} {res:List Int->Int->Bool} {pre:List Int->Int->Prop} {keep ids iti:List Nat} {p:Nat} {asg body:Code} {K:Ks E} {g:Operand} {gf:Nat} {cs:List E.SV} {itc:i6 E.N} {ob:Prop} {xs:List Int}
theorem b2x (w:World) (fn:FuncId) (tm:Array Value) (ps:Array Tmp) (asg body:Code):Ext [] w (X4 w fn tm ps asg body):=by
 have h1:∀ (w:World) (o:Obj),Ext [] w (w.alloc o):=fun w o=>⟨rfl,rfl,rfl,by show w.heap.size<=(w.heap.push o).size; rw [Array.size_push]; omega,fun k hk _=>by
  show (w.heap.push o)[k]?=_
  rw [Array.getElem?_push,if_neg (by omega)]⟩
 exact (h1 w _).tr (h1 _ _)
theorem a9q (w:World) (fn:FuncId) (tm:Array Value) (ps:Array Tmp) (asg body:Code):(X4 w fn tm ps asg body).heap.size=w.heap.size+2:=by
 show ((w.heap.push _).push _).size=_
 rw [Array.size_push,Array.size_push]
theorem c1l (w:World) (fn:FuncId) (tm:Array Value) (ps:Array Tmp) (asg body:Code):(X4 w fn tm ps asg body).heap[w.heap.size+1]?=some (.loop (rcL fn tm ps asg body w.heap.size .ready none)):=by
 show ((w.heap.push _).push _)[w.heap.size+1]?=_
 rw [Array.getElem?_push,if_pos (by rw [Array.size_push])]
theorem c0u (w:World) (fn:FuncId) (tm:Array Value) (ps:Array Tmp) (asg body:Code):(X4 w fn tm ps asg body).heap[w.heap.size]?=some (.deferred (some [])):=by
 show ((w.heap.push _).push _)[w.heap.size]?=_
 rw [Array.getElem?_push,if_neg (by rw [Array.size_push]; omega),Array.getElem?_push,if_pos rfl]
theorem c6k (hE:j7 E) (hI:F1 E inl) (TL:b6m E YY) (h:Rel E C fx lkd st ρ Z f w) (hk:Mk E C ρ Z w (st.items++lkd) ds) (hg:evS fx lkd st [] g=.clo gf cs) (hcs:a6z cs=some iti) (hci:c4n st.items 1 iti=some itc)
  (hp:Nat.blt p an.n=true) (hdi:distinct iti=true) (hds:distinct (st.items.map (·.1))=true) (hns:b7c vs=true) (hok:a7n vs=true) (hni:iti.all (fun i=>!ids.elem i)=true) (hpf:(n8 fx st keep++fx).all (fun q=>!Nat.beq q.1 p)=true)
  (hids:ids=s8 E fx st vs)
  (h0:rbP E fx st (n8 fx st keep++fx) (inn st ids) vs (I []) id) (hst:∀ xs t,pre xs t->E9 res xs=false)
  (hv:∀ xs t,b9 t->pre xs t->H8 E fx st vs (I xs) ⟨[],[],[],st.nx⟩ (fun x new=>x->vc inl an asg (n8 fx st keep++fx) (l6 (l6 st.items ids) iti++lkd) ⟨(p,.int .i64 t)::new.slots,[],new.items,new.nx⟩
   ⟨fun st1=>vc inl an body (n8 fx st keep++fx) (l6 (l6 st.items ids) iti++lkd) st1 ⟨fun st'=>res xs t=true/\rbP E fx st (n8 fx st keep++fx) st' vs (I (xs++[t])) id,fun st'=>res xs t=false/\rbP E fx st (n8 fx st keep++fx) st' vs (I (xs++[t])) id,[]⟩,fun _=>False,[]⟩))
  (ht:TL.f gf (b8j 1 iti.length) itc pre res=some (ob,xs)) (hob:ob)
  (hK:H8 E fx st vs (I xs) ⟨[],[],[],st.nx⟩ (fun x new=>x->(bif E9 res xs then K.r else K.n) ⟨new.slots++n8 fx st keep,[],new.items++l6 st.items ids,new.nx⟩)) :
  WD E.P an.n (.rangeFunc g #[p] asg body) (QKD E C fx lkd K) f w ds:=by
 have hR:=h.base
 obtain ⟨new,ρ2,a,ha,⟨Y0,e1,e2⟩,h2⟩:=a2z (K:=fun x new=>∃ Y,x=b7q False vs (I []) Y/\new=stY E fx st vs Y) hR (hR.enter keep ids) h0 (a4o (d:=False) vs _ _ hok fun Y=>⟨Y,rfl,rfl⟩)
 subst e2
 have hm2:Mem E (Ctx.gr ρ Z w (w6 E ρ (st.items++lkd))) ρ2 Z w ((stY E fx st vs Y0).items++(l6 st.items ids++lkd)) (stY E fx st vs Y0).nx:=h2.mem
 have hsub2:∀ i L,ρ i=some L->ρ2 i=some L:=hm2.ge
 generalize hWi:l6 st.items ids=Wi at *
 generalize hrest:l6 Wi iti++lkd=rest at *
 have hWsub:∀ q∈Wi,q∈st.items:=fun q hq=>by rw [<- hWi] at hq; exact (List.mem_filter.1 hq).1
 have hrsub:∀ q∈rest,q∈st.items++lkd:=fun q hq=>by
  rw [<- hrest] at hq
  rcases List.mem_append.1 hq with hq | hq
  . exact List.mem_append_left _ (hWsub q (List.mem_filter.1 hq).1)
  . exact List.mem_append_right _ hq
 have perm:∀ A:i6 E.N,(A++(Wi++lkd)).Perm ((A++rest)++within Wi iti):=fun A=>by
  rw [<- hrest,List.append_assoc A]
  refine List.Perm.append_left A ?_
  have:=(W3 Wi iti).append_right lkd
  refine this.trans ?_
  rw [List.append_assoc]
  exact List.perm_append_comm
 have hmp:=hm2.perm (perm (stY E fx st vs Y0).items)
 -- the parts that the function is led to
 obtain ⟨hlen,hcan⟩:=a8e iti 1 itc hci
 have hndi:=E3 hdi
 have inI:∀ j id,iti[j]?=some id->∃ T cells L,lk st.items id=some (.own T cells)/\cells.all B3=true/\itc[j]?=some (1+j,.own T cells)/\ρ id=some L/\L.bs=[L.b]/\(id,Item.own T cells)∈st.items:=fun j id hj=>by
  have hlt:j<itc.length:=by rw [hlen]; exact s6 hj
  obtain ⟨id',T,cells,a1,a2,a3,a4⟩:=hcan j _ (List.getElem?_eq_getElem hlt)
  rw [hj] at a1; cases a1
  obtain ⟨k,hk',_⟩:=p8 a2
  obtain ⟨L,_,hL,hbs,_⟩:=h.mem.holds (l8 (l2:=lkd) hk')
  exact ⟨T,cells,L,a2,a3,by rw [List.getElem?_eq_getElem hlt,a4],hL,hbs,List.mem_of_getElem? hk'⟩
 have inW:∀ q∈within Wi iti,∃ (j:Nat) (T:Nat) (cells:List E.SV) (L:Loc),iti[j]?=some q.1/\q.2=.own T cells/\cells.all B3=true/\itc[j]?=some (1+j,.own T cells)/\ρ q.1=some L/\L.bs=[L.b]/\q∈st.items:=fun q hq=>by
  obtain ⟨q1,q2⟩:=q
  obtain ⟨hq1,hq2⟩:=List.mem_filter.1 hq
  obtain ⟨j,hj⟩:=List.getElem?_of_mem (List.elem_iff.1 hq2)
  obtain ⟨T,cells,L,b1,b2,b3,b4,b5,_⟩:=inI j q1 hj
  exact ⟨j,T,cells,L,hj,b9y hds b1 (hWsub _ hq1),b2,b3,b4,b5,hWsub _ hq1⟩
 -- the closure
 have hre:=h.ev W8.nil g
 rw [hg] at hre
 generalize hgv:Wk.ev f g=gv at hre
 cases hre with | @clo _ lb _ hrl =>
 have hrl:i7 E.N E.T ρ Z w lb cs:=hrl
 obtain ⟨heg,hgen⟩:=TL.ok _ _ _ _ _ _ _ ht hob
 refine c66 (lb:=lb) hgv heg fun fn tm hi=>?_
 have hxe:=b2x w fn tm #[p] asg body
 have hse:=a9q w fn tm #[p] asg body
 have hL0:=c1l w fn tm #[p] asg body
 have hD0:=c0u w fn tm #[p] asg body
 generalize X4 w fn tm #[p] asg body=ew at hxe hse hL0 hD0 ⊢
 have hzw:∀ b,Z b->b<w.heap.size:=h.mem.sep.zlt
 have hlt2:∀ (b:Nat) (its:i6 E.N),(∀ q∈its,q∈(stY E fx st vs Y0).items++(Wi++lkd))->b∈w6 E ρ2 its->b<w.heap.size:=fun b its hs hb=>by
  obtain ⟨q,hq,hb⟩:=p3.1 hb
  exact (hm2.okp (hs q hq)).lt b hb
 -- the client's own parts
 have hl1:∀ q∈(stY E fx st vs Y0).items++rest,q∈(stY E fx st vs Y0).items++(Wi++lkd):=fun q hq=>(perm _).mem_iff.2 (List.mem_append_left _ hq)
 have hmJ:Mem E (Ctx.gr ρ Z ew (w6 E ρ2 ((stY E fx st vs Y0).items++rest))) ρ2 Z ew ((stY E fx st vs Y0).items++rest) (stY E fx st vs Y0).nx :=
  (hmp.sel (its':=(stY E fx st vs Y0).items++rest) (nx':=(stY E fx st vs Y0).nx) (fun _ _ h=>h) hmp.fr (fun i=>i) (fun _ _ _ _ h=>h) fun i q hq=>l8 hq).movB hxe (fun _ h=>by cases h) hsub2
 generalize hF0:(w.heap.size+1)::w6 E ρ2 ((stY E fx st vs Y0).items++rest)=F0
 have hLn:w.heap.size+1 ∉ w6 E ρ2 ((stY E fx st vs Y0).items++rest):=fun hm=>absurd (hlt2 _ _ hl1 hm) (by omega)
 have hF0m:∀ b,b∈F0↔b=w.heap.size+1 ∨ b∈w6 E ρ2 ((stY E fx st vs Y0).items++rest):=fun b=>by rw [<- hF0,List.mem_cons]
 have hJ0:JY E fx st vs rest (w.heap.size+1) (rcL fn tm #[p] asg body w.heap.size) I res ρ Z w Z ew [] F0:=by
  refine ⟨Y0,ρ2,Z,e1 ▸ ha,hm2.fr,hsub2,fun b hb=>.inl hb,fun b hb=>?_,TnW.q hxe (fun _ h=>by cases h),?_⟩
  . rcases (hF0m b).1 hb with rfl | hb
    . omega
    . have:=hlt2 _ _ hl1 hb; omega
  . have h5:Sep F0 ew Z ew (o0 E.N E.T ρ2 F0 ((stY E fx st vs Y0).items++rest)):=a5e hmJ.sep fun q hq b hb=>.inl ((hF0m b).2 (.inr (p3.2 ⟨q,hq,hb⟩)))
    refine Sep.give h5 hL0 a8x (fun b hb=>?_) (fun b hb hz=>?_) rfl (fun b hb=>?_) (fun k s hk b hb hbs=>?_)
    . have hb:b∈[w.heap.size+1]:=hb
      rw [List.mem_singleton] at hb; omega
    . have hb:b∈[w.heap.size+1]:=hb
      rw [List.mem_singleton] at hb; have:=hzw b hz; omega
    . have hb:b∈[w.heap.size+1]:=hb
      rw [List.mem_singleton] at hb; exact (hF0m b).2 (.inl hb)
    . have hb:b∈[w.heap.size+1]:=hb
      rw [List.mem_singleton] at hb; subst hb
      obtain ⟨q,hq,rfl⟩:=m9 hk
      exact hLn (p3.2 ⟨q,List.mem_of_getElem? hq,hbs⟩)
 have hpf':∀ q∈n8 fx st keep++fx,q.1≠p:=fun q hq e=>by
  have:=List.all_eq_true.1 hpf q hq
  rw [e,Nat.beq_refl] at this; cases this
 let c : Cl E.P := { J := fun b Zc wc xs F => b = w.heap.size + 1 /\ JY E fx st vs rest (w.heap.size + 1) (rcL fn tm #[p] asg body w.heap.size) I res ρ Z w Zc wc xs F
                     stab:=fun Z1 Z2 B w1 w2 hh hx hB hZ=>⟨hh.1,c96 Z1 Z2 B w1 w2 hh.2 hx hB hZ⟩
                     lt:=fun hh=>by obtain ⟨_,_,_,_,_,_,_,_,hl,_⟩:=hh; exact hl
                     pre:=pre,res:=res
                     step:=fun Zc wc b F xs t hz hF hJ hpre hin=>by
                      obtain ⟨rfl,hJ⟩:=hJ
                      exact (c4b hE hI hR hrsub hns hok hp hpf' hst hv hi Zc wc F xs t hz hF hJ hpre hin).mono fun v w' ⟨a,F',b,d⟩=>⟨a,F',⟨rfl,b⟩,d⟩ }
 have hG:=hgen c rfl rfl
 let ρc:n9:=fun i=>if i=0 then some ⟨w.heap.size+1,none,0,0,[]⟩ else if i=itc.length+1 then some ⟨w.heap.size+1,none,0,0,F0⟩ else (match iti[i-1]? with | some id=>ρ id | none=>none)
 have hc0:ρc 0=some ⟨w.heap.size+1,none,0,0,[]⟩:=rfl
 have hcf:ρc (itc.length+1)=some ⟨w.heap.size+1,none,0,0,F0⟩:=by simp [ρc]
 have hcj:∀ j id,iti[j]?=some id->ρc (1+j)=ρ id:=fun j id hj=>by
  have:=s6 hj
  have e1:¬ (1+j=0):=by omega
  have e2:¬ (1+j=itc.length+1):=by omega
  simp only [ρc]
  rw [if_neg e1,if_neg e2,show 1+j-1=j by omega,hj]
 generalize hFI:w6 E ρ (within Wi iti)=FI
 have hFIm:∀ j id L,iti[j]?=some id->ρ id=some L->(∃ T cells,lk st.items id=some (.own T cells))->L.bs=[L.b]->L.b∈FI/\L.b∈w6 E ρ (st.items++lkd)/\L.b<w.heap.size/\¬ Z L.b/\L.b ∉ w6 E ρ2 ((stY E fx st vs Y0).items++rest):=fun j id L hj hL ⟨T,cells,hl⟩ hbs=>by
  obtain ⟨k,hk',_⟩:=p8 hl
  have hmem:(id,Item.own T cells)∈st.items:=List.mem_of_getElem? hk'
  have hWm:(id,Item.own T cells)∈Wi:=by
   rw [<- hWi]
   exact List.mem_filter.2 ⟨hmem,List.all_eq_true.1 hni id (List.mem_of_getElem? hj)⟩
  have hw:(id,Item.own T cells)∈within Wi iti:=List.mem_filter.2 ⟨hWm,List.elem_eq_true_of_mem (List.mem_of_getElem? hj)⟩
  have hb:L.b∈o8 E.N ρ id (.own T cells):=by rw [p6 hL,hbs]; exact List.mem_singleton.2 rfl
  have hb2:L.b∈o8 E.N ρ2 id (.own T cells):=by rw [p6 (hsub2 _ _ hL),hbs]; exact List.mem_singleton.2 rfl
  have ok:=h.mem.okp (List.mem_append_left lkd hmem)
  refine ⟨by rw [<- hFI]; exact p3.2 ⟨_,hw,hb⟩,p3.2 ⟨_,List.mem_append_left _ hmem,hb⟩,ok.lt _ hb,ok.notZ _ hb,fun hf=>?_⟩
  obtain ⟨q,hq,hqb⟩:=p3.1 hf
  obtain ⟨k1,hk1⟩:=List.getElem?_of_mem hq
  obtain ⟨k2,hk2⟩:=List.getElem?_of_mem hw
  have hk1':=s6 hk1
  have hk2':(((stY E fx st vs Y0).items++rest)++within Wi iti)[((stY E fx st vs Y0).items++rest).length+k2]?=some (id,Item.own T cells):=by rw [List.getElem?_append_right (Nat.le_add_right _ _),Nat.add_sub_cancel_left]; exact hk2
  exact hmp.sep.apart k1 (((stY E fx st vs Y0).items++rest).length+k2) (z6 E.N E.T ρ2 _ q.1 q.2) (z6 E.N E.T ρ2 _ id (.own T cells)) (l4 (l8 hk1)) (l4 hk2') (by omega) L.b hqb hb2
 have hsepI:Sep (F0++FI) ew Z ew (o0 E.N E.T ρc (F0++FI) itc):=by
  refine ⟨Ext.refl _ _,fun b hb=>by have:=hzw b hb; omega,fun k t hk'=>?_,fun k1 k2 t1 t2 hk1 hk2 hne b hb1 hb2=>?_⟩
  . obtain ⟨q,hq,rfl⟩:=m9 hk'
    obtain ⟨id,T,cells,b1,b2,b3,rfl⟩:=hcan k q hq
    obtain ⟨T',cells',L,d1,d2,d3,d4,d5,d6⟩:=inI k id b1
    rw [b2] at d1; cases d1
    obtain ⟨m1,m2,m3,m4,m5⟩:=hFIm k id L b1 d4 ⟨T,cells,b2⟩ d5
    have hcl:ρc (1+k)=some L:=by rw [hcj k id b1]; exact d4
    have hft:∀ b,b∈o8 E.N ρc (1+k) (.own T cells)->b=L.b:=fun b hb=>by rw [p6 hcl,d5] at hb; exact List.mem_singleton.1 hb
    obtain ⟨k',hk'',_⟩:=p8 b2
    have hh:holds E.N E.T ρ id Z w (.own T cells):=h.mem.holds (l8 (l2:=lkd) hk'')
    have hh:=(p7 (N:=E.N) (T:=E.T) (ρ:=ρ) (B0:=[]) (id:=id) (i:=.own T cells)) Z Z [] w ew hh hxe (fun _ h=>by cases h) (fun _ h=>h)
    obtain ⟨L',cs',hL',hbs',ho,hr⟩:=hh
    rw [d4] at hL'; cases hL'
    exact ⟨⟨L,cs',hcl,d5,ho,a8a b3 hr _⟩,p7,fun b hb=>by rw [hft b hb]; omega,fun b hb=>by rw [hft b hb]; exact m4,fun b hb=>.inl (by rw [hft b hb]; exact List.mem_append_right _ m1),fun b hb=>hb⟩
  . obtain ⟨q1,hq1,rfl⟩:=m9 hk1
    obtain ⟨q2,hq2,rfl⟩:=m9 hk2
    obtain ⟨id1,T1,c1,b1,b2,b3,rfl⟩:=hcan k1 q1 hq1
    obtain ⟨id2,T2,c2,g1,g2,g3,rfl⟩:=hcan k2 q2 hq2
    obtain ⟨_,_,L1,_,_,_,d4,d5,_⟩:=inI k1 id1 b1
    obtain ⟨_,_,L2,_,_,_,f4,f5,_⟩:=inI k2 id2 g1
    have hb1:b∈o8 E.N ρc (1+k1) (.own T1 c1):=hb1
    have hb2:b∈o8 E.N ρc (1+k2) (.own T2 c2):=hb2
    rw [p6 (show ρc (1+k1)=some L1 by rw [hcj k1 id1 b1]; exact d4)] at hb1
    rw [p6 (show ρc (1+k2)=some L2 by rw [hcj k2 id2 g1]; exact f4)] at hb2
    have hid:id1≠id2:=fun e=>by
     subst e
     exact hne ((List.getElem?_inj (s6 b1) hndi).1 (b1.trans g1.symm))
    obtain ⟨i1,hi1,_⟩:=p8 b2
    obtain ⟨i2,hi2,_⟩:=p8 g2
    refine h.mem.sep.apart i1 i2 (z6 E.N E.T ρ _ id1 (.own T1 c1)) (z6 E.N E.T ρ _ id2 (.own T2 c2)) (l4 (l8 (l2:=lkd) hi1)) (l4 (l8 (l2:=lkd) hi2)) (fun e=>?_) b (by show b∈o8 E.N ρ id1 (.own T1 c1); rw [p6 d4]; exact hb1) (by show b∈o8 E.N ρ id2 (.own T2 c2); rw [p6 f4]; exact hb2)
    subst e
    rw [hi1] at hi2; cases hi2; exact hid rfl
 have hF0Z:∀ b∈F0,¬ Z b:=fun b hb hz=>by
  rcases (hF0m b).1 hb with rfl | hb
  . have:=hzw _ hz; omega
  . obtain ⟨q,hq,hb⟩:=p3.1 hb
    exact (hm2.okp (hl1 q hq)).notZ b hb hz
 have hfob:o8 E.N ρc 0 (.ob 0 (itc.length+1) (YY.yo (c,[])))=F0:=by rw [A7 hcf]
 have hsep:Sep (F0++FI) ew Z ew (o0 E.N E.T ρc (F0++FI) ((0,.ob 0 (itc.length+1) (YY.yo (c,[])))::itc)):=by
  refine ⟨Ext.refl _ _,hsepI.zlt,fun k t hk'=>?_,fun k1 k2 t1 t2 hk1 hk2 hne b hb1 hb2=>?_⟩
  . cases k with
    | succ k=>exact hsepI.ok k t hk'
    | zero =>
     cases hk'
     refine ⟨⟨_,_,hc0,hcf,(YY.is _ _ _ _ _).2 ⟨rfl,hJ0⟩⟩,p7,fun b hb=>?_,fun b hb=>?_,fun b hb=>.inl ?_,fun b hb=>hb⟩
     . have hb:b∈o8 E.N ρc 0 (.ob 0 (itc.length+1) (YY.yo (c,[]))):=hb
       rw [hfob] at hb
       obtain ⟨_,_,_,_,_,_,_,hl,_⟩:=hJ0
       exact hl b hb
     . have hb:b∈o8 E.N ρc 0 (.ob 0 (itc.length+1) (YY.yo (c,[]))):=hb
       rw [hfob] at hb; exact hF0Z b hb
     . have hb:b∈o8 E.N ρc 0 (.ob 0 (itc.length+1) (YY.yo (c,[]))):=hb
       rw [hfob] at hb; exact List.mem_append_left _ hb
  . have key:∀ (k:Nat) (t:It) (b:Nat),(o0 E.N E.T ρc (F0++FI) itc)[k]?=some t->b∈F0->b∈t.F->False:=fun k t b hk' hb hbt=>by
      obtain ⟨q,hq,rfl⟩:=m9 hk'
      obtain ⟨id,T,cells,b1,b2,b3,rfl⟩:=hcan k q hq
      obtain ⟨_,_,L,_,_,_,d4,d5,_⟩:=inI k id b1
      obtain ⟨m1,m2,m3,m4,m5⟩:=hFIm k id L b1 d4 ⟨T,cells,b2⟩ d5
      have hbt:b∈o8 E.N ρc (1+k) (.own T cells):=hbt
      rw [p6 (show ρc (1+k)=some L by rw [hcj k id b1]; exact d4),d5,List.mem_singleton] at hbt
      subst hbt
      rcases (hF0m _).1 hb with e | hb
      . omega
      . exact m5 hb
    cases k1 with
    | zero =>
     cases k2 with
     | zero=>exact hne rfl
     | succ k2 =>
      cases hk1
      have hb1:b∈o8 E.N ρc 0 (.ob 0 (itc.length+1) (YY.yo (c,[]))):=hb1
      rw [hfob] at hb1
      exact key k2 t2 b hk2 hb1 hb2
    | succ k1 =>
     cases k2 with
     | zero =>
      cases hk2
      have hb2:b∈o8 E.N ρc 0 (.ob 0 (itc.length+1) (YY.yo (c,[]))):=hb2
      rw [hfob] at hb2
      exact key k1 t1 b hk1 hb2 hb1
     | succ k2=>exact hsepI.apart k1 k2 t1 t2 hk1 hk2 (by omega) b hb1 hb2
 have hrun:=hG (fun _ it _=>∃ fid,it=(0,.ob 0 fid (YY.yo (c,xs)))::itc) (fun fid _ _=>⟨fid,rfl⟩) ρc Z ew (.func (.yield (w.heap.size+1)) #[] #[]::lb) (F0++FI) (fun i hi'=>by
   have e1:¬ (i=0):=by omega
   have e2:¬ (i=itc.length+1):=by omega
   simp only [ρc]
   rw [if_neg e1,if_neg e2,List.getElem?_eq_none (by omega)]) hsep
  (Y2.turn h.glob ((TnW.q hxe (fun _ h=>by cases h)).tn (ρ:=fun _=>none) (ρ':=fun _=>none) (fun _ _ h=>h)))
  (.tup1 (.yld hc0) (b42 cs iti lb 1 hcs hrl hcj))
 refine hrun.mono fun v w2 ⟨ρ',Z2,s,its',nx',hs2,hfr2,hsc,hZ12,hZ21,_,fid,hits⟩=>?_
 subst hits
 -- what the client has then
 obtain ⟨L',Lf',hL',hLf',hJ⟩:=hs2.at 0 (t:=z6 E.N E.T ρ' (F0++FI) 0 (.ob 0 fid (YY.yo (c,xs)))) rfl
 have hL'':=hsc _ _ hc0
 rw [hL''] at hL'; cases hL'
 have hJ:=(YY.is _ _ _ _ _).1 hJ
 obtain ⟨_,Y,ρj,Zj,hY,hfrj,hsubj,hZj,hlt,htn,hsJ⟩:=hJ
 generalize hF2:Lf'.bs=F2 at *
 have hfoot2:∀ b∈F2,b∈(z6 E.N E.T ρ' (F0++FI) 0 (.ob 0 fid (YY.yo (c,xs)))).F:=fun b hb=>by
  show b∈o8 E.N ρ' 0 (.ob 0 fid (YY.yo (c,xs)))
  rw [A7 hLf',hF2]; exact hb
 have hF2Z:∀ b∈F2,¬ Z2 b:=fun b hb=>hs2.nz 0 rfl b (hfoot2 b hb)
 have hBo:∀ b∈F0++FI,b∈w6 E ρ (st.items++lkd) ∨ b=w.heap.size+1:=fun b hb=>by
  rcases List.mem_append.1 hb with hb | hb
  . rcases (hF0m b).1 hb with rfl | hb
    . exact .inr rfl
    . obtain ⟨q,hq,hb⟩:=p3.1 hb
      rcases (hm2.okp (hl1 q hq)).org b hb with h1 | h1
      . exact .inl h1
      . exact absurd ((hm2.okp (hl1 q hq)).lt b hb) (Nat.not_lt.2 h1)
  . rw [<- hFI] at hb
    obtain ⟨q,hq,hb⟩:=p3.1 hb
    obtain ⟨_,_,_,_,_,_,_,_,_,_,hm'⟩:=inW q hq
    exact .inl (p3.2 ⟨q,List.mem_append_left _ hm',hb⟩)
 have hF2o:∀ b∈F2,b∈F0++FI ∨ w.heap.size+2<=b:=fun b hb=>by
  rcases (hs2.ok 0 _ rfl).org b (hfoot2 b hb) with h1 | h1
  . exact .inl h1
  . rw [hse] at h1; exact .inr h1
 have hext:Ext (w6 E ρ (st.items++lkd)) w w2:=Ext.trans hxe hs2.ext (fun _ h=>by cases h) (fun b hb=>by
  rcases hBo b hb with h1 | h1
  . exact .inl h1
  . exact .inr (by omega))
 have hrec:=hsJ.at 0 (t:=d2n (w.heap.size+1) _) rfl
 have hrec:w2.heap[w.heap.size+1]?=some (.loop (rcL fn tm #[p] asg body w.heap.size (stA (E9 res xs)) (stP (E9 res xs)))):=hrec
 have hJF:∀ q∈(stY E fx st vs Y).items++rest,∀ b∈o8 E.N ρj q.1 q.2,b∈F2/\b≠w.heap.size+1:=fun q hq b hb=>by
  obtain ⟨k,hk'⟩:=List.getElem?_of_mem hq
  have ok:=hsJ.ok (k+1) (z6 E.N E.T ρj F2 q.1 q.2) (by rw [List.getElem?_cons_succ]; exact l4 hk')
  refine ⟨?_,fun e=>?_⟩
  . rcases ok.org b hb with h1 | h1
    . exact h1
    . exact absurd (ok.lt b hb) (Nat.not_lt.2 h1)
  . exact hsJ.apart 0 (k+1) _ (z6 E.N E.T ρj F2 q.1 q.2) rfl (by rw [List.getElem?_cons_succ]; exact l4 hk') (by omega) b (by rw [e]; exact List.mem_singleton.2 rfl) hb
 have hLF2:w.heap.size+1∈F2:=(hsJ.ok 0 _ rfl).org0 _ (List.mem_singleton.2 rfl)
 have hLZj:¬ Zj (w.heap.size+1):=hsJ.nz 0 rfl _ (List.mem_singleton.2 rfl)
 -- the iterator's parts then
 have itAt:∀ j id,iti[j]?=some id->∃ T cells L cs',lk st.items id=some (.own T cells)/\cells.all B3=true/\ρ id=some L/\L.bs=[L.b]/\Own w2 L.b T cs'/\i7 E.N E.T ρ' Z2 w2 cs' cells/\¬ Z2 L.b/\L.b ∉ F2/\L.b<w.heap.size/\L.b∈w6 E ρ (st.items++lkd):=fun j id hj=>by
  obtain ⟨T,cells,L,d1,d2,d3,d4,d5,_⟩:=inI j id hj
  obtain ⟨m1,m2,m3,m4,m5⟩:=hFIm j id L hj d4 ⟨T,cells,d1⟩ d5
  have hcl:ρ' (1+j)=some L:=hsc _ _ (by rw [hcj j id hj]; exact d4)
  have hat:(o0 E.N E.T ρ' (F0++FI) ((0,.ob 0 fid (YY.yo (c,xs)))::itc))[j+1]?=some (z6 E.N E.T ρ' (F0++FI) (1+j) (.own T cells)):=l4 (p:=(1+j,.own T cells)) (by rw [List.getElem?_cons_succ]; exact d3)
  obtain ⟨L1,cs',hL1,_,ho,hr⟩:=hs2.at (j+1) hat
  rw [hcl] at hL1; cases hL1
  have hbf:L.b∈o8 E.N ρ' (1+j) (.own T cells):=by rw [p6 hcl,d5]; exact List.mem_singleton.2 rfl
  exact ⟨T,cells,L,cs',d1,d2,d4,d5,ho,hr,hs2.nz (j+1) hat _ hbf,fun hb=>hs2.apart 0 (j+1) _ _ rfl hat (by omega) _ (hfoot2 _ hb) hbf,m3,m2⟩
 have inW2:∀ q∈within Wi iti,∃ L,ρ q.1=some L/\L.bs=[L.b]/\¬ Z2 L.b/\¬ Zj L.b/\L.b ∉ F2/\L.b<w.heap.size/\L.b∈w6 E ρ (st.items++lkd)/\(∀ b,b∈o8 E.N ρj q.1 q.2->b=L.b)/\(∀ b,b∈o8 E.N ρj q.1 q.2↔b∈o8 E.N ρ2 q.1 q.2)/\holds E.N E.T ρj q.1 (fun b=>Z2 b ∨ Zj b) w2 q.2:=fun q hq=>by
  obtain ⟨j,T,cells,L,b1,b2,b3,b4,b5,b6,b7⟩:=inW q hq
  obtain ⟨T',cells',L1,cs',d1,d2,d4,d5,ho,hr,z1,z2,z3,z4⟩:=itAt j q.1 b1
  rw [b5] at d4; cases d4
  have hq2:q.2=.own T' cells':=b9y hds d1 b7
  rw [b2] at hq2; cases hq2
  have hzj:¬ Zj L.b:=fun hz=>by
   rcases hZj _ hz with h1 | h1
   . exact z1 h1
   . exact z2 h1
  refine ⟨L,b5,b6,z1,hzj,z2,z3,z4,fun b hb=>?_,fun b=>?_,?_⟩
  . rw [b2,p6 (hsubj _ _ b5),b6] at hb; exact List.mem_singleton.1 hb
  . rw [b2,p6 (hsubj _ _ b5),p6 (hsub2 _ _ b5)]
  . rw [b2]
    exact ⟨L,cs',hsubj _ _ b5,b6,ho,(a8a b3 hr ρj).stab (Ext.refl [] w2) (fun _ h=>by cases h) (fun b h _=>.inl h) (fun _ _ h=>h)⟩
 have hmF:Mem E (Ctx.gr ρ Z w (w6 E ρ (st.items++lkd))) ρj (fun b=>Z2 b ∨ Zj b) w2 (((stY E fx st vs Y).items++rest)++within Wi iti) (stY E fx st vs Y).nx:=by
  refine ⟨⟨hext,fun b hb=>?_,fun k t hk'=>?_,fun k1 k2 t1 t2 hk1 hk2 hne b hb1 hb2=>?_⟩,hfrj,hsubj,fun b hb=>.inl (hZ12 b hb),fun b hb=>?_⟩
  . rcases hb with hb | hb
    . exact hs2.zlt b hb
    . exact hsJ.zlt b hb
  . obtain ⟨q,hq,rfl⟩:=m9 hk'
    rcases Nat.lt_or_ge k ((stY E fx st vs Y).items++rest).length with hlt' | hge
    . rw [List.getElem?_append_left hlt'] at hq
      have ok:=hsJ.ok (k+1) (z6 E.N E.T ρj F2 q.1 q.2) (by rw [List.getElem?_cons_succ]; exact l4 hq)
      have hJq:=hJF q (List.mem_of_getElem? hq)
      refine ⟨p7 (N:=E.N) (T:=E.T) (ρ:=ρj) (B0:=F2) (id:=q.1) (i:=q.2) Zj _ [] w2 w2 ok.holds (Ext.refl _ _) (fun _ h=>by cases h) (fun b h=>.inr h),p7,ok.lt,fun b hb hz=>?_,fun b hb=>?_,fun b hb=>hb⟩
      . rcases hz with hz | hz
        . exact hF2Z b (hJq b hb).1 hz
        . exact ok.notZ b hb hz
      . rcases hF2o b (hJq b hb).1 with h1 | h1
        . rcases hBo b h1 with h1 | h1
          . exact .inl h1
          . exact absurd h1 (hJq b hb).2
        . exact .inr (by show w.heap.size<=b; omega)
    . rw [List.getElem?_append_right hge] at hq
      obtain ⟨L,b5,b6,z1,zj,z2,z3,z4,hft,_,hh⟩:=inW2 q (List.mem_of_getElem? hq)
      refine ⟨hh,p7,fun b hb=>?_,fun b hb hz=>?_,fun b hb=>.inl ?_,fun b hb=>hb⟩
      . rw [hft b hb]; exact Nat.lt_of_lt_of_le z3 hext.size
      . rw [hft b hb] at hz
        rcases hz with hz | hz
        . exact z1 hz
        . exact zj hz
      . rw [hft b hb]; exact z4
  . obtain ⟨q1,hq1,rfl⟩:=m9 hk1
    obtain ⟨q2,hq2,rfl⟩:=m9 hk2
    have hb1:b∈o8 E.N ρj q1.1 q1.2:=hb1
    have hb2:b∈o8 E.N ρj q2.1 q2.2:=hb2
    rcases Nat.lt_or_ge k1 ((stY E fx st vs Y).items++rest).length with h1 | h1
    . rw [List.getElem?_append_left h1] at hq1
      rcases Nat.lt_or_ge k2 ((stY E fx st vs Y).items++rest).length with h2' | h2'
      . rw [List.getElem?_append_left h2'] at hq2
        exact hsJ.apart (k1+1) (k2+1) (z6 E.N E.T ρj F2 q1.1 q1.2) (z6 E.N E.T ρj F2 q2.1 q2.2) (by rw [List.getElem?_cons_succ]; exact l4 hq1) (by rw [List.getElem?_cons_succ]; exact l4 hq2) (by omega) b hb1 hb2
      . rw [List.getElem?_append_right h2'] at hq2
        obtain ⟨L,_,_,_,_,z2,_,_,hft,_⟩:=inW2 q2 (List.mem_of_getElem? hq2)
        exact z2 (hft b hb2 ▸ (hJF q1 (List.mem_of_getElem? hq1) b hb1).1)
    . rw [List.getElem?_append_right h1] at hq1
      rcases Nat.lt_or_ge k2 ((stY E fx st vs Y).items++rest).length with h2' | h2'
      . rw [List.getElem?_append_left h2'] at hq2
        obtain ⟨L,_,_,_,_,z2,_,_,hft,_⟩:=inW2 q1 (List.mem_of_getElem? hq1)
        exact z2 (hft b hb1 ▸ (hJF q2 (List.mem_of_getElem? hq2) b hb2).1)
      . rw [List.getElem?_append_right h2'] at hq2
        obtain ⟨_,_,_,_,_,_,_,_,_,hf1,_⟩:=inW2 q1 (List.mem_of_getElem? hq1)
        obtain ⟨_,_,_,_,_,_,_,_,_,hf2,_⟩:=inW2 q2 (List.mem_of_getElem? hq2)
        have l1:=s6 hq1
        have l2:=s6 hq2
        exact hmp.sep.apart (((stY E fx st vs Y0).items++rest).length+(k1-((stY E fx st vs Y).items++rest).length)) (((stY E fx st vs Y0).items++rest).length+(k2-((stY E fx st vs Y).items++rest).length)) (z6 E.N E.T ρ2 _ q1.1 q1.2) (z6 E.N E.T ρ2 _ q2.1 q2.2)
         (l4 (by rw [List.getElem?_append_right (by omega),Nat.add_sub_cancel_left]; exact hq1)) (l4 (by rw [List.getElem?_append_right (by omega),Nat.add_sub_cancel_left]; exact hq2)) (by omega) b ((hf1 b).1 hb1) ((hf2 b).1 hb2)
  . have z2:∀ b,Z2 b->Z b ∨ b∈w6 E ρ (st.items++lkd) ∨ w.heap.size<=b:=fun b hz=>by
      rcases hZ21 b hz with h1 | h1 | h1
      . exact .inl h1
      . rcases hBo b h1 with h1 | h1
        . exact .inr (.inl h1)
        . exact .inr (.inr (by omega))
      . exact .inr (.inr (by omega))
    rcases hb with hb | hb
    . exact z2 b hb
    . rcases hZj b hb with h1 | h1
      . exact z2 b h1
      . rcases hF2o b h1 with h1 | h1
        . rcases hBo b h1 with h1 | h1
          . exact .inr (.inl h1)
          . exact .inr (.inr (by show w.heap.size<=b; omega))
        . exact .inr (.inr (by show w.heap.size<=b; omega))
 have hmW:=hmF.perm (perm (stY E fx st vs Y).items).symm
 have hLf:w.heap.size+1 ∉ w6 E ρj ((stY E fx st vs Y).items++(Wi++lkd))/\¬ (Z2 (w.heap.size+1) ∨ Zj (w.heap.size+1)):=by
  refine ⟨fun hm=>?_,fun hz=>?_⟩
  . obtain ⟨q,hq,hb⟩:=p3.1 hm
    rcases List.mem_append.1 ((perm _).mem_iff.1 hq) with hq | hq
    . exact (hJF q hq _ hb).2 rfl
    . obtain ⟨L,_,_,_,_,_,z3,_,hft,_⟩:=inW2 q hq
      have:=hft _ hb; omega
  . rcases hz with hz | hz
    . exact hF2Z _ hLF2 hz
    . exact hLZj hz
 have fin:∀ pe:Option Code,QKD E C fx lkd K (match E9 res xs with | true=>.ret | false=>.normal) f (w2.putObj (w.heap.size+1) (.loop (rcL fn tm #[p] asg body w.heap.size .exhausted pe))) (w.heap.size::ds):=fun pe=>by
  have hxp:=X6 w2 (w.heap.size+1) (.loop (rcL fn tm #[p] asg body w.heap.size .exhausted pe))
  have hD2:w2.heap[w.heap.size]?=some (.deferred (some [])):=by
   rw [hs2.ext.block _ (by omega) (fun hb=>?_)]; exact hD0
   rcases hBo _ hb with h1 | h1
   . obtain ⟨q,hq,hb⟩:=p3.1 h1
     have:=(h.mem.okp hq).lt _ hb; omega
   . omega
  have hmQ:=hmW.quiet hxp (fun b hb _=>by rw [List.mem_singleton] at hb; subst hb; exact ⟨hLf.1,hLf.2,by show w.heap.size<=_; omega⟩)
  have hT:Tn ρ Z w ρj (fun b=>Z2 b ∨ Zj b) (w2.putObj (w.heap.size+1) (.loop (rcL fn tm #[p] asg body w.heap.size .exhausted pe))):=by
   refine ⟨hsubj,fun b hb _=>.inl (hZ12 b hb),w6 E ρ (st.items++lkd),hext.trans hxp (fun x hx=>.inl hx) (fun x hx=>by rw [List.mem_singleton] at hx; subst hx; exact .inr (by omega)),fun b hb hz=>?_⟩
   obtain ⟨q,hq,hb⟩:=p3.1 hb
   exact absurd hz ((h.mem.okp hq).notZ b hb)
  have hslots:(stY E fx st vs Y).slots=[]:=a8r Y hns
  have hrel:Rel E C fx lkd ⟨(stY E fx st vs Y).slots++n8 fx st keep,[],(stY E fx st vs Y).items++Wi,(stY E fx st vs Y).nx⟩ ρj (fun b=>Z2 b ∨ Zj b) f (w2.putObj (w.heap.size+1) (.loop (rcL fn tm #[p] asg body w.heap.size .exhausted pe))):=by
   refine ⟨fun k s e=>?_,fun q hq=>hT.rep (h.fx q hq),fun k j b s e=>(by cases e),?_,h.tn.trans hT,h.g⟩
   . have e:lk ((stY E fx st vs Y).slots++n8 fx st keep) k=some s:=e
     rw [hslots,List.nil_append] at e
     obtain ⟨i,hi',_⟩:=p8 e
     have:=List.mem_of_getElem? hi'
     simp only [n8,List.mem_map] at this
     obtain ⟨s',_,e'⟩:=this
     cases e'
     exact hT.rep (h.slot k)
   . show Mem E C ρj _ _ (((stY E fx st vs Y).items++Wi)++lkd) _
     rw [List.append_assoc]
     exact h.mem.unbase hmQ
  have hmk:Mk E C ρj (fun b=>Z2 b ∨ Zj b) (w2.putObj (w.heap.size+1) (.loop (rcL fn tm #[p] asg body w.heap.size .exhausted pe))) (((stY E fx st vs Y).items++Wi)++lkd) (w.heap.size::ds):=by
   have hold:=hk.go hmQ
   rw [List.append_assoc]
   refine ⟨List.nodup_cons.2 ⟨fun hd=>absurd (hk.lt _ hd) (Nat.lt_irrefl _),hk.nd⟩,fun D hD=>?_,fun D hD=>?_,fun D hD=>?_⟩
   . rcases List.mem_cons.1 hD with rfl | hD
     . rw [World.putObj_heap_other (by omega)]; exact hD2
     . exact hold.is D hD
   . rcases List.mem_cons.1 hD with rfl | hD
     . exact h.mem.sep.ext.size
     . exact hold.new D hD
   . rcases List.mem_cons.1 hD with rfl | hD
     . have hnB:w.heap.size ∉ F0++FI:=fun hb=>by
         rcases hBo _ hb with h1 | h1
         . obtain ⟨q,hq,hb⟩:=p3.1 h1
           have:=(h.mem.okp hq).lt _ hb; omega
         . omega
       have hnF:w.heap.size ∉ F2:=fun hb=>by
        rcases hF2o _ hb with h1 | h1
        . exact hnB h1
        . omega
       have hnZ:¬ Z2 w.heap.size:=fun hz=>by
        rcases hZ21 _ hz with h1 | h1 | h1
        . have:=hzw _ h1; omega
        . exact hnB h1
        . omega
       refine ⟨fun hm=>?_,fun hz=>?_⟩
       . obtain ⟨q,hq,hb⟩:=p3.1 hm
         rcases List.mem_append.1 ((perm _).mem_iff.1 hq) with hq | hq
         . exact hnF (hJF q hq _ hb).1
         . obtain ⟨L,_,_,_,_,_,z3,_,hft,_⟩:=inW2 q hq
           have:=hft _ hb; omega
       . rcases hz with hz | hz
         . exact hnZ hz
         . rcases hZj _ hz with h1 | h1
           . exact hnZ h1
           . exact hnF h1
     . exact hold.ap D hD
  have hKY:=a4z (d:=False) vs (I xs) _ hok hK Y hY
  refine ⟨_,_,_,hrel,hmk,?_⟩
  have hKY:(bif E9 res xs then K.r else K.n) ⟨(stY E fx st vs Y).slots++n8 fx st keep,[],(stY E fx st vs Y).items++Wi,(stY E fx st vs Y).nx⟩:=hKY
  cases hb:E9 res xs with
  | true=>rw [hb] at hKY; exact hKY
  | false=>rw [hb] at hKY; exact hKY
 refine ⟨stA (E9 res xs),stP (E9 res xs),?_,hrec,?_⟩
 . cases E9 res xs <;> (intro e; cases e)
 . have hfin:=fin (stP (E9 res xs))
   cases hb:E9 res xs with
   | true=>rw [hb] at hfin; exact .inr ⟨rfl,hfin⟩
   | false=>rw [hb] at hfin; exact .inl ⟨rfl,hfin⟩
end
end Go.Rx
end
section
namespace Go.Rx
open Go Go.Wk Go.Wl
def rng:Code->Bool
 | .rangeFunc _ _ _ _=>true
 | .seq a b=>rng a || rng b
 | .block _ c=>rng c
 | .loop c=>rng c
 | _=>false
theorem U9 {b:Bool} {p:Prop} (h:bif b then p else False):b=true/\p:=by
 simp_all
section
variable {E:Env} {YY:YE E}
def vd (inl:Inl E) (an:Ann) (TL:b6m E YY):Code->m6 E.N->i6 E.N->E.St->Ks E->Prop
 | .seq a b,fx,lkd,st,K=>bif rng a || rng b then vd inl an TL a fx lkd st ⟨fun st=>vd inl an TL b fx lkd st K,K.r,K.e⟩ else vc inl an (.seq a b) fx lkd st K
 | .block i c,fx,lkd,st,K=>vd inl an TL c fx lkd st ⟨K.n,K.r,(i,K.n)::K.e⟩
 | .loop c,fx,lkd,st,K=>bif rng c then (match (first c).bind an.loop with
  | none=>False
  | some a=>∃ (I:Cur E.N Prop a.vars) (m:Cur E.N Nat a.vars),
    rbP E fx st (n8 fx st a.keep++fx) (inn st (s8 E fx st a.vars)) a.vars (W9 a.vars I m) (fun im=>im.1) /\
    H8 E fx st a.vars (W9 a.vars I m) ⟨[],[],[],st.nx⟩ (fun im new=>im.1 ->
     vd inl an TL c (n8 fx st a.keep++fx) (l6 st.items (s8 E fx st a.vars)++lkd) new
      (Z6 (n8 fx st a.keep) (l6 st.items (s8 E fx st a.vars)) K (fun st'=>rbP E fx st (n8 fx st a.keep++fx) st' a.vars (W9 a.vars I m) (fun im'=>im'.1/\im'.2<im.2))))) else vc inl an (.loop c) fx lkd st K
 | .rangeFunc g ps asg body,fx,lkd,st,K=>(match evS fx lkd st [] g with
  | .clo gf cs=>(match ps.toList,(first body).bind an.loop,a6z cs with
   | [p],some a,some iti=>(match c4n st.items 1 iti with
    | some itc=>bif Nat.blt p an.n && distinct iti && distinct (st.items.map (·.1)) && b7c a.vars && a7n a.vars && iti.all (fun i=>!(s8 E fx st a.vars).elem i) && (n8 fx st a.keep++fx).all (fun q=>!Nat.beq q.1 p) then
      ∃ (I:List Int->Cur E.N Prop a.vars) (pre:List Int->Int->Prop) (res:List Int->Int->Bool),
       rbP E fx st (n8 fx st a.keep++fx) (inn st (s8 E fx st a.vars)) a.vars (I []) id /\
       (∀ xs t,pre xs t->E9 res xs=false) /\
       (∀ xs t,b9 t->pre xs t->H8 E fx st a.vars (I xs) ⟨[],[],[],st.nx⟩ (fun x new=>x->vc inl an asg (n8 fx st a.keep++fx) (l6 (l6 st.items (s8 E fx st a.vars)) iti++lkd) ⟨(p,.int .i64 t)::new.slots,[],new.items,new.nx⟩
        ⟨fun st1=>vc inl an body (n8 fx st a.keep++fx) (l6 (l6 st.items (s8 E fx st a.vars)) iti++lkd) st1 ⟨fun st'=>res xs t=true/\rbP E fx st (n8 fx st a.keep++fx) st' a.vars (I (xs++[t])) id,fun st'=>res xs t=false/\rbP E fx st (n8 fx st a.keep++fx) st' a.vars (I (xs++[t])) id,[]⟩,fun _=>False,[]⟩)) /\
       (match TL.f gf (b8j 1 iti.length) itc pre res with
       | some (ob,xs)=>ob/\H8 E fx st a.vars (I xs) ⟨[],[],[],st.nx⟩ (fun x new=>x->(E9 res xs=true->K.r ⟨new.slots++n8 fx st a.keep,[],new.items++l6 st.items (s8 E fx st a.vars),new.nx⟩)/\(E9 res xs=false->K.n ⟨new.slots++n8 fx st a.keep,[],new.items++l6 st.items (s8 E fx st a.vars),new.nx⟩))
       | none=>False) else False
    | none=>False)
   | _,_,_=>False)
  | _=>False)
 | c,fx,lkd,st,K=>vc inl an c fx lkd st K
variable {C:Ctx} {ρ ρb:n9} {Z Zb:Nat->Prop} {w wb:World} {lkd:i6 E.N} {fx:m6 E.N} {st st':E.St} {f fb:Fr} {inl:Inl E} {an:Ann} {ds:List Nat}
theorem c7c {keep:List Nat} {vs:List LV} {lkd':i6 E.N} {α:Type} {g:Cur E.N α vs} {Kα:α->Prop} {K:α->E.St->Prop} (h:Rel E C fx lkd st ρb Zb fb wb) (hl:∀ p∈lkd',p∈st.items++lkd)
  (h':Rel E (C.at ρb Zb wb) (n8 fx st keep++fx) lkd' st' ρ Z f w) (hk:Mk E C ρ Z w (st'.items++lkd') ds) (hv:rbP E fx st (n8 fx st keep++fx) st' vs g Kα) (hK:H8 E fx st vs g ⟨[],[],[],st.nx⟩ K) :
  ∃ new ρ2 a,Kα a/\K a new/\Rel E (C.at ρb Zb wb) (n8 fx st keep++fx) lkd' new ρ2 Z f w/\Mk E C ρ2 Z w (new.items++lkd') ds:=by
 have hg:=c4x h' (Ext.refl [] w) (fun _ h=>by cases h)
 obtain ⟨new,ρ2,a,h1,h2,h3,h4⟩:=b8i h hl hg h'.mem.ge (fun _ _ h=>h) hv hK
 refine ⟨new,ρ2,a,h1,h2,⟨h3.sl,h3.fx,h3.gs,?_,⟨h4,h'.tn.z,h'.tn.ext⟩,h'.g⟩,hk.go h3.mem⟩
 have hB:∀ x∈w6 E ρ (st'.items++lkd'),x∈C.B0 ∨ C.w0.heap.size<=x:=fun x hx=>by
  obtain ⟨p,hp,h⟩:=p3.1 hx
  exact (h'.mem.okp hp).org x h
 have hsz:=h'.mem.sep.ext.size
 refine ⟨⟨h'.mem.sep.ext,h'.mem.sep.zlt,fun k t hk=>?_,fun j k s t hj hk hne=>?_⟩,h3.mem.fr,h4,h'.mem.zge,h'.mem.zle⟩
 . obtain ⟨p,hp,rfl⟩:=m9 hk
   have ok:=h3.mem.sep.ok k _ (l4 hp)
   refine ⟨ok.holds,p7,ok.lt,ok.notZ,fun b hb'=>?_,fun b hb=>hb⟩
   rcases ok.org b hb' with h | h
   . exact hB b h
   . exact absurd (ok.lt b hb') (Nat.not_lt.2 h)
 . obtain ⟨p,hp,rfl⟩:=m9 hj
   obtain ⟨q,hq,rfl⟩:=m9 hk
   exact fun b hb1 hb2=>h3.mem.sep.apart j k (z6 E.N E.T ρ2 _ p.1 p.2) (z6 E.N E.T ρ2 _ q.1 q.2) (l4 hp) (l4 hq) hne b hb1 hb2
theorem c2z {keep ids:List Nat} {K:Ks E} {n:E.St->Prop} {e:Exit} (h0:Rel E C fx lkd st ρb Zb fb wb) (hn:e≠.normal)
  (h:QKD E (C.at ρb Zb wb) (n8 fx st keep++fx) (l6 st.items ids++lkd) (Z6 (n8 fx st keep) (l6 st.items ids) K n) e f w ds):QKD E C fx lkd K e f w ds:=by
 obtain ⟨st',ρ',Z',hr,hk,he⟩:=h
 have hl:=Rel.leave h0 hr
 have hk':Mk E C ρ' Z' w ((st'.items++l6 st.items ids)++lkd) ds:=by rw [List.append_assoc]; exact ⟨hk.nd,hk.is,hk.new,hk.ap⟩
 cases e with
 | normal=>simp_all
 | ret=>exact ⟨_,_,_,hl,hk',he⟩
 | exit i =>
  simp only [c15,Z6] at he
  rw [c53] at he
  cases hk2:lk K.e i with
  | none=>simp_all
  | some k=>rw [hk2] at he; exact ⟨_,_,_,hl,hk',by simp only [c15,hk2]; exact he⟩
 | _=>exact he.elim
theorem d7d (hE:j7 E) (hI:F1 E inl) (TL:b6m E YY):∀ (c:Code) (C:Ctx) (fx:m6 E.N) (lkd:i6 E.N) (st:E.St) (K:Ks E) (ρ:n9) (Z:Nat->Prop) (f:Fr) (w:World) (ds:List Nat),Rel E C fx lkd st ρ Z f w->Mk E C ρ Z w (st.items++lkd) ds->vd inl an TL c fx lkd st K->WD E.P an.n c (QKD E C fx lkd K) f w ds:=by
 intro c
 induction c with
 | seq a b iha ihb =>
  intro C fx lkd st K ρ Z f w ds h hk hv
  simp only [vd] at hv
  cases hb:(rng a || rng b) with
  | false=>rw [hb,cond_false] at hv; exact a57 hE hI h hk hv
  | true =>
   rw [hb,cond_true] at hv
   refine d6f (a4q (iha C fx lkd st _ ρ Z f w ds h hk hv) fun e f' w' ds' q=>?_)
   obtain ⟨st',ρ',Z',hr,hm,he⟩:=q
   cases e with
   | normal=>exact ihb C fx lkd st' K ρ' Z' f' w' ds' hr hm he
   | ret=>exact ⟨st',ρ',Z',hr,hm,he⟩
   | exit i=>exact ⟨st',ρ',Z',hr,hm,he⟩
   | _=>exact he.elim
 | block i c ih =>
  intro C fx lkd st K ρ Z f w ds h hk hv
  refine c4d (a4q (ih C fx lkd st _ ρ Z f w ds h hk hv) fun e f' w' ds' q=>?_)
  obtain ⟨st',ρ',Z',hr,hm,he⟩:=q
  cases e with
  | normal=>exact ⟨st',ρ',Z',hr,hm,he⟩
  | ret=>exact ⟨st',ρ',Z',hr,hm,he⟩
  | exit j =>
   have he:(match (bif Nat.beq i j then some K.n else lk K.e j) with | some k=>k st' | none=>False):=he
   show (bif Nat.beq j i then QKD E C fx lkd K .normal f' w' ds' else QKD E C fx lkd K (.exit j) f' w' ds')
   have hc:Nat.beq i j=Nat.beq j i:=by
    by_cases e:i=j
    . rw [e]
    . rw [O1 e,O1 (Ne.symm e)]
   rw [hc] at he
   cases hb:Nat.beq j i with
   | true=>rw [hb] at he; exact ⟨st',ρ',Z',hr,hm,he⟩
   | false=>rw [hb] at he; exact ⟨st',ρ',Z',hr,hm,he⟩
  | _=>exact he.elim
 | loop c ih =>
  intro C fx lkd st K ρ Z f w ds h hk hv
  simp only [vd] at hv
  cases hb:rng c with
  | false=>rw [hb,cond_false] at hv; exact a57 hE hI h hk hv
  | true =>
   rw [hb,cond_true] at hv
   split at hv
   . exact hv.elim
   . rename_i a ha
     obtain ⟨I,m,h0,hb⟩:=hv
     have hl:∀ p∈l6 st.items (s8 E fx st a.vars)++lkd,p∈st.items++lkd:=fun p hp=>by
      rcases List.mem_append.1 hp with hp | hp
      . exact List.mem_append_left _ (List.mem_filter.1 hp).1
      simp_all
     have hk0:Mk E C ρ Z w ((inn st (s8 E fx st a.vars)).items++(l6 st.items (s8 E fx st a.vars)++lkd)) ds:=hk.sub fun p hp=>by
      rcases List.mem_append.1 hp with hp | hp
      . exact List.mem_append_left _ (List.mem_filter.1 hp).1
      simp_all
     obtain ⟨new,ρ2,im,h1,h2,h3,h4⟩:=c7c h hl (h.enter a.keep (s8 E fx st a.vars)) hk0 h0 hb
     refine     c8j (fun k f' w' ds' => ∃ (new : E.St) (ρ2 :   n9) (Z2 : Nat -> Prop) (im : Prop × Nat), (im.1 -> vd inl an TL c (   n8 fx st a.keep ++ fx) (     l6 st.items (   s8 E fx st a.vars) ++ lkd) new
           (Z6 (n8 fx st a.keep) (l6 st.items (s8 E fx st a.vars)) K (fun st'=>rbP E fx st (n8 fx st a.keep++fx) st' a.vars (W9 a.vars I m) (fun im'=>im'.1/\im'.2<im.2))))/\im.1/\im.2=k/\Rel E (C.at ρ Z w) (n8 fx st a.keep++fx) (l6 st.items (s8 E fx st a.vars)++lkd) new ρ2 Z2 f' w'/\Mk E C ρ2 Z2 w' (new.items++(l6 st.items (s8 E fx st a.vars)++lkd)) ds') im.2 ⟨new,ρ2,Z,im,h2,h1,rfl,h3,h4⟩ ?_
     rintro k f' w' ds' ⟨new,ρ2,Z2,im,hbody,hi,rfl,hr,hm⟩
     refine a4q (ih _ _ _ _ _ ρ2 Z2 f' w' ds' hr ⟨hm.nd,hm.is,hm.new,hm.ap⟩ (hbody hi)) fun e f2 w2 ds2 q=>?_
     cases e with
     | normal =>
      obtain ⟨st',ρ',Z',hr',hm',he⟩:=q
      obtain ⟨new2,ρ3,im2,g1,g2,g3,g4⟩:=c7c (ds:=ds2) h hl hr' ⟨hm'.nd,hm'.is,hm'.new,hm'.ap⟩ he hb
      exact ⟨im2.2,g1.2,new2,ρ3,Z',im2,g2,g1.1,rfl,g3,g4⟩
     | ret=>exact c2z h (by simp_all) q
     | exit i=>exact c2z h (by simp_all) q
     | _=>obtain ⟨_,_,_,_,_,he⟩:=q; exact he.elim
 | rangeFunc g ps asg body _ _ =>
  intro C fx lkd st K ρ Z f w ds h hk hv
  simp only [vd] at hv
  split at hv
  . rename_i gf cs hg
    split at hv
    . rename_i p a iti hps ha hcs
      split at hv
      . rename_i itc hci
        have ⟨hc,hv⟩:=U9 hv
        simp only [Bool.and_eq_true] at hc
        obtain ⟨I,pre,res,h0,hst,hbd,hv⟩:=hv
        split at hv
        . rename_i ob xs ht
          obtain ⟨hob,hK⟩:=hv
          have e:ps=#[p]:=by rw [<- Array.toArray_toList (xs:=ps),hps]
          subst e
          refine c6k hE hI TL h hk hg hcs hci hc.1.1.1.1.1.1 hc.1.1.1.1.1.2 hc.1.1.1.1.2 hc.1.1.1.2 hc.1.1.2 hc.1.2 hc.2 rfl h0 hst hbd ht hob ?_
          grind
        . exact hv.elim
      simp_all
    simp_all
  simp_all
 | _=>intro C fx lkd st K ρ Z f w ds h hk hv; exact a57 hE hI h hk hv
def c5u (st:E.St) (r:ResultVar):Option E.SV:=match r with
 | .tmp t=>a3n st (.tmp t)
 | .cell a T=>(match lk st.slots a with
  | some (.ref id off)=>(match lk st.items id with
   | some (.own _ [v])=>(match E.aggOf T with
    | some b=>bif !b && Nat.beq off 0 then some v else none
    | none=>none)
   | _=>none)
  | _=>none)
theorem c84 {n:Nat} {r:ResultVar} {s:E.SV} (h:Rel E C fx lkd st ρ Z f w) (e:c5u st r=some s):∃ v,Rep E.N E.T ρ Z w v s/\∀ a w1,Is a f n->Sim w w1->(W7 a.tmps r).run E.P w1=.ok v w1:=by
 cases r with
 | tmp t=>exact K4 h e
 | cell a0 T =>
  simp only [c5u] at e
  split at e
  . rename_i id off hl
    split at e
    . rename_i Ty v hi
      split at e
      . rename_i b hA
        have ⟨h1,h2⟩:=j3 e
        simp only [Option.some.injEq] at h2; subst h2
        simp only [Bool.and_eq_true,Bool.not_eq_true'] at h1
        have e0:=Nat.eq_of_beq_eq_true h1.2
        subst e0
        rw [h1.1] at hA
        have hr:=h.sl a0 _ hl
        obtain ⟨j,hj,_⟩:=p8 hi
        obtain ⟨L,cs,hL,hbs,ho,hrep⟩:=h.mem.holds (l8 (l2:=lkd) hj)
        have hL:ρ id=some L:=hL
        have hp:f a0=.pointer (some ⟨L.b,0,none⟩):=by
         generalize f a0=u at hr
         cases hr with | ref hL'=>simp_all
        obtain ⟨v1,rfl,hv,_⟩:=hrep.one_inv
        refine ⟨v1,hv,fun a w1 hi' hs=>?_⟩
        have hc:Cells w1 L.b 0 [v1]:=Cells.sim ho.all hs
        have h0:=hc.cell (j:=0) (v:=v1) rfl
        simp only [Nat.add_zero] at h0
        have this:(loadVar T ⟨L.b,0,none⟩).run E.P w1=.ok v1 w1:=by simp [loadVar,X3 hA,go_sem,load,Sem.run,h0]
        simp only [W7]
        rw [hi'.get,hp]
        rw [Sem.run_bind]
        simp only [asAddr,Sem.run_pure,Result.andThen_ok]
        exact this
      . cases e
    . cases e
  . cases e
def a7z (inl:Inl E) (an:Ann) (TL:b6m E YY) (fn:Func) (args:List E.SV) (its lkd:i6 E.N) (nx:Nat) (k:E.SV->i6 E.N->Nat->Prop):Prop:=match fn.body,fn.results.toList with
 | some c,[r]=>bif Nat.ble args.length fn.ntmps then vd inl ⟨fn.ntmps,an.loop,an.join⟩ TL c [] lkd ⟨number 0 args,[],its,nx⟩ ⟨fun st=>(match c5u st r with | some v=>k v st.items st.nx | none=>False),fun st=>(match c5u st r with | some v=>k v st.items st.nx | none=>False),[]⟩ else False
 | _,_=>False
theorem c55 {fn:Func} {K:Nat} {args:List E.SV} {its:i6 E.N} {nx:Nat} {vs:List Value} (hE:j7 E) (hI:F1 E inl) (TL:b6m E YY) (hf:E.P.funcs[K]?=some fn) {k:E.SV->i6 E.N->Nat->Prop} (hv:a7z inl an TL fn args its lkd nx k) (hm:Mem E C ρ Z w (its++lkd) nx) (hg:E.G.is Z w) (ha:Rep E.N E.T ρ Z w (.tuple vs.toArray) (.tup args)):D4 E.P K vs w (c2n E C ρ Z w lkd k):=by
 unfold a7z at hv
 split at hv
 . rename_i c r hc hrr
   have ⟨hb,hv⟩:=U9 hv
   have hle:Nat.ble vs.length fn.ntmps=true:=by rw [a2t ha]; exact hb
   have h0:Rel E (C.at ρ Z w) [] lkd ⟨number 0 args,[],its,nx⟩ ρ Z (nth vs) w:=⟨fun k s e=>a4i (n:=0) ha k s (by simpa using e),fun p hp=>(by cases hp),fun k j b s e=>(by cases e),hm.down,Tn.refl _ _ _,hg⟩
   have hw:=d7d (an:=⟨fn.ntmps,an.loop,an.join⟩) hE hI TL c _ _ _ _ _ ρ Z (nth vs) w [] h0 ⟨List.nodup_nil,fun _ h=>(by cases h),fun _ h=>(by cases h),fun _ h=>(by cases h)⟩ hv
   refine d5z hf hc rfl hle (a4q hw fun e f' w' ds q=>?_)
   obtain ⟨st,ρ',Z',hr,hk,he⟩:=q
   have hs:=hr.shutM hk
   have fin:(match c5u st r with | some v=>k v st.items st.nx | none=>False)->∃ v,c28 E.P fn fn.ntmps f' (shutM w' ds) v/\c2n E C ρ Z w lkd k v (shutM w' ds):=fun hk=>by
    split at hk
    . rename_i s hss
      obtain ⟨v,h1,h2⟩:=c84 (n:=fn.ntmps) hs hss
      exact ⟨v,fun a w1 hi hs=>a8y (by grind) (h2 a w1 hi hs),ρ',Z',s,st.items,st.nx,Mem.upC hm hs.mem,hs.tn,h1,hk⟩
    simp_all
   cases e with
   | normal=>exact ⟨.inr rfl,hk.nd,hk.is,fin he⟩
   | ret=>exact ⟨.inl rfl,hk.nd,hk.is,fin he⟩
   | exit i=>exact he.elim
   | _=>exact he.elim
 simp_all
theorem d7x {fn:Func} {K nx:Nat} {args:List E.SV} (hE:j7 E) (hI:F1 E inl) (TL:b6m E YY) (hf:E.P.funcs[K]?=some fn) {k:VK} {x:k.den E.N} {ob:List Prop} (hp:args.all B3=true) (hv:a7z inl an TL fn args [] [] 0 (a2o E [k] (fun y=>y=x))):E2 E.P E.N E.T E.G K args nx ⟨ob,[],Z9 E nx k x,Z8 E k x⟩ :=
 ⟨fun ρ Z w vs hfr hz hg ha=>(c55 (C:=a3g (fun _=>none) Z w) hE hI TL hf hv (b1p (fun _ _=>rfl) hz) hg (E6 hp ha _)).mono fun v w' h=>by
  obtain ⟨ρ',Z',s,its',nx',hx,hm,ht,hr,hk⟩:=h.pure
  obtain ⟨ρ3,os,t1,f1,s1,r1,o1⟩:=M9 (lkd:=[]) (n2:=nx) (ρ2:=ρ) (os:=[]) (new:=[]) (by simpa using hm) hr (c5x hk) hfr .nil
  rw [(Q4 k x).1,List.append_nil] at t1
  rw [(Q4 k x).2] at f1
  refine ⟨ρ3,Z',s1,f1,hm.zge,fun b hb=>?_,r1,a50 hm t1 (a9p o1) f1,trivial⟩
  rcases hm.zle b hb with h | h | h
  . exact .inl h
  . cases h
  . exact .inr h⟩
def obQ (E:Env) (Q:E.N.O 0->Prop) (its:i6 E.N):Prop:=match lk its 0 with
 | some (.ob k _ x)=>if h:k=0 then Q (h ▸ x) else False
 | _=>False
theorem d6r {fn:Func} {K nx:Nat} {args:List E.SV} {itc:i6 E.N} {fd:Nat} {x y:E.N.O 0} (hE:j7 E) (hI:F1 E inl) (hf:E.P.funcs[K]?=some fn) (hv:m7 inl an fn args [(0,.ob 0 fd x)] itc nx (fun _ its _=>obQ E (fun z=>z=y) its)) :
  R9 E.P E.N E.T E.G K args ((0,.ob 0 fd x)::itc) nx (fun k=>∀ fid n v,k v ((0,.ob 0 fid y)::itc) n):=fun k hk ρ Z w vs B hfr hs hg ha =>
 (J4 (C:=Ctx.gr ρ Z w B) hE hI hf hv ⟨hs,hfr,fun _ _ h=>h,fun _ h=>h,fun _ h=>.inl h⟩ hg ha).mono fun v w' ⟨ρ',Z',s,its',nx',hm,ht,hr,hq⟩=>by
  have hq:obQ E (fun z=>z=y) its':=hq
  unfold obQ at hq
  split at hq
  . rename_i k0 f' x' hl
    split at hq
    . rename_i h0
      subst h0
      have hq:x'=y:=hq
      subst hq
      have hix:=a27 hl
      have hlt:=s6 hix
      have hm2:Mem E (Ctx.gr ρ Z w B) ρ' Z' w' ((0,.ob 0 f' x')::itc) nx':=hm.sel (fun _ _ h=>h) hm.fr (fun i=>if i=0 then b6l its' 0 else its'.length+(i-1)) (fun i j _ _ e=>by
       grind) fun i p hp=>by
       grind
      exact ⟨ρ',Z',s,_,nx',hm2.sep,hm2.fr,hm2.ge,hm2.zge,hm2.zle,hr,hk f' nx' s⟩
    simp_all
  simp_all
end
end Go.Rx
end
section
namespace Go.Rx
open Go Go.Wk Go.Wl
section
variable {E:Env} {t:Nat} {inl:Inl E} {an:Ann}
def c8r (E:Env) {t:Nat} (y:TyI E.N E.T t) (Q:E.N.U t->Prop):E.SV->i6 E.N->Nat->Prop:=fun v its _=>match v with
 | .ref id off=>bif Nat.beq off 0 then (match lk its id with
  | some (.own T cells)=>bif Nat.beq T t then (match y.bk (.agg cells) with | some x=>Q x | none=>False) else False
  | _=>False) else False
 | _=>False
theorem c80 {fn:Func} {K nx:Nat} {args:List E.SV} {x:E.N.U t} {ob:List Prop} (hE:j7 E) (hI:F1 E inl) (hf:E.P.funcs[K]?=some fn) (y:TyI E.N E.T t) (hp:args.all B3=true) (hv:m7 inl an fn args [] [] 0 (c8r E y (fun z=>z=x))):E2 E.P E.N E.T E.G K args nx ⟨ob,[],.fel t [x] 0 0,[]⟩ :=
 ⟨fun ρ Z w vs hfr hz hg ha=>(J4 (C:=a3g (fun _=>none) Z w) hE hI hf hv (b1p (fun _ _=>rfl) hz) hg (E6 hp ha _)).mono fun v w' h=>by
  obtain ⟨ρ',Z',s,its',nx',hx,hm,ht,hr,hk⟩:=h.pure
  unfold c8r at hk
  split at hk
  . rename_i id off
    have h1:=(U9 hk).1
    replace hk:=(U9 hk).2
    have h1:=Nat.eq_of_beq_eq_true h1
    subst h1
    split at hk
    . rename_i T cells hl
      have h2:=(U9 hk).1
      replace hk:=(U9 hk).2
      have h2:=Nat.eq_of_beq_eq_true h2
      subst h2
      split at hk
      . rename_i x' hbk
        subst hk
        obtain ⟨j,hj,_⟩:=p8 hl
        obtain ⟨L,cs,hL,hbs,ho,hrep⟩:=hm.holds hj
        have hL:ρ' id=some L:=hL
        have hb:L.b∈o8 E.N ρ' id (.own T cells):=by rw [p6 hL,hbs]; exact List.mem_singleton.2 rfl
        have ok:=hm.okp (List.mem_of_getElem? hj)
        have hrd:=y.bk_ok (s:=.agg cells) hrep hbk
        have hv:v=.pointer (some ⟨L.b,0,none⟩):=by
         cases hr with | ref hL'=>simp_all
        have hZ:∀ b,Z' b->b<w'.heap.size->(fun k=>Z' k ∨ k=L.b) b:=fun b h _=>.inl h
        have hrow:=c94 (D:=fun k=>Z' k ∨ k=L.b) ho (.inr rfl) (Rd.weak _ hrd hZ)
        refine ⟨ρ,fun k=>Z' k ∨ k=L.b,fun _ _ h=>h,hfr,fun b hb=>.inl (hm.zge b hb),fun b hb=>?_,?_,⟨hx,fun b hb=>?_,fun k t h=>by simp [o0,number] at h,fun j k s t h=>by simp [o0,number] at h⟩,trivial⟩
        . rcases hb with hb | rfl
          . rcases hm.zle b hb with h | h | h
            . exact .inl h
            . cases h
            . exact .inr h
          . rcases ok.org _ hb with h | h
            . cases h
            . exact .inr h
        . have:=Rep.fel (N:=E.N) (T:=E.T) (ρ:=ρ) (t:=T) (off:=0) hrow (i:=0) (by omega) (by simp_all)
          have e:eA (some ⟨L.b,0,none⟩) (Int.toNat 0 * (E.N.tb T).r.sz+0)=⟨L.b,0,none⟩:=by simp [eA,Addr.add]
          simp_all
        . rcases hb with hb | rfl
          . exact hm.sep.zlt b hb
          . exact ok.lt _ hb
      simp_all
    simp_all
  simp_all⟩
end
end Go.Rx
end
section
namespace Go.Proofs.YtdjfeninmbpflaaGreat
open Go Go.Wk Go.Wl Go.Rx Go.Re 
theorem e5:True:=trivial
end Go.Proofs.YtdjfeninmbpflaaGreat
end
section
namespace Go.Proofs.YtdjfeninmbpflaaGreat
open Go Go.Wk Go.Wl Go.Rx Go.Re Go.Re
attribute [local irreducible] m7
def c34:Nat->Ann:=fun | 30=>⟨12,nn,nn⟩ | _=>⟨0,nn,nn⟩
def Vlo (s:Tm) (r:Rl) (Q:Lk->Prop):Prop :=
Q (Lk.mk (Rl.mk r.Freq r.Interval r.Count r.Until r.Month r.WeekNo r.YearDay r.MonthDay r.Days r.Hour r.Minute r.Second r.SetPos r.Wkst) (Tm.mk (Dy.mk s.Day.Year s.Day.Month s.Day.Date) s.Hour s.Min s.Sec (decide (s.Bare=true)) (decide (s.UTC=true))) (j9 (Dy.mk s.Day.Year s.Day.Month s.Day.Date)))
theorem d4j {s:Tm} {r:Rl} {Q:Lk->Prop}:@Eq Prop (Vlo s r Q) (m7 (E:=Nc2) (P7 Nc2 H0 c34 2) (c34 30) Tryz.f30 [.agg [.int .i64 s.Day.Year,.int .i64 s.Day.Month,.int .i64 s.Day.Date,.int .i64 s.Hour,.int .i64 s.Min,.int .i64 s.Sec,blB s.Bare,blB s.UTC],.agg [.int .i64 r.Freq,.int .i64 r.Interval,.int .i64 r.Count,.sl (N:=U) 25 r.Until,.sl (N:=U) 3 r.Month,.sl (N:=U) 3 r.WeekNo,.sl (N:=U) 3 r.YearDay,.sl (N:=U) 3 r.MonthDay,.sl (N:=U) 60 r.Days,.sl (N:=U) 3 r.Hour,.sl (N:=U) 3 r.Minute,.sl (N:=U) 3 r.Second,.sl (N:=U) 3 r.SetPos,.int .i64 r.Wkst]] [] [] 0 (c8r Nc2 y85 Q)):=by kernel_rfl
theorem d6q {s:Tm} {r:Rl} {Q:Lk->Prop} (h:Vlo s r Q):m7 (E:=Nc2) (P7 Nc2 H0 c34 2) (c34 30) Tryz.f30 [.agg [.int .i64 s.Day.Year,.int .i64 s.Day.Month,.int .i64 s.Day.Date,.int .i64 s.Hour,.int .i64 s.Min,.int .i64 s.Sec,blB s.Bare,blB s.UTC],.agg [.int .i64 r.Freq,.int .i64 r.Interval,.int .i64 r.Count,.sl (N:=U) 25 r.Until,.sl (N:=U) 3 r.Month,.sl (N:=U) 3 r.WeekNo,.sl (N:=U) 3 r.YearDay,.sl (N:=U) 3 r.MonthDay,.sl (N:=U) 60 r.Days,.sl (N:=U) 3 r.Hour,.sl (N:=U) 3 r.Minute,.sl (N:=U) 3 r.Second,.sl (N:=U) 3 r.SetPos,.int .i64 r.Wkst]] [] [] 0 (c8r Nc2 y85 Q):=by rw [<- d4j]; exact h
theorem plo (s:Tm) (r:Rl):Vlo s r (fun z=>z=⟨r,s,j9 s.Day⟩):=by
 unfold Vlo
 simp only [Bool.decide_eq_true]
def clo (a:List (SV U)) (nx:Nat):Option (CR U):=match a with | [.agg l_s,.agg l_r]=>(y25.bk (.agg l_s)).bind fun s=>(y30.bk (.agg l_r)).bind fun r=>some ⟨[],[],.fel 85 [⟨r,s,j9 s.Day⟩] 0 0,[]⟩ | _=>none
noncomputable def Nlo:Env:=Nc2.addC 30 clo
theorem d4m:j7 Nlo:=b6g.addC Tryz.call30 fun (args:List (SV U)) nx (c:CR U) (h:clo args nx=some c) hp ho=>by
 unfold clo at h
 split at h
 . rename_i l_s l_r
   obtain ⟨s,hb_s,h⟩:=Option.bind_eq_some_iff.1 h
   obtain ⟨r,hb_r,h⟩:=Option.bind_eq_some_iff.1 h
   cases h
   exact E2.weak (b:=[.agg [.int .i64 s.Day.Year,.int .i64 s.Day.Month,.int .i64 s.Day.Date,.int .i64 s.Hour,.int .i64 s.Min,.int .i64 s.Sec,blB s.Bare,blB s.UTC],.agg [.int .i64 r.Freq,.int .i64 r.Interval,.int .i64 r.Count,.sl (N:=U) 25 r.Until,.sl (N:=U) 3 r.Month,.sl (N:=U) 3 r.WeekNo,.sl (N:=U) 3 r.YearDay,.sl (N:=U) 3 r.MonthDay,.sl (N:=U) 60 r.Days,.sl (N:=U) 3 r.Hour,.sl (N:=U) 3 r.Minute,.sl (N:=U) 3 r.Second,.sl (N:=U) 3 r.SetPos,.int .i64 r.Wkst]]) (c80 b6g ((j6 b6g o9 c34 2)) Tryz.func30 y85 rfl (d6q (plo s r))) fun ρ Z w v hr=>q9 [.agg l_s,.agg l_r] [.agg [.int .i64 s.Day.Year,.int .i64 s.Day.Month,.int .i64 s.Day.Date,.int .i64 s.Hour,.int .i64 s.Min,.int .i64 s.Sec,blB s.Bare,blB s.UTC],.agg [.int .i64 r.Freq,.int .i64 r.Interval,.int .i64 r.Count,.sl 25 r.Until,.sl 3 r.Month,.sl 3 r.WeekNo,.sl 3 r.YearDay,.sl 3 r.MonthDay,.sl 60 r.Days,.sl 3 r.Hour,.sl 3 r.Minute,.sl 3 r.Second,.sl 3 r.SetPos,.int .i64 r.Wkst]] _ ⟨fun _ h=>o7 hb_s h,fun _ h=>s9 hb_r h,trivial⟩ hr
 . cases h
end Go.Proofs.YtdjfeninmbpflaaGreat
end
section
namespace Go.Proofs.YtdjfeninmbpflaaGreat
open Go Go.Wk Go.Wl Go.Rx Go.Re 
noncomputable def Q3:Env:=Nlo.addI 47 Tryz.f47
theorem a2d:j7 Q3:=d4m.addI Tryz.call47 Tryz.func47
end Go.Proofs.YtdjfeninmbpflaaGreat
end
section
namespace Go.Re
open Go Go.Wk Go.Wl Go.Rx
theorem c0b (s:Tm) (r:Rl):(A5 s r).length<=86400:=a1k s r 24
end Go.Re
end
section
namespace Go.Re
open Go Go.Wk Go.Wl Go.Rx
structure Ws where
 T:List Int
 C:List Int
 run:List Int
 now:Int
def flW (r:Rl) (w:Ws):Ws:=⟨w.T++s7 r w.run,w.C++List.replicate (s7 r w.run).length (w.now.tdiv r.Interval),[],w.now⟩
def D6 (s:Tm) (r:Rl) (t:Int):Int:=s5 r t-s5 r (b8 s)
def Z3 (s:Tm) (r:Rl) (t:Int):Prop:=D6 s r t<0 ∨ (D6 s r t).tmod r.Interval≠0
instance (s:Tm) (r:Rl) (t:Int):Decidable (Z3 s r t):=inferInstanceAs (Decidable (_ ∨ _))
def stW (s:Tm) (r:Rl) (w:Ws) (t:Int):Ws :=
 if Z3 s r t then w else if D6 s r t≠w.now then ⟨(flW r w).T,(flW r w).C,[t],D6 s r t⟩ else ⟨w.T,w.C,w.run++[t],w.now⟩
def dyW (s:Tm) (r:Rl) (n:Int):List Int:=if N7 s r (j9 s.Day) n=true then (A5 s r).map fun c=>86400 * (n-1)+c else []
def spW (s:Tm) (r:Rl) (a:Int):Nat->List Int
 | 0=>[]
 | k+1=>spW s r a k++dyW s r (a+k)
def G9 (s:Tm) (r:Rl):Int :=
 let x:=j9 ⟨s.Day.Year,1,1⟩-7
 let y:=if x<1 then 1 else x
 let z:=if 0<r.Freq/\y<j9 s.Day-45 then j9 s.Day-45 else y
 if 3<=r.Freq then j9 s.Day else z
def a2m (r:Rl):Int:=if 3<=r.Freq then 1 else if r.Freq=1 then 40 else if r.Freq=0 then 400 else 8
def S3 (s:Tm) (r:Rl) (to:Int):Nat:=(min 3652060 (1+(to+86400 * a2m r+86399) / 86400)-G9 s r).toNat
def wsW (s:Tm) (r:Rl) (l:List Int):Ws:=l.foldl (stW s r) ⟨[],[],[],-1⟩
def L0 (s:Tm) (r:Rl) (to:Int):List Int×List Int :=
 ((flW r (wsW s r (spW s r (G9 s r) (S3 s r to)))).T,(flW r (wsW s r (spW s r (G9 s r) (S3 s r to)))).C)
section
variable {s:Tm} {r:Rl}
theorem a9v {w:Ws} {t:Int} (h:Z3 s r t):stW s r w t=w:=by unfold stW; rw [if_pos h]
theorem b0q {w:Ws} {t:Int} (h:¬ Z3 s r t) (h1:D6 s r t≠w.now):stW s r w t=⟨(flW r w).T,(flW r w).C,[t],D6 s r t⟩:=by
 unfold stW; rw [if_neg h,if_pos h1]
theorem b8b {w:Ws} {t:Int} (h:¬ Z3 s r t) (h1:¬ D6 s r t≠w.now):stW s r w t=⟨w.T,w.C,w.run++[t],w.now⟩:=by
 unfold stW; rw [if_neg h,if_neg h1]
theorem c9t {l:List Int} {t:Int}:wsW s r (l++[t])=stW s r (wsW s r l) t:=by unfold wsW; rw [List.foldl_append]; rfl
theorem a3l {sp:List Int} {n:Int}:∀ (l:List Int) (i:Int),(N5 sp n i l).length<=l.length
 | [],_=>Nat.le_refl 0
 | t::l,i=>by
  have:=a3l (sp:=sp) (n:=n) l (i+1)
  rw [V5]
  split
  . simpa using this
  . exact Nat.le_succ_of_le this
theorem a1z {l:List Int}:(s7 r l).length<=l.length:=by
 unfold s7
 split
 . exact Nat.le_refl _
 . exact a3l _ _
theorem d5g {w:Ws} {t:Int} {n:Nat} (h:w.T.length+w.run.length<=n) (h2:w.C.length+w.run.length<=n) :
  (stW s r w t).T.length+(stW s r w t).run.length<=n+1/\(stW s r w t).C.length+(stW s r w t).run.length<=n+1:=by
 have hp:=a1z (r:=r) (l:=w.run)
 by_cases a:Z3 s r t
 . rw [a9v a]; omega
 by_cases b:D6 s r t≠w.now
 . rw [b0q a b]
   simp only [flW,List.length_append,List.length_replicate,List.length_cons,List.length_nil]
   omega
 . rw [b8b a b]
   simp only [List.length_append,List.length_cons,List.length_nil]
   omega
theorem c5i:∀ (l m:List Int) (w:Ws),w.T.length+w.run.length<=m.length->w.C.length+w.run.length<=m.length ->
  (l.foldl (stW s r) w).T.length+(l.foldl (stW s r) w).run.length<=m.length+l.length/\(l.foldl (stW s r) w).C.length+(l.foldl (stW s r) w).run.length<=m.length+l.length
 | [],m,w,h,h2=>⟨h,h2⟩
 | t::l,m,w,h,h2=>by
  obtain ⟨a,b⟩:=d5g (s:=s) (r:=r) (t:=t) h h2
  have:=c5i l (t::m) (stW s r w t) a b
  simpa [Nat.add_assoc,Nat.add_comm 1] using this
theorem d2l {n:Int}:(dyW s r n).length<=86400:=by
 have:=a1k s r 24
 unfold dyW A5
 split
 . rw [List.length_map]; exact this
 . exact Nat.zero_le _
theorem b0x {a:Int}:∀ k,(spW s r a k).length<=86400 * k
 | 0=>Nat.le_refl 0
 | k+1=>by
  have:=b0x (a:=a) k
  have:=d2l (s:=s) (r:=r) (n:=a+k)
  unfold spW
  rw [List.length_append]
  omega
theorem b90 {h m:Int} (h0:0<=h) (h1:h<24) (m0:0<=m) (m1:m<60):∀ (k:Nat),k<=60->∀ c∈P9 s r h m k,0<=c/\c<86400
 | 0,_,c,hc=>by cases hc
 | k+1,hk,c,hc=>by
  unfold P9 at hc
  rcases List.mem_append.1 hc with hc | hc
  . exact b90 h0 h1 m0 m1 k (by omega) c hc
  . split at hc
    . cases List.mem_singleton.1 hc; omega
    . cases hc
theorem b9r {h:Int} (h0:0<=h) (h1:h<24):∀ (k:Nat),k<=60->∀ c∈O4 s r h k,0<=c/\c<86400
 | 0,_,c,hc=>by cases hc
 | k+1,hk,c,hc=>by
  unfold O4 at hc
  rcases List.mem_append.1 hc with hc | hc
  . exact b9r h0 h1 k (by omega) c hc
  . split at hc
    . exact b90 h0 h1 (by omega) (by omega) 60 (by omega) c hc
    . cases hc
theorem b0p:∀ (k:Nat),k<=24->∀ c∈S9 s r k,0<=c/\c<86400
 | 0,_,c,hc=>by cases hc
 | k+1,hk,c,hc=>by
  unfold S9 at hc
  rcases List.mem_append.1 hc with hc | hc
  . exact b0p k (by omega) c hc
  . split at hc
    . exact b9r (by omega) (by omega) 60 (by omega) c hc
    . cases hc
theorem d4c {i:Int} (h0:0<=i) (h1:i<(A5 s r).length):0<=ix (A5 s r) i/\ix (A5 s r) i<86400:=b0p 24 (by omega) _ (R6 h0 h1)
def dnW (s:Tm) (r:Rl) (n i:Int):List Int:=((A5 s r).take i.toNat).map fun c=>86400 * (n-1)+c
theorem e1v {n:Int}:dnW s r n 0=[]:=by unfold dnW; rfl
theorem c87 {n i:Int} (h0:0<=i) (h1:i<(A5 s r).length):dnW s r n (i+1)=dnW s r n i++[86400 * (n-1)+ix (A5 s r) i]:=by
 have h:i.toNat<(A5 s r).length:=by omega
 unfold dnW
 rw [show (i+1).toNat=i.toNat+1 by omega,List.take_succ_eq_append_getElem h,List.map_append,A8 h]
 rfl
theorem d4i {n i:Int} (h1:¬ i<(A5 s r).length) (hd:N7 s r (j9 s.Day) n=true):dnW s r n i=dyW s r n:=by
 unfold dnW dyW
 rw [if_pos hd,List.take_of_length_le (by omega)]
theorem d6k {n i:Int} (h0:0<=i):((dnW s r n i).length:Int)<=i:=by
 unfold dnW
 rw [List.length_map,List.length_take]
 omega
theorem b8v {a k:Int} (h0:-1<=a) (h1:a<=400000000000) (hk:1<=k):-1<=a.tdiv k/\a.tdiv k<=400000000000:=by
 by_cases h:0<=a
 . rw [Int.tdiv_eq_ediv_of_nonneg h]
   have:=Int.ediv_nonneg h (show 0<=k by omega)
   have:=Int.ediv_le_self k h
   omega
 . obtain rfl:a=-1:=by omega
   rw [show (-1:Int)=-(1:Int) from rfl,Int.neg_tdiv,Int.tdiv_eq_ediv_of_nonneg (by omega)]
   have:=Int.ediv_nonneg (show (0:Int)<=1 by omega) (show 0<=k by omega)
   have:=Int.ediv_le_self k (show (0:Int)<=1 by omega)
   omega
theorem c89 {s:Tm} (h:n7 s=true):1<=j9 s.Day:=by
 have hr:=(u7.1 h).1
 unfold j9
 rw [if_pos hr]
 exact (H6 hr).1
theorem c0c (nY:0<=j9 ⟨s.Day.Year,1,1⟩/\j9 ⟨s.Day.Year,1,1⟩<=3652059) (nS:0<=j9 s.Day/\j9 s.Day<=3652059) (nP:1<=j9 s.Day):1<=G9 s r/\G9 s r<=3652059:=by
 unfold G9
 dsimp only
 (repeat' split) <;> omega
structure WhI (s:Tm) (r:Rl) (to A D:Int) (w:Ws) (n:Int):Prop where
 a:A<=n
 a1:1<=A
 b:n<=3652060
 c:n=A ∨ 86400 * (n-2)<to+86400 * D
 w0:-1<=w.now
 w1:w.now<=400000000000
 e:w=wsW s r (spW s r A (n-A).toNat)
structure WdI (s:Tm) (r:Rl) (A n:Int) (w:Ws) (i:Int):Prop where
 i0:0<=i
 i1:i<=(A5 s r).length
 a:A<=n
 w0:-1<=w.now
 w1:w.now<=400000000000
 e:w=wsW s r (spW s r A (n-A).toNat++dnW s r n i)
structure FlI (r:Rl) (T C run:List Int) (now:Int) (X Y:List Int) (j:Int):Prop where
 j0:0<=j
 j1:j<=(s7 r run).length
 x:X=T++(s7 r run).take j.toNat
 y:Y=C++List.replicate j.toNat (now.tdiv r.Interval)
 lx:(X.length:Int)=T.length+j
 ly:(Y.length:Int)=C.length+j
theorem c5g (l:List Int):(wsW s r l).T.length+(wsW s r l).run.length<=l.length/\(wsW s r l).C.length+(wsW s r l).run.length<=l.length:=by
 have:=c5i (s:=s) (r:=r) l [] ⟨[],[],[],-1⟩ (Nat.le_refl 0) (Nat.le_refl 0)
 simpa [wsW] using this
theorem WhI.init {to A D:Int} (h:1<=A/\A<=3652059):WhI s r to A D ⟨[],[],[],-1⟩ A :=
 ⟨Int.le_refl A,h.1,by omega,.inl rfl,by decide,by decide,by rw [Int.sub_self]; rfl⟩
theorem WhI.rg {to A D n now:Int} {T C run:List Int} (h:WhI s r to A D ⟨T,C,run,now⟩ n) :
  1<=n/\n<=3652060/\-1<=now/\now<=400000000000/\T.length+run.length<=320000000000/\C.length+run.length<=320000000000/\A<=n:=by
 have e:=h.e
 have q:=c5g (s:=s) (r:=r) (spW s r A (n-A).toNat)
 have p:=b0x (s:=s) (r:=r) (a:=A) (n-A).toNat
 rw [<- e] at q
 dsimp only at q
 exact ⟨by have:=h.a; have:=h.a1; omega,h.b,h.w0,h.w1,by have:=h.b; have:=h.a1; omega,by have:=h.b; have:=h.a1; omega,h.a⟩
theorem b8u {A n:Int} (h:A<=n):spW s r A (n+1-A).toNat=spW s r A (n-A).toNat++dyW s r n:=by
 rw [show (n+1-A).toNat=(n-A).toNat+1 by omega]
 show spW s r A (n-A).toNat++dyW s r (A+((n-A).toNat:Int))=_
 rw [show A+((n-A).toNat:Int)=n by omega]
theorem WhI.no {to A D n:Int} {w:Ws} (h:WhI s r to A D w n) (hd:¬ N7 s r (j9 s.Day) n=true) (hn:n<=3652059/\86400 * (n-1)<to+86400 * D):WhI s r to A D w (n+1) :=
 ⟨by have:=h.a; omega,h.a1,by omega,.inr (by omega),h.w0,h.w1,by rw [b8u h.a,show dyW s r n=[] by unfold dyW; rw [if_neg hd],List.append_nil]; exact h.e⟩
theorem WhI.day {to A D n:Int} {w:Ws} (h:WhI s r to A D w n):WdI s r A n w 0 :=
 ⟨Int.le_refl 0,by omega,h.a,h.w0,h.w1,by rw [e1v,List.append_nil]; exact h.e⟩
theorem WdI.rg {A n now i:Int} {T C run:List Int} (h:WdI s r A n ⟨T,C,run,now⟩ i) (n0:1<=A) (n1:n<=3652060) :
  0<=i/\i<=86400/\-1<=now/\now<=400000000000/\T.length+run.length<=350000000000/\C.length+run.length<=350000000000:=by
 have e:=h.e
 have q:=c5g (s:=s) (r:=r) (spW s r A (n-A).toNat++dnW s r n i)
 have p:=b0x (s:=s) (r:=r) (a:=A) (n-A).toNat
 have d:=d6k (s:=s) (r:=r) (n:=n) h.i0
 have cl:=c0b s r
 rw [<- e,List.length_append] at q
 dsimp only at q
 have:=h.i1
 have:=h.a
 exact ⟨h.i0,by omega,h.w0,h.w1,by omega,by omega⟩
theorem WdI.fin {to A D n i:Int} {w v:Ws} (h:WdI s r A n w i) (h0:WhI s r to A D v n) (hn:n<=3652059/\86400 * (n-1)<to+86400 * D) (hi:¬ i<(A5 s r).length) (hd:N7 s r (j9 s.Day) n=true):WhI s r to A D w (n+1) :=
 ⟨by have:=h.a; omega,h0.a1,by omega,.inr (by omega),h.w0,h.w1,by rw [b8u h.a,<- d4i hi hd]; exact h.e⟩
theorem WdI.step {A n i:Int} {w w2:Ws} (h:WdI s r A n w i) (hi:i<(A5 s r).length) (he:stW s r w (86400 * (n-1)+ix (A5 s r) i)=w2) (h0:-1<=w2.now) (h1:w2.now<=400000000000):WdI s r A n w2 (i+1) :=
 ⟨by have:=h.i0; omega,by omega,h.a,h0,h1,by rw [c87 h.i0 hi,<- List.append_assoc,c9t,<- h.e,he]⟩
theorem WdI.out {A n i:Int} {w:Ws} (h:WdI s r A n w i) (hi:i<(A5 s r).length) (ho:Z3 s r (86400 * (n-1)+ix (A5 s r) i)):WdI s r A n w (i+1) :=
 h.step hi (a9v ho) h.w0 h.w1
theorem WdI.on {A n i now:Int} {T C run:List Int} (h:WdI s r A n ⟨T,C,run,now⟩ i) (hi:i<(A5 s r).length) (ho:¬ Z3 s r (86400 * (n-1)+ix (A5 s r) i)) (hk:¬ D6 s r (86400 * (n-1)+ix (A5 s r) i)≠now) :
  WdI s r A n ⟨T,C,run++[86400 * (n-1)+ix (A5 s r) i],now⟩ (i+1) :=
 h.step hi (b8b ho hk) h.w0 h.w1
theorem WdI.new {A n i now:Int} {T C run X Y:List Int} (h:WdI s r A n ⟨T,C,run,now⟩ i) (hi:i<(A5 s r).length) (ho:¬ Z3 s r (86400 * (n-1)+ix (A5 s r) i)) (hk:D6 s r (86400 * (n-1)+ix (A5 s r) i)≠now)
  (hp:-1<=D6 s r (86400 * (n-1)+ix (A5 s r) i)/\D6 s r (86400 * (n-1)+ix (A5 s r) i)<=400000000000)
  (hf:X=T++s7 r run/\Y=C++List.replicate (s7 r run).length (now.tdiv r.Interval)) :
  WdI s r A n ⟨X,Y,[86400 * (n-1)+ix (A5 s r) i],D6 s r (86400 * (n-1)+ix (A5 s r) i)⟩ (i+1):=by
 obtain ⟨rfl,rfl⟩:=hf
 exact h.step hi (b0q ho hk) hp.1 hp.2
theorem FlI.init {T C run:List Int} {now:Int}:FlI r T C run now T C 0:=⟨Int.le_refl 0,by omega,by simp,by simp,by omega,by omega⟩
theorem FlI.step {T C run X Y:List Int} {now j:Int} (h:FlI r T C run now X Y j) (hj:j<(s7 r run).length):FlI r T C run now (X++[ix (s7 r run) j]) (Y++[now.tdiv r.Interval]) (j+1):=by
 have h0:=h.j0
 have hl:j.toNat<(s7 r run).length:=by omega
 have lx:=h.lx
 have ly:=h.ly
 refine ⟨by omega,by omega,?_,?_,by simp only [List.length_append,List.length_cons,List.length_nil]; omega,by simp only [List.length_append,List.length_cons,List.length_nil]; omega⟩
 . rw [show (j+1).toNat=j.toNat+1 by omega,List.take_succ_eq_append_getElem hl,<- List.append_assoc,<- h.x,A8 hl]
 . rw [show (j+1).toNat=j.toNat+1 by omega,List.replicate_succ',<- List.append_assoc,<- h.y]
theorem FlI.fin {T C run X Y:List Int} {now j:Int} (h:FlI r T C run now X Y j) (hj:¬ j<(s7 r run).length):X=T++s7 r run/\Y=C++List.replicate (s7 r run).length (now.tdiv r.Interval):=by
 have h1:=h.j1
 have h2:=h.x
 have h3:=h.y
 rw [show j.toNat=(s7 r run).length by omega] at h2 h3
 rw [List.take_length] at h2
 exact ⟨h2,h3⟩
theorem WhI.fin {to A D n:Int} {w:Ws} (h:WhI s r to A D w n) (hA:A=G9 s r) (hD:D=a2m r) (hn:¬ (n<=3652059/\86400 * (n-1)<to+86400 * D)):((flW r w).T,(flW r w).C)=L0 s r to:=by
 have e:=h.e
 have a:=h.a
 have b:=h.b
 have c:=h.c
 unfold L0 S3
 rw [<- hA,<- hD,show (min 3652060 (1+(to+86400 * D+86399) / 86400)-A).toNat=(n-A).toNat by omega,<- e]
theorem c9z {w:Ws} {t:Int} (h:w.T.length=w.C.length):(stW s r w t).T.length=(stW s r w t).C.length:=by
 by_cases a:Z3 s r t
 . rw [a9v a]; exact h
 by_cases b:D6 s r t≠w.now
 . rw [b0q a b]
   simp only [flW,List.length_append,List.length_replicate,h]
 . rw [b8b a b]; exact h
theorem b8y:∀ (l:List Int) (w:Ws),w.T.length=w.C.length->(l.foldl (stW s r) w).T.length=(l.foldl (stW s r) w).C.length
 | [],_,h=>h
 | t::l,w,h=>b8y l (stW s r w t) (c9z h)
theorem WhI.same {to A D n now:Int} {T C run:List Int} (h:WhI s r to A D ⟨T,C,run,now⟩ n):T.length=C.length:=by
 have q:=b8y (s:=s) (r:=r) (spW s r A (n-A).toNat) ⟨[],[],[],-1⟩ rfl
 have e:=h.e
 unfold wsW at e
 rw [<- e] at q
 exact q
end
end Go.Re
end
section
namespace Go.Re
open Go Go.Wk Go.Wl Go.Rx
structure Al where
 n:Int
 k:Int
 out:List Int
def a5d (s:Tm) (r:Rl) (n t:Int):Prop:=(t<=b8 s ∨ 0<(r.Until.length:Int)/\b8 (ix r.Until 0)<t) ∨ 0<r.Count/\r.Count<=n
instance (s:Tm) (r:Rl) (n t:Int):Decidable (a5d s r n t):=inferInstanceAs (Decidable (_ ∨ _))
def stA (s:Tm) (r:Rl) (to:Int) (w:Al) (t c:Int):Al :=
 if a5d s r w.n t then w else ⟨w.n+1,if c<40000 then w.k+1 else w.k,if t<to then w.out++[t] else w.out⟩
def alA (s:Tm) (r:Rl) (to:Int) (T C:List Int):Nat->Al
 | 0=>⟨1,1,if b8 s<to then [b8 s] else []⟩
 | i+1=>stA s r to (alA s r to T C i) (ix T i) (ix C i)
def a5o (s:Tm) (r:Rl) (to k:Int):Bool :=
 if 0<r.Count/\r.Count<=k then false else decide (a0c s r 40000<to/\((r.Until.length:Int)=0 ∨ a0c s r 40000<=b8 (ix r.Until 0)))
def alS (s:Tm) (r:Rl) (to:Int):Al:=alA s r to (L0 s r to).1 (L0 s r to).2 (L0 s r to).1.length
def allS (s:Tm) (r:Rl) (to:Int):List Int×Bool:=((alS s r to).out,a5o s r to (alS s r to).k)
section
variable {s:Tm} {r:Rl}
structure AlI (s:Tm) (r:Rl) (to:Int) (T C:List Int) (n k:Int) (out:List Int) (i:Int):Prop where
 i0:0<=i
 i1:i<=T.length
 n0:1<=n/\n<=i+1
 k0:1<=k/\k<=i+1
 o:(out.length:Int)<=i+1
 e:(⟨n,k,out⟩:Al)=alA s r to T C i.toNat
theorem AlI.init {to:Int} {T C out:List Int} (h:out=if b8 s<to then [b8 s] else []):AlI s r to T C 1 1 out 0 :=
 ⟨Int.le_refl 0,by omega,by omega,by omega,by rw [h]; split <;> simp,by rw [h]; rfl⟩
theorem c09 {to:Int} {T C:List Int} {i:Int} (h:0<=i):alA s r to T C (i+1).toNat=stA s r to (alA s r to T C i.toNat) (ix T i) (ix C i):=by
 rw [show (i+1).toNat=i.toNat+1 by omega]
 show stA s r to _ (ix T (i.toNat:Int)) (ix C (i.toNat:Int))=_
 rw [show ((i.toNat:Nat):Int)=i by omega]
theorem AlI.off {to n k i:Int} {T C out:List Int} (h:AlI s r to T C n k out i) (hi:i<T.length) (ho:a5d s r n (ix T i)):AlI s r to T C n k out (i+1):=by
 have a:=h.i0
 have b:=h.n0
 have c:=h.k0
 have d:=h.o
 refine ⟨by omega,by omega,by omega,by omega,by omega,?_⟩
 rw [c09 a,<- h.e]
 unfold stA
 dsimp only
 rw [if_pos ho]
theorem AlI.on {to n k k2 i:Int} {T C out o2:List Int} (h:AlI s r to T C n k out i) (hi:i<T.length) (ho:¬ a5d s r n (ix T i)) (hk:k2=if ix C i<40000 then k+1 else k) (h2:o2=if ix T i<to then out++[ix T i] else out):AlI s r to T C (n+1) k2 o2 (i+1):=by
 have a:=h.i0
 have b:=h.n0
 have c:=h.k0
 have d:=h.o
 refine ⟨by omega,by omega,by omega,by rw [hk]; split <;> omega,?_,?_⟩
 . rw [h2]
   split
   . simp only [List.length_append,List.length_cons,List.length_nil]; omega
   . omega
 rw [c09 a,<- h.e]
 unfold stA
 dsimp only
 rw [if_neg ho,hk,h2]
end
end Go.Re
end
section
namespace Go.Re
open Go Go.Wk Go.Wl Go.Rx
def frA (s a:Tm):List Int->List Tm
 | []=>[]
 | t::l=>if b8 a<=t then atS t s::frA s a l else frA s a l
theorem a4l {s a:Tm}:∀ (l m:List Int),frA s a (l++m)=frA s a l++frA s a m
 | [],_=>rfl
 | t::l,m=>by
  show (if b8 a<=t then atS t s::frA s a (l++m) else frA s a (l++m))=(if b8 a<=t then atS t s::frA s a l else frA s a l)++_
  rw [a4l l m]
  split <;> rfl
structure ExI (s a:Tm) (l:List Int) (x:List Tm) (i:Int):Prop where
 i0:0<=i
 i1:i<=l.length
 lx:(x.length:Int)<=i
 e:x=frA s a (l.take i.toNat)
theorem ExI.init {s a:Tm} {l:List Int}:ExI s a l [] 0:=⟨Int.le_refl 0,by omega,Int.le_refl 0,rfl⟩
theorem ExI.tk {l:List Int} {i:Int} (h0:0<=i) (h1:i<l.length):l.take (i+1).toNat=l.take i.toNat++[ix l i]:=by
 have h:i.toNat<l.length:=by omega
 rw [show (i+1).toNat=i.toNat+1 by omega,List.take_succ_eq_append_getElem h,A8 h]
theorem ExI.yes {s a:Tm} {l:List Int} {x:List Tm} {i:Int} (h:ExI s a l x i) (hi:i<l.length) (hy:b8 a<=ix l i):ExI s a l (x++[atS (ix l i) s]) (i+1):=by
 have h0:=h.i0
 have h1:=h.lx
 refine ⟨by omega,by omega,by simp only [List.length_append,List.length_cons,List.length_nil]; omega,?_⟩
 rw [ExI.tk h0 hi,a4l,<- h.e]
 show _=_++(if b8 a<=ix l i then _ else _)
 rw [if_pos hy]; rfl
theorem ExI.no {s a:Tm} {l:List Int} {x:List Tm} {i:Int} (h:ExI s a l x i) (hi:i<l.length) (hy:¬ b8 a<=ix l i):ExI s a l x (i+1):=by
 have h0:=h.i0
 have h1:=h.lx
 refine ⟨by omega,by omega,by omega,?_⟩
 rw [ExI.tk h0 hi,a4l,<- h.e]
 show _=_++(if b8 a<=ix l i then _ else _)
 rw [if_neg hy]
 exact (List.append_nil _).symm
theorem ExI.fin {s a:Tm} {l:List Int} {x:List Tm} {i:Int} (h:ExI s a l x i) (hi:¬ i<l.length):x=frA s a l:=by
 rw [h.e,List.take_of_length_le (by omega)]
theorem c2v {s:Tm} {r:Rl} {to:Int} {T C:List Int}:∀ i,(alA s r to T C i).out.length<=i+1
 | 0=>by unfold alA; dsimp only; split <;> simp
 | i+1=>by
  have:=c2v (s:=s) (r:=r) (to:=to) (T:=T) (C:=C) i
  unfold alA stA
  split
  . omega
  . dsimp only
    split
    . rw [List.length_append]; simp only [List.length_cons,List.length_nil]; omega
    . omega
theorem c7l {s:Tm} {r:Rl} {to:Int}:S3 s r to<=3652060:=by
 have a:=G3 s.Day
 have b:=G3 ⟨s.Day.Year,1,1⟩
 have:0<=G9 s r:=by
  unfold G9
  dsimp only
  (repeat' split) <;> omega
 unfold S3
 omega
theorem c22 {s:Tm} {r:Rl} {to:Int}:(L0 s r to).1.length<=315537984000:=by
 have a:=c5g (s:=s) (r:=r) (spW s r (G9 s r) (S3 s r to))
 have b:=b0x (s:=s) (r:=r) (a:=G9 s r) (S3 s r to)
 have c:=c7l (s:=s) (r:=r) (to:=to)
 have d:=a1z (r:=r) (l:=(wsW s r (spW s r (G9 s r) (S3 s r to))).run)
 show ((wsW s r (spW s r (G9 s r) (S3 s r to))).T++s7 r (wsW s r (spW s r (G9 s r) (S3 s r to))).run).length<=_
 rw [List.length_append]
 omega
theorem b99 {s:Tm} {r:Rl} {to:Int}:(allS s r to).1.length<=315537984001:=by
 have a:=c22 (s:=s) (r:=r) (to:=to)
 have b:=c2v (s:=s) (r:=r) (to:=to) (T:=(L0 s r to).1) (C:=(L0 s r to).2) (L0 s r to).1.length
 exact Nat.le_trans b (by omega)
def b6w (s:Tm) (r:Rl) (a b:Tm):Prop:=(¬ A0 s r=true ∨ ¬ n7 a=true) ∨ ¬ n7 b=true
open Classical in
noncomputable def b7e (s:Tm) (r:Rl) (a b:Tm):List Tm×Int :=
 if b6w s r a b then ([],2) else if (allS s r (b8 b)).2=true then ([],5)
 else if 1000<((frA s a (allS s r (b8 b)).1).length:Int) then ([],16) else (frA s a (allS s r (b8 b)).1,0)
def a30:Tm:=⟨⟨0,0,0⟩,0,0,0,false,false⟩
open Classical in
noncomputable def C9 (s:Tm) (r:Rl) (a:Tm):Tm×Bool×Int :=
 if ¬ A0 s r=true ∨ ¬ n7 a=true then (a30,false,2) else if (allS s r (b8 a+1)).2=true then (a30,false,5)
 else if ((allS s r (b8 a+1)).1.length:Int)=0 then (a30,false,0)
 else (atS (ix (allS s r (b8 a+1)).1 (((allS s r (b8 a+1)).1.length:Int)-1)) s,true,0)
open Classical in
noncomputable def isS (s:Tm) (r:Rl) (t:Tm):Bool×Int:=(decide ((C9 s r t).2.1=true/\(C9 s r t).1=t),(C9 s r t).2.2)
theorem c6v {a t:Tm}:((a.Day.Year=t.Day.Year/\a.Day.Month=t.Day.Month/\a.Day.Date=t.Day.Date/\True)/\a.Hour=t.Hour/\a.Min=t.Min/\a.Sec=t.Sec/\(a.Bare=true↔t.Bare=true)/\(a.UTC=true↔t.UTC=true)/\True)↔a=t:=by
 obtain ⟨⟨y,m,d⟩,h,i,s,b,u⟩:=a
 obtain ⟨⟨y',m',d'⟩,h',i',s',b',u'⟩:=t
 constructor
 . rintro ⟨⟨h1,h2,h3,_⟩,h4,h5,h6,h7,h8,_⟩
   dsimp only at h1 h2 h3 h4 h5 h6 h7 h8
   rw [h1,h2,h3,h4,h5,h6,Bool.eq_iff_iff.2 h7,Bool.eq_iff_iff.2 h8]
 . intro h
   rw [h]
   exact ⟨⟨rfl,rfl,rfl,trivial⟩,rfl,rfl,rfl,Iff.rfl,Iff.rfl,trivial⟩
end Go.Re
end
section
namespace Go.Re
open Go Go.Wk Go.Wl Go.Rx
def goY (res:List Int->Int->Bool):List Int->List Int->List Int
 | y,[]=>y
 | y,t::r=>bif res y t then goY res (y++[t]) r else y++[t]
def okY (pre:List Int->Int->Prop) (res:List Int->Int->Bool):List Int->List Int->Prop
 | _,[]=>True
 | y,t::r=>pre y t/\(res y t=true->okY pre res (y++[t]) r)
structure GoI (pre:List Int->Int->Prop) (res:List Int->Int->Bool) (g y T:List Int):Prop where
 a:goY res y T=g
 b:okY pre res y T
section
variable {pre:List Int->Int->Prop} {res:List Int->Int->Bool} {g y T:List Int} {t:Int}
theorem GoI.fin (h:GoI pre res g y []):y=g:=h.a
theorem GoI.may (h:GoI pre res g y (t::T)):pre y t:=h.b.1
theorem GoI.stop (h:GoI pre res g y (t::T)) (hr:¬ res y t=true):y++[t]=g:=by
 have a:=h.a
 unfold goY at a
 rw [Bool.not_eq_true] at hr
 rw [hr] at a; exact a
theorem GoI.go (h:GoI pre res g y (t::T)) (hr:res y t=true):GoI pre res g (y++[t]) T:=by
 have a:=h.a
 unfold goY at a
 rw [hr] at a; exact ⟨a,h.b.2 hr⟩
end
def a0w (fr to b:Int):List Int->List Int
 | []=>[]
 | s::r=>if fr<=b+s/\b+s<to then (b+s)::a0w fr to b r else a0w fr to b r
def V7 (fr to b:Int) (ss:List Int):List Int->List Int
 | []=>[]
 | m::r=>if b+m * 60+59<fr ∨ to<=b+m * 60 then V7 fr to b ss r else a0w fr to (b+m * 60) ss++V7 fr to b ss r
def Y3 (fr to:Int) (ms ss:List Int):List Int->List Int
 | []=>[]
 | h::r=>if h * 3600+3599<fr ∨ to<=h * 3600 then Y3 fr to ms ss r else V7 fr to (h * 3600) ss ms++Y3 fr to ms ss r
def hoL (s:Tm) (r:Rl):List Int:=l7 r.Hour (decide (3<r.Freq)) s.Hour 24
def miL (s:Tm) (r:Rl):List Int:=l7 r.Minute (decide (4<r.Freq)) s.Min 60
def seL (s:Tm) (r:Rl):List Int:=l7 r.Second (decide (5<r.Freq)) s.Sec 60
def Y4 (s:Tm) (r:Rl) (fr to:Int):List Int:=Y3 fr to (miL s r) (seL s r) (hoL s r)
section
variable {fr to b s m h:Int} {r ms ss:List Int}
theorem c6z:a0w fr to b []=[]:=rfl
theorem b1y (hc:fr<=b+s/\b+s<to):a0w fr to b (s::r)=(b+s)::a0w fr to b r:=if_pos hc
theorem b95 (hc:¬ (fr<=b+s/\b+s<to)):a0w fr to b (s::r)=a0w fr to b r:=if_neg hc
theorem b3s:V7 fr to b ss []=[]:=rfl
theorem b3h (hc:b+m * 60+59<fr ∨ to<=b+m * 60):V7 fr to b ss (m::r)=V7 fr to b ss r:=if_pos hc
theorem c0l (hc:¬ (b+m * 60+59<fr ∨ to<=b+m * 60)):V7 fr to b ss (m::r)=a0w fr to (b+m * 60) ss++V7 fr to b ss r:=if_neg hc
theorem b2p:Y3 fr to ms ss []=[]:=rfl
theorem a6k (hc:h * 3600+3599<fr ∨ to<=h * 3600):Y3 fr to ms ss (h::r)=Y3 fr to ms ss r:=if_pos hc
theorem b02 (hc:¬ (h * 3600+3599<fr ∨ to<=h * 3600)):Y3 fr to ms ss (h::r)=V7 fr to (h * 3600) ss ms++Y3 fr to ms ss r:=if_neg hc
end
def inB (n:Int) (l:List Int):Prop:=∀ i:Int,0<=i->i<l.length->0<=ix l i/\ix l i<=n
theorem a36 {l:List Int} {f:Bool} {own all n:Int} (hl:∀ i:Int,0<=i->i<l.length->OkN 0 n false (ix l i)) (h0:0<=own) (h1:own<=n) (ha:0<=all) (hn:all<=n+1):inB n (l7 l f own all):=by
 intro i i0 i1
 unfold l7 at i1 ⊢
 by_cases hc:0<(l.length:Int)
 . rw [if_pos hc] at i1 ⊢
   have:=hl i i0 i1
   unfold OkN at this
   simp only [Bool.false_eq_true,false_and,if_false] at this
   exact this
 . rw [if_neg hc] at i1 ⊢
   cases f with
   | true =>
    rw [if_pos rfl] at i1 ⊢
    rw [a4u] at i1
    rw [A8 (by rw [a4u]; omega)]
    unfold a7v
    simp only [List.getElem_map,List.getElem_range]
    show 0<=((i.toNat:Nat):Int)/\((i.toNat:Nat):Int)<=n
    omega
   | false =>
    rw [if_neg (by decide)] at i1 ⊢
    have:i=0:=by simp at i1; omega
    subst this
    exact ⟨h0,h1⟩
theorem d2z {s:Tm} {r:Rl} (h:p9 s r):inB 23 (hoL s r):=by
 obtain ⟨_,⟨a,b⟩,_⟩:=u7.1 h.rt
 exact a36 (m8.1 h.rr).lists.ho.ok a b (by decide) (by decide)
theorem b55 {s:Tm} {r:Rl} (h:p9 s r):inB 59 (miL s r):=by
 obtain ⟨_,_,⟨a,b⟩,_⟩:=u7.1 h.rt
 exact a36 (m8.1 h.rr).lists.mi.ok a b (by decide) (by decide)
theorem b5a {s:Tm} {r:Rl} (h:p9 s r):inB 59 (seL s r):=by
 obtain ⟨_,_,_,⟨a,b⟩,_⟩:=u7.1 h.rt
 exact a36 (m8.1 h.rr).lists.se.ok a b (by decide) (by decide)
theorem L9 {l:List Int} {f:Bool} {own all:Int} (hl:(l.length:Int)<=24) (ha:all<=60):((l7 l f own all).length:Int)<=60:=by
 unfold l7
 split
 . omega
 . split
   . rw [a4u]; omega
   . simp
end Go.Re
end
section
namespace Go.Proofs.YtdjfeninmbpflaaGreat
open Go Go.Wk Go.Wl Go.Rx Go.Re Go.Re
attribute [local irreducible] m7
def c39:Nat->Ann:=fun | 86=>⟨128,fun | 1=>some ⟨[0,1,2,3,29,30],[.slot 31 (.int .i64),.ob 0 0]⟩ | 5=>some ⟨[0,1,2,3,6,29,30,31,62,63],[.slot 64 (.int .i64),.ob 0 0]⟩ | 10=>some ⟨[0,1,2,3,6,8,29,30,31,62,63,64,98,99],[.slot 100 (.int .i64),.ob 0 0]⟩ | _=>none,nn⟩ | _=>⟨0,nn,nn⟩
def Vck (x:ClX Tryz.prog) (l:Lk) (fr to:Int) (Q:ClX Tryz.prog->Prop):Prop :=
((0:Int)<=24/\(24:Int)<=100)/\∃ (I:Int->Cl Proofs.Tryz.prog×List Int->Prop),∃ (m:Int->Cl Proofs.Tryz.prog×List Int->Nat),I (0:Int) x/\∀ (x:Int) (x_1:Cl Proofs.Tryz.prog×List Int),I x x_1->(x<(↑(l7 (ix [l] (0:Int)).Rule.Hour (decide ((3:Int)<(ix [l] (0:Int)).Rule.Freq)) (ix [l] (0:Int)).start.Hour (24:Int)).length:Int)->(0:Int)<=x/\x<(↑(l7 (ix [l] (0:Int)).Rule.Hour (decide ((3:Int)<(ix [l] (0:Int)).Rule.Freq)) (ix [l] (0:Int)).start.Hour (24:Int)).length:Int)/\(b9 (ix (l7 (ix [l] (0:Int)).Rule.Hour (decide ((3:Int)<(ix [l] (0:Int)).Rule.Freq)) (ix [l] (0:Int)).start.Hour (24:Int)) x)->b9 (ix (l7 (ix [l] (0:Int)).Rule.Hour (decide ((3:Int)<(ix [l] (0:Int)).Rule.Freq)) (ix [l] (0:Int)).start.Hour (24:Int)) x * 3600)/\b9 (ix (l7 (ix [l] (0:Int)).Rule.Hour (decide ((3:Int)<(ix [l] (0:Int)).Rule.Freq)) (ix [l] (0:Int)).start.Hour (24:Int)) x * 3600+3599)/\(¬ix (l7 (ix [l] (0:Int)).Rule.Hour (decide ((3:Int)<(ix [l] (0:Int)).Rule.Freq)) (ix [l] (0:Int)).start.Hour (24:Int)) x * 3600+3599<fr->b9 (ix (l7 (ix [l] (0:Int)).Rule.Hour (decide ((3:Int)<(ix [l] (0:Int)).Rule.Freq)) (ix [l] (0:Int)).start.Hour (24:Int)) x * 3600))/\(ix (l7 (ix [l] (0:Int)).Rule.Hour (decide ((3:Int)<(ix [l] (0:Int)).Rule.Freq)) (ix [l] (0:Int)).start.Hour (24:Int)) x * 3600+3599<fr ∨ to<=ix (l7 (ix [l] (0:Int)).Rule.Hour (decide ((3:Int)<(ix [l] (0:Int)).Rule.Freq)) (ix [l] (0:Int)).start.Hour (24:Int)) x * 3600->b9 (x+1)/\I (x+1) x_1/\m (x+1) x_1<m x x_1)/\(¬(ix (l7 (ix [l] (0:Int)).Rule.Hour (decide ((3:Int)<(ix [l] (0:Int)).Rule.Freq)) (ix [l] (0:Int)).start.Hour (24:Int)) x * 3600+3599<fr ∨ to<=ix (l7 (ix [l] (0:Int)).Rule.Hour (decide ((3:Int)<(ix [l] (0:Int)).Rule.Freq)) (ix [l] (0:Int)).start.Hour (24:Int)) x * 3600)->((0:Int)<=60/\(60:Int)<=100)/\∃ (I_1:Int->Cl Proofs.Tryz.prog×List Int->Prop),∃ (m_1:Int->Cl Proofs.Tryz.prog×List Int->Nat),I_1 (0:Int) x_1/\∀ (x_2:Int) (x_3:Cl Proofs.Tryz.prog×List Int),I_1 x_2 x_3->(x_2<(↑(l7 (ix [l] (0:Int)).Rule.Minute (decide ((4:Int)<(ix [l] (0:Int)).Rule.Freq)) (ix [l] (0:Int)).start.Min (60:Int)).length:Int)->(0:Int)<=x_2/\x_2<(↑(l7 (ix [l] (0:Int)).Rule.Minute (decide ((4:Int)<(ix [l] (0:Int)).Rule.Freq)) (ix [l] (0:Int)).start.Min (60:Int)).length:Int)/\(b9 (ix (l7 (ix [l] (0:Int)).Rule.Minute (decide ((4:Int)<(ix [l] (0:Int)).Rule.Freq)) (ix [l] (0:Int)).start.Min (60:Int)) x_2)->b9 (ix (l7 (ix [l] (0:Int)).Rule.Hour (decide ((3:Int)<(ix [l] (0:Int)).Rule.Freq)) (ix [l] (0:Int)).start.Hour (24:Int)) x * 3600)/\b9 (ix (l7 (ix [l] (0:Int)).Rule.Minute (decide ((4:Int)<(ix [l] (0:Int)).Rule.Freq)) (ix [l] (0:Int)).start.Min (60:Int)) x_2 * 60)/\b9 (ix (l7 (ix [l] (0:Int)).Rule.Hour (decide ((3:Int)<(ix [l] (0:Int)).Rule.Freq)) (ix [l] (0:Int)).start.Hour (24:Int)) x * 3600+ix (l7 (ix [l] (0:Int)).Rule.Minute (decide ((4:Int)<(ix [l] (0:Int)).Rule.Freq)) (ix [l] (0:Int)).start.Min (60:Int)) x_2 * 60)/\b9 (ix (l7 (ix [l] (0:Int)).Rule.Hour (decide ((3:Int)<(ix [l] (0:Int)).Rule.Freq)) (ix [l] (0:Int)).start.Hour (24:Int)) x * 3600+ix (l7 (ix [l] (0:Int)).Rule.Minute (decide ((4:Int)<(ix [l] (0:Int)).Rule.Freq)) (ix [l] (0:Int)).start.Min (60:Int)) x_2 * 60+59)/\(ix (l7 (ix [l] (0:Int)).Rule.Hour (decide ((3:Int)<(ix [l] (0:Int)).Rule.Freq)) (ix [l] (0:Int)).start.Hour (24:Int)) x * 3600+ix (l7 (ix [l] (0:Int)).Rule.Minute (decide ((4:Int)<(ix [l] (0:Int)).Rule.Freq)) (ix [l] (0:Int)).start.Min (60:Int)) x_2 * 60+59<fr ∨ to<=ix (l7 (ix [l] (0:Int)).Rule.Hour (decide ((3:Int)<(ix [l] (0:Int)).Rule.Freq)) (ix [l] (0:Int)).start.Hour (24:Int)) x * 3600+ix (l7 (ix [l] (0:Int)).Rule.Minute (decide ((4:Int)<(ix [l] (0:Int)).Rule.Freq)) (ix [l] (0:Int)).start.Min (60:Int)) x_2 * 60->b9 (x_2+1)/\I_1 (x_2+1) x_3/\m_1 (x_2+1) x_3<m_1 x_2 x_3)/\(¬(ix (l7 (ix [l] (0:Int)).Rule.Hour (decide ((3:Int)<(ix [l] (0:Int)).Rule.Freq)) (ix [l] (0:Int)).start.Hour (24:Int)) x * 3600+ix (l7 (ix [l] (0:Int)).Rule.Minute (decide ((4:Int)<(ix [l] (0:Int)).Rule.Freq)) (ix [l] (0:Int)).start.Min (60:Int)) x_2 * 60+59<fr ∨ to<=ix (l7 (ix [l] (0:Int)).Rule.Hour (decide ((3:Int)<(ix [l] (0:Int)).Rule.Freq)) (ix [l] (0:Int)).start.Hour (24:Int)) x * 3600+ix (l7 (ix [l] (0:Int)).Rule.Minute (decide ((4:Int)<(ix [l] (0:Int)).Rule.Freq)) (ix [l] (0:Int)).start.Min (60:Int)) x_2 * 60)->((0:Int)<=60/\(60:Int)<=100)/\∃ (I:Int->Cl Proofs.Tryz.prog×List Int->Prop),∃ (m:Int->Cl Proofs.Tryz.prog×List Int->Nat),I (0:Int) x_3/\∀ (x_4:Int) (x_5:Cl Proofs.Tryz.prog×List Int),I x_4 x_5->(x_4<(↑(l7 (ix [l] (0:Int)).Rule.Second (decide ((5:Int)<(ix [l] (0:Int)).Rule.Freq)) (ix [l] (0:Int)).start.Sec (60:Int)).length:Int)->(0:Int)<=x_4/\x_4<(↑(l7 (ix [l] (0:Int)).Rule.Second (decide ((5:Int)<(ix [l] (0:Int)).Rule.Freq)) (ix [l] (0:Int)).start.Sec (60:Int)).length:Int)/\(b9 (ix (l7 (ix [l] (0:Int)).Rule.Second (decide ((5:Int)<(ix [l] (0:Int)).Rule.Freq)) (ix [l] (0:Int)).start.Sec (60:Int)) x_4)->b9 (ix (l7 (ix [l] (0:Int)).Rule.Hour (decide ((3:Int)<(ix [l] (0:Int)).Rule.Freq)) (ix [l] (0:Int)).start.Hour (24:Int)) x * 3600)/\b9 (ix (l7 (ix [l] (0:Int)).Rule.Minute (decide ((4:Int)<(ix [l] (0:Int)).Rule.Freq)) (ix [l] (0:Int)).start.Min (60:Int)) x_2 * 60)/\b9 (ix (l7 (ix [l] (0:Int)).Rule.Hour (decide ((3:Int)<(ix [l] (0:Int)).Rule.Freq)) (ix [l] (0:Int)).start.Hour (24:Int)) x * 3600+ix (l7 (ix [l] (0:Int)).Rule.Minute (decide ((4:Int)<(ix [l] (0:Int)).Rule.Freq)) (ix [l] (0:Int)).start.Min (60:Int)) x_2 * 60)/\b9 (ix (l7 (ix [l] (0:Int)).Rule.Hour (decide ((3:Int)<(ix [l] (0:Int)).Rule.Freq)) (ix [l] (0:Int)).start.Hour (24:Int)) x * 3600+ix (l7 (ix [l] (0:Int)).Rule.Minute (decide ((4:Int)<(ix [l] (0:Int)).Rule.Freq)) (ix [l] (0:Int)).start.Min (60:Int)) x_2 * 60+ix (l7 (ix [l] (0:Int)).Rule.Second (decide ((5:Int)<(ix [l] (0:Int)).Rule.Freq)) (ix [l] (0:Int)).start.Sec (60:Int)) x_4)/\(fr<=ix (l7 (ix [l] (0:Int)).Rule.Hour (decide ((3:Int)<(ix [l] (0:Int)).Rule.Freq)) (ix [l] (0:Int)).start.Hour (24:Int)) x * 3600+ix (l7 (ix [l] (0:Int)).Rule.Minute (decide ((4:Int)<(ix [l] (0:Int)).Rule.Freq)) (ix [l] (0:Int)).start.Min (60:Int)) x_2 * 60+ix (l7 (ix [l] (0:Int)).Rule.Second (decide ((5:Int)<(ix [l] (0:Int)).Rule.Freq)) (ix [l] (0:Int)).start.Sec (60:Int)) x_4/\ix (l7 (ix [l] (0:Int)).Rule.Hour (decide ((3:Int)<(ix [l] (0:Int)).Rule.Freq)) (ix [l] (0:Int)).start.Hour (24:Int)) x * 3600+ix (l7 (ix [l] (0:Int)).Rule.Minute (decide ((4:Int)<(ix [l] (0:Int)).Rule.Freq)) (ix [l] (0:Int)).start.Min (60:Int)) x_2 * 60+ix (l7 (ix [l] (0:Int)).Rule.Second (decide ((5:Int)<(ix [l] (0:Int)).Rule.Freq)) (ix [l] (0:Int)).start.Sec (60:Int)) x_4<to->ClX.pre x_5 (ix (l7 (ix [l] (0:Int)).Rule.Hour (decide ((3:Int)<(ix [l] (0:Int)).Rule.Freq)) (ix [l] (0:Int)).start.Hour (24:Int)) x * 3600+ix (l7 (ix [l] (0:Int)).Rule.Minute (decide ((4:Int)<(ix [l] (0:Int)).Rule.Freq)) (ix [l] (0:Int)).start.Min (60:Int)) x_2 * 60+ix (l7 (ix [l] (0:Int)).Rule.Second (decide ((5:Int)<(ix [l] (0:Int)).Rule.Freq)) (ix [l] (0:Int)).start.Sec (60:Int)) x_4)/\(¬ClX.res x_5 (ix (l7 (ix [l] (0:Int)).Rule.Hour (decide ((3:Int)<(ix [l] (0:Int)).Rule.Freq)) (ix [l] (0:Int)).start.Hour (24:Int)) x * 3600+ix (l7 (ix [l] (0:Int)).Rule.Minute (decide ((4:Int)<(ix [l] (0:Int)).Rule.Freq)) (ix [l] (0:Int)).start.Min (60:Int)) x_2 * 60+ix (l7 (ix [l] (0:Int)).Rule.Second (decide ((5:Int)<(ix [l] (0:Int)).Rule.Freq)) (ix [l] (0:Int)).start.Sec (60:Int)) x_4)=true->Q (ClX.put x_5 (ix (l7 (ix [l] (0:Int)).Rule.Hour (decide ((3:Int)<(ix [l] (0:Int)).Rule.Freq)) (ix [l] (0:Int)).start.Hour (24:Int)) x * 3600+ix (l7 (ix [l] (0:Int)).Rule.Minute (decide ((4:Int)<(ix [l] (0:Int)).Rule.Freq)) (ix [l] (0:Int)).start.Min (60:Int)) x_2 * 60+ix (l7 (ix [l] (0:Int)).Rule.Second (decide ((5:Int)<(ix [l] (0:Int)).Rule.Freq)) (ix [l] (0:Int)).start.Sec (60:Int)) x_4)))/\(¬¬ClX.res x_5 (ix (l7 (ix [l] (0:Int)).Rule.Hour (decide ((3:Int)<(ix [l] (0:Int)).Rule.Freq)) (ix [l] (0:Int)).start.Hour (24:Int)) x * 3600+ix (l7 (ix [l] (0:Int)).Rule.Minute (decide ((4:Int)<(ix [l] (0:Int)).Rule.Freq)) (ix [l] (0:Int)).start.Min (60:Int)) x_2 * 60+ix (l7 (ix [l] (0:Int)).Rule.Second (decide ((5:Int)<(ix [l] (0:Int)).Rule.Freq)) (ix [l] (0:Int)).start.Sec (60:Int)) x_4)=true->b9 (x_4+1)/\I (x_4+1) (ClX.put x_5 (ix (l7 (ix [l] (0:Int)).Rule.Hour (decide ((3:Int)<(ix [l] (0:Int)).Rule.Freq)) (ix [l] (0:Int)).start.Hour (24:Int)) x * 3600+ix (l7 (ix [l] (0:Int)).Rule.Minute (decide ((4:Int)<(ix [l] (0:Int)).Rule.Freq)) (ix [l] (0:Int)).start.Min (60:Int)) x_2 * 60+ix (l7 (ix [l] (0:Int)).Rule.Second (decide ((5:Int)<(ix [l] (0:Int)).Rule.Freq)) (ix [l] (0:Int)).start.Sec (60:Int)) x_4))/\m (x_4+1) (ClX.put x_5 (ix (l7 (ix [l] (0:Int)).Rule.Hour (decide ((3:Int)<(ix [l] (0:Int)).Rule.Freq)) (ix [l] (0:Int)).start.Hour (24:Int)) x * 3600+ix (l7 (ix [l] (0:Int)).Rule.Minute (decide ((4:Int)<(ix [l] (0:Int)).Rule.Freq)) (ix [l] (0:Int)).start.Min (60:Int)) x_2 * 60+ix (l7 (ix [l] (0:Int)).Rule.Second (decide ((5:Int)<(ix [l] (0:Int)).Rule.Freq)) (ix [l] (0:Int)).start.Sec (60:Int)) x_4))<m x_4 x_5))/\(¬(fr<=ix (l7 (ix [l] (0:Int)).Rule.Hour (decide ((3:Int)<(ix [l] (0:Int)).Rule.Freq)) (ix [l] (0:Int)).start.Hour (24:Int)) x * 3600+ix (l7 (ix [l] (0:Int)).Rule.Minute (decide ((4:Int)<(ix [l] (0:Int)).Rule.Freq)) (ix [l] (0:Int)).start.Min (60:Int)) x_2 * 60+ix (l7 (ix [l] (0:Int)).Rule.Second (decide ((5:Int)<(ix [l] (0:Int)).Rule.Freq)) (ix [l] (0:Int)).start.Sec (60:Int)) x_4/\ix (l7 (ix [l] (0:Int)).Rule.Hour (decide ((3:Int)<(ix [l] (0:Int)).Rule.Freq)) (ix [l] (0:Int)).start.Hour (24:Int)) x * 3600+ix (l7 (ix [l] (0:Int)).Rule.Minute (decide ((4:Int)<(ix [l] (0:Int)).Rule.Freq)) (ix [l] (0:Int)).start.Min (60:Int)) x_2 * 60+ix (l7 (ix [l] (0:Int)).Rule.Second (decide ((5:Int)<(ix [l] (0:Int)).Rule.Freq)) (ix [l] (0:Int)).start.Sec (60:Int)) x_4<to)->b9 (x_4+1)/\I (x_4+1) x_5/\m (x_4+1) x_5<m x_4 x_5)))/\(¬x_4<(↑(l7 (ix [l] (0:Int)).Rule.Second (decide ((5:Int)<(ix [l] (0:Int)).Rule.Freq)) (ix [l] (0:Int)).start.Sec (60:Int)).length:Int)->b9 (x_2+1)/\I_1 (x_2+1) x_5/\m_1 (x_2+1) x_5<m_1 x_2 x_3))))/\(¬x_2<(↑(l7 (ix [l] (0:Int)).Rule.Minute (decide ((4:Int)<(ix [l] (0:Int)).Rule.Freq)) (ix [l] (0:Int)).start.Min (60:Int)).length:Int)->b9 (x+1)/\I (x+1) x_3/\m (x+1) x_3<m x x_1))))/\(¬x<(↑(l7 (ix [l] (0:Int)).Rule.Hour (decide ((3:Int)<(ix [l] (0:Int)).Rule.Freq)) (ix [l] (0:Int)).start.Hour (24:Int)).length:Int)->Q x_1)
theorem d4a {x:ClX Tryz.prog} {l:Lk} {fr to:Int} {Q:ClX Tryz.prog->Prop}:@Eq Prop (Vck x l fr to Q) (m7 (E:=Q3) (P7 Q3 H0 c39 3) (c39 86) Tryz.f86 [.yld 0,.ref 1 0,.ref 2 0,.ref 3 0] [(0,.ob 0 4 x)] [(1,.own 62 [.fel (N:=U) 85 [l] 0 0]),(2,.own 3 [.int .i64 fr]),(3,.own 3 [.int .i64 to])] 8 (fun _ its _=>obQ Q3 Q its)):=by kernel_rfl
theorem d3r {x:ClX Tryz.prog} {l:Lk} {fr to:Int} {Q:ClX Tryz.prog->Prop} (h:Vck x l fr to Q):m7 (E:=Q3) (P7 Q3 H0 c39 3) (c39 86) Tryz.f86 [.yld 0,.ref 1 0,.ref 2 0,.ref 3 0] [(0,.ob 0 4 x)] [(1,.own 62 [.fel (N:=U) 85 [l] 0 0]),(2,.own 3 [.int .i64 fr]),(3,.own 3 [.int .i64 to])] 8 (fun _ its _=>obQ Q3 Q its):=by rw [<- d4a]; exact h
set_option maxHeartbeats 2000000 in
theorem pck (x:ClX Tryz.prog) (l:Lk) (fr to:Int) (hf:A0 l.start l.Rule=true) (ho:okY x.1.pre x.1.res x.2 (Y4 l.start l.Rule fr to)):Vck x l fr to (fun z=>z=(x.1,goY x.1.res x.2 (Y4 l.start l.Rule fr to))):=by
 unfold Vck
 have el:ix [l] 0=l:=rfl
 rw [el]
 have hF:=G7.1 hf
 have bh:=d2z hF
 have bm:=b55 hF
 have bs:=b5a hF
 have lh:((hoL l.start l.Rule).length:Int)<=60:=L9 (m8.1 hF.rr).lists.ho.few (by decide)
 have lm:((miL l.start l.Rule).length:Int)<=60:=L9 (m8.1 hF.rr).lists.mi.few (by decide)
 have ls:((seL l.start l.Rule).length:Int)<=60:=L9 (m8.1 hF.rr).lists.se.few (by decide)
 have e1:l7 l.Rule.Hour (decide (3<l.Rule.Freq)) l.start.Hour 24=hoL l.start l.Rule:=rfl
 have e2:l7 l.Rule.Minute (decide (4<l.Rule.Freq)) l.start.Min 60=miL l.start l.Rule:=rfl
 have e3:l7 l.Rule.Second (decide (5<l.Rule.Freq)) l.start.Sec 60=seL l.start l.Rule:=rfl
 rw [e1,e2,e3]
 generalize hg:goY x.1.res x.2 (Y4 l.start l.Rule fr to)=g at *
 have h0:GoI x.1.pre x.1.res g x.2 (Y4 l.start l.Rule fr to):=⟨hg,ho⟩
 unfold Y4 at h0
 generalize hoL l.start l.Rule=hs at *
 generalize miL l.start l.Rule=ms at *
 generalize seL l.start l.Rule=ss at *
 have lt:∀ n i:Int,i<n->(n-(i+1)).toNat<(n-i).toNat:=fun n i h=>by omega
 refine ⟨⟨by decide,by decide⟩,fun i y=>0<=i/\i<=hs.length/\y.1=x.1/\GoI x.1.pre x.1.res g y.2 (Y3 fr to ms ss (hs.drop i.toNat)),fun i _=>((hs.length:Int)-i).toNat,⟨Int.le_refl 0,by omega,rfl,by simpa using h0⟩,?_⟩
 rintro i y ⟨i0,i1,ey,hy⟩
 refine ⟨fun hi=>⟨i0,hi,fun hh=>?_⟩,fun hi=>?_⟩
 . obtain ⟨h1,h2⟩:=bh i i0 hi
   rw [I9 i0 hi] at hy
   generalize ix hs i=h at *
   refine ⟨⟨by omega,by omega⟩,⟨by omega,by omega⟩,fun _=>⟨by omega,by omega⟩,fun hc=>⟨⟨by omega,by omega⟩,⟨by omega,by omega,ey,?_⟩,lt _ _ hi⟩,fun hc=>⟨⟨by decide,by decide⟩,?_⟩⟩
   . rwa [a6k hc] at hy
   . rw [b02 hc] at hy
     refine ⟨fun j z=>0<=j/\j<=ms.length/\z.1=x.1/\GoI x.1.pre x.1.res g z.2 (V7 fr to (h * 3600) ss (ms.drop j.toNat)++Y3 fr to ms ss (hs.drop (i+1).toNat)),fun j _=>((ms.length:Int)-j).toNat,⟨Int.le_refl 0,by omega,ey,by simpa using hy⟩,?_⟩
     rintro j z ⟨j0,j1,ez,hz⟩
     refine ⟨fun hj=>⟨j0,hj,fun hm=>?_⟩,fun hj=>⟨⟨by omega,by omega⟩,⟨by omega,by omega,ez,?_⟩,lt _ _ hi⟩⟩
     . obtain ⟨m1,m2⟩:=bm j j0 hj
       rw [I9 j0 hj] at hz
       generalize ix ms j=m at *
       refine ⟨⟨by omega,by omega⟩,⟨by omega,by omega⟩,⟨by omega,by omega⟩,⟨by omega,by omega⟩,fun hc=>⟨⟨by omega,by omega⟩,⟨by omega,by omega,ez,?_⟩,lt _ _ hj⟩,fun hc=>⟨⟨by decide,by decide⟩,?_⟩⟩
       . rwa [b3h hc] at hz
       . rw [c0l hc] at hz
         refine ⟨fun k u=>0<=k/\k<=ss.length/\u.1=x.1/\GoI x.1.pre x.1.res g u.2 (a0w fr to (h * 3600+m * 60) (ss.drop k.toNat)++(V7 fr to (h * 3600) ss (ms.drop (j+1).toNat)++Y3 fr to ms ss (hs.drop (i+1).toNat))),fun k _=>((ss.length:Int)-k).toNat,⟨Int.le_refl 0,by omega,ez,by simpa using hz⟩,?_⟩
         rintro k u ⟨k0,k1,eu,hu⟩
         obtain ⟨uc,ul⟩:=u
         have eu:uc=x.1:=eu
         subst eu
         refine ⟨fun hk=>⟨k0,hk,fun hm=>?_⟩,fun hk=>⟨⟨by omega,by omega⟩,⟨by omega,by omega,rfl,?_⟩,lt _ _ hj⟩⟩
         . obtain ⟨s1,s2⟩:=bs k k0 hk
           rw [I9 k0 hk] at hu
           generalize ix ss k=s at *
           refine ⟨⟨by omega,by omega⟩,⟨by omega,by omega⟩,⟨by omega,by omega⟩,⟨by omega,by omega⟩,fun hc=>?_,fun hc=>⟨⟨by omega,by omega⟩,⟨by omega,by omega,rfl,?_⟩,lt _ _ hk⟩⟩
           . rw [b1y hc,List.cons_append] at hu
             refine ⟨hu.may,fun hr=>?_,fun hr=>⟨⟨by omega,by omega⟩,⟨by omega,by omega,rfl,hu.go (Classical.not_not.1 hr)⟩,lt _ _ hk⟩⟩
             exact Prod.ext rfl (hu.stop hr)
           . rwa [b95 hc] at hu
         . rw [List.drop_eq_nil_of_le (by omega),c6z,List.nil_append] at hu
           exact hu
     . rw [List.drop_eq_nil_of_le (by omega),b3s,List.nil_append] at hz
       exact hz
 . rw [List.drop_eq_nil_of_le (by omega),b2p] at hy
   exact Prod.ext ey hy.fin
def yeR:YE Q3:=⟨fun x=>x,fun _ _ _ _ _=>Iff.rfl⟩
def c4m (K:Nat) (cs:List (SV U)) (its:i6 U) (pre:List Int->Int->Prop) (res:List Int->Int->Bool):Option (Prop×List Int):=bif Nat.beq K 86 then (match cs,its with
 | [.ref 1 0,.ref 2 0,.ref 3 0],[(1,.own 62 [.fel 85 [l] 0 0]),(2,.own 3 [.int .i64 fr]),(3,.own 3 [.int .i64 to])]=>some (A0 l.start l.Rule=true/\okY pre res [] (Y4 l.start l.Rule fr to),goY res [] (Y4 l.start l.Rule fr to))
 | _,_=>none) else none
theorem c5q (K:Nat) (cs:List (SV U)) (its:i6 U) (pre:List Int->Int->Prop) (res:List Int->Int->Bool) (ob:Prop) (xs:List Int) (h:c4m K cs its pre res=some (ob,xs)) (ho:ob):(∀ args w,(callFunc K args).run Q3.P w=.ok (.enter K args) w)/\∀ c:Cl Q3.P,c.pre=pre->c.res=res ->
  R9 Q3.P Q3.N Q3.T Q3.G K (.yld 0::cs) ((0,.ob 0 (its.length+1) (yeR.yo (c,[])))::its) (2 * (its.length+1)) (fun k=>∀ fid n v,k v ((0,.ob 0 fid (yeR.yo (c,xs)))::its) n):=by
 unfold c4m at h
 have ⟨hK,h⟩:=j3 h
 have hK:=Nat.eq_of_beq_eq_true hK
 subst hK
 split at h
 . rename_i l fr to _
   cases h
   refine ⟨Tryz.call86,?_⟩
   rintro c rfl rfl
   exact d6r a2d ((j6 a2d o9 c39 3)) Tryz.func86 (d3r (pck (c,[]) l fr to ho.1 ho.2))
 . cases h
def c6p:b6m Q3 yeR:=⟨c4m,c5q⟩
end Go.Proofs.YtdjfeninmbpflaaGreat
end
section
namespace Go.Re
open Go Go.Wk Go.Wl Go.Rx
theorem b3k:∀ (T y:List Int),goY (fun _ _=>true) y T=y++T
 | [],y=>by simp [goY]
 | t::r,y=>by unfold goY; rw [cond_true,b3k r]; simp
theorem a5m {xs:List Int}:E9 (fun _ _=>true) xs=false:=by
 unfold E9
 cases xs.getLast? <;> rfl
theorem b9q {p:Int->Prop} {n:Nat} {res:List Int->Int->Bool}:∀ (T y:List Int),y.length+T.length<=n->(∀ t∈T,p t)->okY (fun y t=>p t/\y.length<=n) res y T
 | [],_,_,_=>trivial
 | t::r,y,hn,h=>⟨⟨h t (List.mem_cons_self ..),by rw [List.length_cons] at hn; omega⟩,fun _=>b9q r _ (by rw [List.length_append,List.length_singleton]; rw [List.length_cons] at hn; omega) fun u hu=>h u (List.mem_cons_of_mem _ hu)⟩
theorem Y9 {fr to b t:Int}:∀ {l:List Int},t∈a0w fr to b l↔∃ s∈l,t=b+s/\fr<=t/\t<to
 | []=>by simp [a0w]
 | s::r=>by
  by_cases hc:fr<=b+s/\b+s<to
  . rw [b1y hc,List.mem_cons,Y9]
    constructor
    . rintro (rfl | ⟨u,hu,h⟩)
      . exact ⟨s,List.mem_cons_self .., rfl,hc⟩
      . exact ⟨u,List.mem_cons_of_mem _ hu,h⟩
    . rintro ⟨u,hu,h⟩
      rcases List.mem_cons.1 hu with rfl | hu
      . exact .inl h.1
      . exact .inr ⟨u,hu,h⟩
  . rw [b95 hc,Y9]
    constructor
    . rintro ⟨u,hu,h⟩; exact ⟨u,List.mem_cons_of_mem _ hu,h⟩
    . rintro ⟨u,hu,h⟩
      rcases List.mem_cons.1 hu with rfl | hu
      . exact absurd (h.1 ▸ h.2) hc
      . exact ⟨u,hu,h⟩
theorem a2e {fr to b t:Int} {ss:List Int} (hs:inB 59 ss):∀ {l:List Int},t∈V7 fr to b ss l↔∃ m∈l,∃ s∈ss,t=b+m * 60+s/\fr<=t/\t<to
 | []=>by simp [V7]
 | m::r=>by
  have bd:∀ s∈ss,0<=s/\s<=59:=fun s h=>by
   obtain ⟨i,i0,i1,rfl⟩:=F6 h
   exact hs i i0 i1
  have key:t∈V7 fr to b ss (m::r)↔(∃ s∈ss,t=b+m * 60+s/\fr<=t/\t<to) ∨ t∈V7 fr to b ss r:=by
   by_cases hc:b+m * 60+59<fr ∨ to<=b+m * 60
   . rw [b3h hc]
     refine ⟨.inr,fun h=>h.resolve_left ?_⟩
     rintro ⟨s,hs,h1,h2,h3⟩
     have:=bd s hs
     omega
   . rw [c0l hc,List.mem_append,Y9]
  rw [key,a2e hs]
  constructor
  . rintro (h | ⟨u,hu,h⟩)
    . exact ⟨m,List.mem_cons_self .., h⟩
    . exact ⟨u,List.mem_cons_of_mem _ hu,h⟩
  . rintro ⟨u,hu,h⟩
    rcases List.mem_cons.1 hu with rfl | hu
    . exact .inl h
    . exact .inr ⟨u,hu,h⟩
theorem a6h {fr to t:Int} {ms ss:List Int} (hm:inB 59 ms) (hs:inB 59 ss):∀ {l:List Int},t∈Y3 fr to ms ss l↔∃ h∈l,∃ m∈ms,∃ s∈ss,t=h * 3600+m * 60+s/\fr<=t/\t<to
 | []=>by simp [Y3]
 | h::r=>by
  have bd:∀ s∈ss,0<=s/\s<=59:=fun s h=>by
   obtain ⟨i,i0,i1,rfl⟩:=F6 h
   exact hs i i0 i1
  have bm:∀ s∈ms,0<=s/\s<=59:=fun s h=>by
   obtain ⟨i,i0,i1,rfl⟩:=F6 h
   exact hm i i0 i1
  have key:t∈Y3 fr to ms ss (h::r)↔(∃ m∈ms,∃ s∈ss,t=h * 3600+m * 60+s/\fr<=t/\t<to) ∨ t∈Y3 fr to ms ss r:=by
   by_cases hc:h * 3600+3599<fr ∨ to<=h * 3600
   . rw [a6k hc]
     refine ⟨.inr,fun h=>h.resolve_left ?_⟩
     rintro ⟨m,hm,s,hs,h1,h2,h3⟩
     have:=bd s hs
     have:=bm m hm
     omega
   . rw [b02 hc,List.mem_append,a2e hs]
  rw [key,a6h hm hs]
  constructor
  . rintro (hh | ⟨u,hu,hh⟩)
    . exact ⟨h,List.mem_cons_self .., hh⟩
    . exact ⟨u,List.mem_cons_of_mem _ hu,hh⟩
  . rintro ⟨u,hu,hh⟩
    rcases List.mem_cons.1 hu with rfl | hu
    . exact .inl hh
    . exact .inr ⟨u,hu,hh⟩
theorem b38 {s:Tm} {r:Rl} {fr to t:Int} (hF:p9 s r):t∈Y4 s r fr to↔(∃ h∈hoL s r,∃ m∈miL s r,∃ x∈seL s r,t=h * 3600+m * 60+x)/\fr<=t/\t<to:=by
 unfold Y4
 rw [a6h (b55 hF) (b5a hF)]
 constructor
 . rintro ⟨h,hh,m,hm,x,hx,e,b⟩; exact ⟨⟨h,hh,m,hm,x,hx,e⟩,b⟩
 . rintro ⟨⟨h,hh,m,hm,x,hx,e⟩,b⟩; exact ⟨h,hh,m,hm,x,hx,e,b⟩
theorem b1n {fr to b:Int}:∀ l:List Int,(a0w fr to b l).length<=l.length
 | []=>Nat.le_refl 0
 | s::r=>by
  have:=b1n (fr:=fr) (to:=to) (b:=b) r
  unfold a0w
  split <;> simp only [List.length_cons] <;> omega
theorem b4a {fr to b:Int} {ss:List Int} (h:ss.length<=60):∀ l:List Int,(V7 fr to b ss l).length<=l.length * 60
 | []=>by rw [b3s]; exact Nat.zero_le _
 | m::r=>by
  have:=b4a (fr:=fr) (to:=to) (b:=b) h r
  have:=b1n (fr:=fr) (to:=to) (b:=b+m * 60) ss
  unfold V7
  split <;> simp only [List.length_cons,List.length_append] <;> omega
theorem b2a {fr to:Int} {ms ss:List Int} (h:ss.length<=60) (hm:ms.length<=60):∀ l:List Int,(Y3 fr to ms ss l).length<=l.length * 3600
 | []=>by rw [b2p]; exact Nat.zero_le _
 | x::r=>by
  have:=b2a (fr:=fr) (to:=to) h hm r
  have h2:=b4a (fr:=fr) (to:=to) (b:=x * 3600) h ms
  have e:(x::r).length * 3600=r.length * 3600+3600:=by rw [List.length_cons,Nat.add_mul,Nat.one_mul]
  rw [e]
  by_cases hc:x * 3600+3599<fr ∨ to<=x * 3600
  . rw [a6k hc]; exact Nat.le_trans this (Nat.le_add_right _ _)
  . rw [b02 hc,List.length_append]
    have key:∀ A B M X:Nat,A<=X->B<=M * 60->M<=60->B+A<=X+3600:=fun A B M X h1 h2 h3=>by omega
    exact key _ _ _ _ this h2 hm
theorem b41 {s:Tm} {r:Rl} {fr to:Int} (hF:p9 s r):(Y4 s r fr to).length<=216000:=by
 have a:((hoL s r).length:Int)<=60:=L9 (m8.1 hF.rr).lists.ho.few (by decide)
 have b:((miL s r).length:Int)<=60:=L9 (m8.1 hF.rr).lists.mi.few (by decide)
 have c:((seL s r).length:Int)<=60:=L9 (m8.1 hF.rr).lists.se.few (by decide)
 have:=b2a (fr:=fr) (to:=to) (ms:=miL s r) (ss:=seL s r) (by omega) (by omega) (hoL s r)
 unfold Y4
 omega
def a7u (s:Tm) (r:Rl) (day fr to n:Int):List Int:=if N7 s r day n=true then (Y4 s r (fr-(n-1) * 86400) (to-(n-1) * 86400)).map (fun t=>(n-1) * 86400+t) else []
def a4a (s:Tm) (r:Rl) (day fr to:Int):Nat->Int->List Int
 | 0,_=>[]
 | k+1,n=>a7u s r day fr to n++a4a s r day fr to k (n+1)
theorem b45 {s:Tm} {r:Rl} {day fr to n:Int} (hF:p9 s r):(a7u s r day fr to n).length<=216000:=by
 unfold a7u
 split
 . rw [List.length_map]; exact b41 hF
 . exact Nat.zero_le _
def a7r (s:Tm) (r:Rl) (day fr to:Int):List Int:=a4a s r day fr to ((to+86399) / 86400-fr / 86400).toNat (fr / 86400+1)
def u4 (s:Tm) (r:Rl) (day i:Int):List Int:=s7 r (a7r s r day (p4 r i) (p4 r (i+1)))
theorem a9k {n:Int} (h:0<=n):0<=nbP n/\nbP n<=315537897600:=by
 unfold nbP
 split <;> omega
theorem I3 {r:Rl} {i:Int} (h0:0<=i):0<=p4 r i/\p4 r i<=315537897600:=by
 have n1:=(G3 ⟨i,1,1⟩).1
 have n2:=(G3 ⟨i / 12,i % 12+1,1⟩).1
 unfold p4
 split
 . exact a9k n1
 split
 . exact a9k n2
 split
 . exact a9k (by omega)
 split
 . exact a9k h0
 split
 . omega
 split <;> omega
structure a5w (s:Tm) (r:Rl) (day fr to n:Int) (acc:List Int):Prop where
 a:fr / 86400+1<=n
 b:n<=(to+86399) / 86400+1 ∨ n=fr / 86400+1
 c:(acc.length:Int)<=(n-fr / 86400-1) * 216000
 d:acc++a4a s r day fr to ((to+86399) / 86400+1-n).toNat n=a7r s r day fr to
section
variable {s:Tm} {r:Rl} {day fr to n:Int} {acc:List Int}
theorem a5w.init:a5w s r day fr to (fr / 86400+1) []:=⟨Int.le_refl _,.inr rfl,by simp; omega,by
 unfold a7r
 rw [List.nil_append,show (to+86399) / 86400+1-(fr / 86400+1)=(to+86399) / 86400-fr / 86400 by omega]⟩
theorem a5w.step (h:a5w s r day fr to n acc) (hF:p9 s r) (hn:(n-1) * 86400<to):a5w s r day fr to (n+1) (acc++a7u s r day fr to n):=by
 have hb:n<=(to+86399) / 86400:=by omega
 have a:=h.a
 have c:=h.c
 have d:=h.d
 have l:=b45 (day:=day) (fr:=fr) (to:=to) (n:=n) hF
 refine ⟨by omega,.inl (by omega),?_,?_⟩
 . rw [List.length_append]
   have:(n+1-fr / 86400-1) * 216000=(n-fr / 86400-1) * 216000+216000:=by omega
   omega
 . rw [show ((to+86399) / 86400+1-n).toNat=((to+86399) / 86400+1-(n+1)).toNat+1 by omega] at d
   unfold a4a at d
   rw [List.append_assoc]; exact d
theorem a5w.fin (h:a5w s r day fr to n acc) (hn:¬ (n-1) * 86400<to):acc=a7r s r day fr to:=by
 have d:=h.d
 rw [show ((to+86399) / 86400+1-n).toNat=0 by omega] at d
 unfold a4a at d
 rw [List.append_nil] at d; exact d
theorem a5w.len (h:a5w s r day fr to n acc) (f0:0<=fr) (f1:fr<=315537897600) (t1:to<=315537897600):(acc.length:Int)<=1000000000000:=by
 have c:=h.c
 have a:=h.a
 rcases h.b with b | b
 . have:n-fr / 86400-1<=3652060:=by omega
   omega
 . have:n-fr / 86400-1=0:=by omega
   rw [this] at c
   omega
end
end Go.Re
end
section
namespace Go.Proofs.YtdjfeninmbpflaaGreat
open Go Go.Wk Go.Wl Go.Rx Go.Re Go.Re
attribute [local irreducible] m7 a7z
def c30:Nat->Ann:=fun | 53=>⟨84,fun | 4=>some ⟨[0,5,6,7],[.slot 8 (.int .i64),.tree [] [.own (some 7) 27 [.v (.acc 3)]]]⟩ | 10=>some ⟨[7,8,9],[.tree [] [.own (some 7) 27 [.v (.acc 3)]]]⟩ | 15=>some ⟨[0,7,61,62],[.slot 63 (.int .i64),.slot 11 (.acc 3)]⟩ | _=>none,nn⟩ | 47=>⟨8,nn,nn⟩ | _=>⟨0,nn,nn⟩
def Vcc (l:Lk) (i:Int) (Q:List Int->Prop):Prop :=
(0:Int)<=i/\i<=1000000000000/\(0:Int)<=l.Rule.Wkst/\l.Rule.Wkst<=6/\b9 (i+1)/\(0:Int)<=i+1/\i+1<=1000000000000/\(0:Int)<=l.Rule.Wkst/\l.Rule.Wkst<=6/\(86400:Int)≠0/\b9 ((p4 l.Rule i).tdiv (86400:Int))/\b9 ((p4 l.Rule i).tdiv (86400:Int)+1)/\∃ (I:Int->List Int->Prop),∃ (m:Int->List Int->Nat),I ((p4 l.Rule i).tdiv (86400:Int)+1) []/\∀ (x:Int) (x_1:List Int),I x x_1->b9 (x-1)/\b9 ((x-1) * 86400)/\((x-1) * 86400<p4 l.Rule (i+1)->w4 l.Rule=true/\(1:Int)<=x/\x<=3652059/\A6 l.Rule=true/\(¬N7 l.start l.Rule l.day x=true->b9 (x+1)/\I (x+1) x_1/\m (x+1) x_1<m x x_1)/\(¬¬N7 l.start l.Rule l.day x=true->b9 (x-1)/\b9 ((x-1) * 86400)/\b9 (p4 l.Rule i-(x-1) * 86400)/\b9 (p4 l.Rule (i+1)-(x-1) * 86400)/\∃ (I_1:List Int->List Int->Prop),∃ (pre:List Int->Int->Prop),∃ (res:List Int->Int->Bool),I_1 [] x_1/\(∀ (xs:List Int) (t:Int),pre xs t->E9 res xs=false)/\(∀ (xs:List Int) (t:Int),b9 t->pre xs t->∀ (x_2:List Int),I_1 xs x_2->b9 ((x-1) * 86400+t)/\(x_2.length+[(x-1) * 86400+t].length) * (some (8:Nat)).getD (0:Nat)<=140737488355328/\res xs t=true/\I_1 (xs++[t]) (x_2++[(x-1) * 86400+t]))/\(A0 l.start l.Rule=true/\okY pre res [] (Y4 l.start l.Rule (p4 l.Rule i-(x-1) * 86400) (p4 l.Rule (i+1)-(x-1) * 86400)))/\∀ (x_2:List Int),I_1 (goY res [] (Y4 l.start l.Rule (p4 l.Rule i-(x-1) * 86400) (p4 l.Rule (i+1)-(x-1) * 86400))) x_2->(E9 res (goY res [] (Y4 l.start l.Rule (p4 l.Rule i-(x-1) * 86400) (p4 l.Rule (i+1)-(x-1) * 86400)))=true->False)/\(E9 res (goY res [] (Y4 l.start l.Rule (p4 l.Rule i-(x-1) * 86400) (p4 l.Rule (i+1)-(x-1) * 86400)))=false->b9 (x+1)/\I (x+1) x_2/\m (x+1) x_2<m x x_1)))/\(¬(x-1) * 86400<p4 l.Rule (i+1)->((↑(ix [l] (0:Int)).Rule.SetPos.length:Int)=0->Q x_1)/\(¬(↑(ix [l] (0:Int)).Rule.SetPos.length:Int)=0->∃ (I:Int->List Int->Prop),∃ (m:Int->List Int->Nat),I (0:Int) []/\∀ (x:Int) (x_2:List Int),I x x_2->(x<(↑x_1.length:Int)->(0:Int)<=x/\x<(↑x_1.length:Int)/\(b9 (ix x_1 x)->b9 (x+1)/\((ix [l] (0:Int)).Rule.SetPos.length<=1000000/\(-1000000000000000:Int)<=x+1/\x+1<=1000000000000000/\(-1000000000000000:Int)<=(↑x_1.length:Int)/\(↑x_1.length:Int)<=1000000000000000)/\(Re.hasE (ix [l] (0:Int)).Rule.SetPos (x+1) (↑x_1.length:Int)=true->(x_2.length+[ix x_1 x].length) * (some (8:Nat)).getD (0:Nat)<=140737488355328/\b9 (x+1)/\I (x+1) (x_2++[ix x_1 x])/\m (x+1) (x_2++[ix x_1 x])<m x x_2)/\(¬Re.hasE (ix [l] (0:Int)).Rule.SetPos (x+1) (↑x_1.length:Int)=true->b9 (x+1)/\I (x+1) x_2/\m (x+1) x_2<m x x_2)))/\(¬x<(↑x_1.length:Int)->Q x_2)))
theorem d6a {l:Lk} {i:Int} {Q:List Int->Prop}:@Eq Prop (Vcc l i Q) (a7z (E:=Q3) (P7 Q3 H0 c30 3) (c30 53) c6p Tryz.f53 [.fel (N:=U) 85 [l] 0 0,.int .i64 i] [] [] 0 (a2o Q3 [.acc 3] Q)):=by kernel_rfl
theorem d6g {l:Lk} {i:Int} {Q:List Int->Prop} (h:Vcc l i Q):a7z (E:=Q3) (P7 Q3 H0 c30 3) (c30 53) c6p Tryz.f53 [.fel (N:=U) 85 [l] 0 0,.int .i64 i] [] [] 0 (a2o Q3 [.acc 3] Q):=by rw [<- d6a]; exact h
set_option maxHeartbeats 2000000 in
theorem pcc (l:Lk) (i:Int) (hfw:w4 l.Rule=true) (hf:A0 l.start l.Rule=true) (i0:0<=i) (i1:i<=999999999999):Vcc l i (fun y=>y=u4 l.start l.Rule l.day i):=by
 unfold Vcc u4
 have el:ix [l] 0=l:=rfl
 rw [el]
 have hF:=G7.1 hf
 have hd8:=(m8.1 hF.rr).head
 obtain ⟨_,_,_,_,_,_,w0,w1⟩:=hd8
 obtain ⟨f0,f1⟩:=I3 (r:=l.Rule) i0
 obtain ⟨t0,t1⟩:=I3 (r:=l.Rule) (i:=i+1) (by omega)
 generalize p4 l.Rule i=fr at *
 generalize p4 l.Rule (i+1)=to at *
 have ed:fr.tdiv 86400=fr / 86400:=Int.tdiv_eq_ediv_of_nonneg f0
 rw [ed]
 refine ⟨i0,by omega,w0,w1,⟨by omega,by omega⟩,by omega,by omega,w0,w1,by decide,⟨by omega,by omega⟩,⟨by omega,by omega⟩,a5w l.start l.Rule l.day fr to,fun n _=>((to+86399) / 86400+1-n).toNat,a5w.init,?_⟩
 intro n acc hI
 have hl:=hI.len f0 f1 t1
 have ha:=hI.a
 have hb:=hI.b
 have hms:(n-1) * 86400<to->((to+86399) / 86400+1-(n+1)).toNat<((to+86399) / 86400+1-n).toNat:=fun h=>by omega
 refine ⟨⟨by omega,by omega⟩,⟨by omega,by omega⟩,fun hn=>?_,fun hn=>?_⟩
 . have n1:1<=n:=by omega
   have n2:n<=3652059:=by omega
   refine ⟨hfw,n1,n2,hF.rr,fun hd=>⟨⟨by omega,by omega⟩,?_,hms hn⟩,fun hd=>⟨⟨by omega,by omega⟩,⟨by omega,by omega⟩,⟨by omega,by omega⟩,⟨by omega,by omega⟩,fun xs a=>a=acc++xs.map (fun t=>(n-1) * 86400+t),fun ys t=>(fr-(n-1) * 86400<=t/\t<to-(n-1) * 86400)/\ys.length<=216000,fun _ _=>true,by simp,fun xs t _=>?_,fun xs t h64 hp a ha2=>⟨⟨by omega,by omega⟩,?_,rfl,?_⟩,⟨hf,b9q _ [] ?_ fun t ht=>?_⟩,fun a ha2=>⟨fun h=>?_,fun _=>⟨⟨by omega,by omega⟩,?_,hms hn⟩⟩⟩⟩
   . have:=hI.step hF hn
     unfold a7u at this
     rw [if_neg hd,List.append_nil] at this
     exact this
   . exact a5m
   . show (a.length+1) * 8<=140737488355328
     have:a.length=acc.length+xs.length:=by rw [ha2,List.length_append,List.length_map]
     omega
   . rw [ha2]; simp
   . have:=b41 (fr:=fr-(n-1) * 86400) (to:=to-(n-1) * 86400) hF
     rw [List.length_nil,Nat.zero_add]; exact this
   . exact ((b38 hF).1 ht).2
   . rw [a5m] at h; cases h
   . have:=hI.step hF hn
     unfold a7u at this
     rw [if_pos (Classical.not_not.1 hd)] at this
     rw [b3k,List.nil_append] at ha2
     rw [ha2]; exact this
 . have e:=hI.fin hn
   refine ⟨fun h=>?_,fun h=>⟨fun k p=>S0 l.Rule.SetPos acc p k,fun k _=>((acc.length:Int)-k).toNat,S0.init,fun k p hk=>?_⟩⟩
   . unfold s7
     rw [if_pos h]; exact e
   . have sp:=(m8.1 hF.rr).lists.sp.few
     have ka:=hk.a
     have kc:=hk.c
     refine ⟨fun hlt=>⟨ka,hlt,fun _=>⟨⟨by omega,by omega⟩,⟨by omega,by omega,by omega,by omega,by omega⟩,fun hh=>⟨?_,⟨by omega,by omega⟩,hk.yes hlt ?_,by show (_:Int).toNat<(_:Int).toNat; omega⟩,fun hh=>⟨⟨by omega,by omega⟩,hk.no hlt ?_,by show (_:Int).toNat<(_:Int).toNat; omega⟩⟩⟩,fun hge=>?_⟩
     . show (p.length+1) * 8<=140737488355328
       omega
     . unfold Re.hasE at hh
       rw [Bool.or_eq_true,show k+1-(acc.length:Int)-1=k-acc.length by omega] at hh
       exact hh
     . unfold Re.hasE at hh
       rw [Bool.or_eq_true,show k+1-(acc.length:Int)-1=k-acc.length by omega] at hh
       exact hh
     . have:=hk.fin hge
       unfold s7
       rw [if_neg h,<- e]; exact this
noncomputable def ccc (a:List (SV U)) (nx:Nat):Option (CR U):=match a with | [.fel 85 [l] 0 0,.int .i64 i]=>some ⟨[w4 l.Rule=true,A0 l.start l.Rule=true,0<=i,i<=999999999999],[],.acc nx,[.ac 3 (u4 l.start l.Rule l.day i)]⟩ | _=>none
noncomputable def Ncc:Env:=Q3.addC 53 ccc
theorem d2h:j7 Ncc:=a2d.addC Tryz.call53 fun (args:List (SV U)) nx (c:CR U) (h:ccc args nx=some c) hp ho=>by
 unfold ccc at h
 split at h
 . rename_i l i
   cases h
   exact d7x a2d ((j6 a2d o9 c30 3)) c6p Tryz.func53 (k:=.acc 3) (x:=u4 l.start l.Rule l.day i) hp (d6g (pcc l i ho.1 ho.2.1 ho.2.2.1 ho.2.2.2.1))
 . cases h
end Go.Proofs.YtdjfeninmbpflaaGreat
end
section
namespace Go.Proofs.YtdjfeninmbpflaaGreat
open Go Go.Wk Go.Wl Go.Rx Go.Re 
noncomputable def e1k:Env:=Ncc.addI 34 Tryz.f34
theorem c8b:j7 e1k:=d2h.addI Tryz.call34 Tryz.func34
noncomputable def d8t:Env:=e1k.addI 58 Tryz.f58
theorem b0k:j7 d8t:=c8b.addI Tryz.call58 Tryz.func58
end Go.Proofs.YtdjfeninmbpflaaGreat
end
section
namespace Go.Re
open Go Go.Wk Go.Wl Go.Rx
theorem M6 {s:Tm} {r:Rl} {h m t:Int}:∀ {k:Nat},t∈P9 s r h m k↔∃ x:Nat,x<k/\sB s r x/\t=3600 * h+60 * m+x
 | 0=>by simp [P9]
 | k+1=>by
  unfold P9
  rw [List.mem_append,M6]
  constructor
  . rintro (⟨x,h1,h2⟩ | h)
    . exact ⟨x,by omega,h2⟩
    . split at h
      . rename_i hc; exact ⟨k,by omega,hc,by simpa using h⟩
      . cases h
  . rintro ⟨x,h1,h2,h3⟩
    by_cases e:x=k
    . subst e; exact .inr (by rw [if_pos h2,h3]; exact List.mem_singleton.2 rfl)
    . exact .inl ⟨x,by omega,h2,h3⟩
theorem U4 {s:Tm} {r:Rl} {h t:Int}:∀ {k:Nat},t∈O4 s r h k↔∃ m:Nat,m<k/\mB s r m/\t∈P9 s r h m 60
 | 0=>by simp [O4]
 | k+1=>by
  unfold O4
  rw [List.mem_append,U4]
  constructor
  . rintro (⟨x,h1,h2⟩ | h)
    . exact ⟨x,by omega,h2⟩
    . split at h
      . rename_i hc; exact ⟨k,by omega,hc,h⟩
      . cases h
  . rintro ⟨x,h1,h2,h3⟩
    by_cases e:x=k
    . subst e; exact .inr (by rw [if_pos h2]; exact h3)
    . exact .inl ⟨x,by omega,h2,h3⟩
theorem a6w {s:Tm} {r:Rl} {t:Int}:∀ {k:Nat},t∈S9 s r k↔∃ h:Nat,h<k/\hB s r h/\t∈O4 s r h 60
 | 0=>by simp [S9]
 | k+1=>by
  unfold S9
  rw [List.mem_append,a6w]
  constructor
  . rintro (⟨x,h1,h2⟩ | h)
    . exact ⟨x,by omega,h2⟩
    . split at h
      . rename_i hc; exact ⟨k,by omega,hc,h⟩
      . cases h
  . rintro ⟨x,h1,h2,h3⟩
    by_cases e:x=k
    . subst e; exact .inr (by rw [if_pos h2]; exact h3)
    . exact .inl ⟨x,by omega,h2,h3⟩
theorem b1u {s:Tm} {r:Rl} {t:Int}:t∈A5 s r↔∃ h m x:Nat,(h<24/\hB s r h)/\(m<60/\mB s r m)/\(x<60/\sB s r x)/\t=3600 * (h:Int)+60 * m+x:=by
 unfold A5
 rw [a6w]
 constructor
 . rintro ⟨h,h1,h2,h3⟩
   obtain ⟨m,m1,m2,m3⟩:=U4.1 h3
   obtain ⟨x,x1,x2,x3⟩:=M6.1 m3
   exact ⟨h,m,x,⟨h1,h2⟩,⟨m1,m2⟩,⟨x1,x2⟩,x3⟩
 . rintro ⟨h,m,x,⟨h1,h2⟩,⟨m1,m2⟩,⟨x1,x2⟩,x3⟩
   exact ⟨h,h1,h2,U4.2 ⟨m,m1,m2,M6.2 ⟨x,x1,x2,x3⟩⟩⟩
theorem a73 {n:Nat} {x:Int}:x∈a7v n↔0<=x/\x<n:=by
 unfold a7v
 rw [List.mem_map]
 constructor
 . rintro ⟨k,hk,rfl⟩
   have:=List.mem_range.1 hk
   show 0<=((k:Nat):Int)/\((k:Nat):Int)<n
   omega
 . rintro ⟨h0,h1⟩
   exact ⟨x.toNat,List.mem_range.2 (by omega),by show ((x.toNat:Nat):Int)=x; omega⟩
theorem b10 {l:List Int} {n h:Int} (hl:M5 l 0 n false) (hh:h∈l):0<=h/\h<=n:=by
 obtain ⟨i,i0,i1,rfl⟩:=F6 hh
 have:=hl.ok i i0 i1
 unfold OkN at this
 simp only [Bool.false_eq_true,false_and,if_false] at this
 exact this
theorem b9v {s:Tm} {r:Rl} {h:Int} (hF:p9 s r):h∈hoL s r↔∃ k:Nat,(k<24/\hB s r k)/\h=k:=by
 obtain ⟨_,⟨a,b⟩,_⟩:=u7.1 hF.rt
 have ho:=(m8.1 hF.rr).lists.ho
 unfold hoL l7 hB
 by_cases hc:0<(r.Hour.length:Int)
 . rw [if_pos hc]
   have h0:¬ (r.Hour.length:Int)=0:=by omega
   constructor
   . intro hh
     have:=b10 ho hh
     exact ⟨h.toNat,⟨by omega,fun e=>e.elim (fun e=>e.2 (by rw [O8]; rw [show ((h.toNat:Nat):Int)=h by omega]; exact hh)) fun e=>h0 e.1.1⟩,by omega⟩
   . rintro ⟨k,⟨_,h2⟩,rfl⟩
     exact O8.1 (Classical.not_not.1 fun hn=>h2 (.inl ⟨hc,hn⟩))
 . rw [if_neg hc]
   have h0:(r.Hour.length:Int)=0:=by omega
   by_cases hf:3<r.Freq
   . rw [if_pos (decide_eq_true hf),a73]
     constructor
     . rintro ⟨h1,h2⟩
       exact ⟨h.toNat,⟨by omega,fun e=>e.elim (fun e=>hc e.1) fun e=>absurd e.1.2 (by omega)⟩,by omega⟩
     . rintro ⟨k,⟨h1,_⟩,rfl⟩
       have:((Int.toNat 24:Nat):Int)=24:=rfl
       omega
   . rw [if_neg (by simpa using hf),List.mem_singleton]
     constructor
     . rintro rfl
       exact ⟨s.Hour.toNat,⟨by omega,fun e=>e.elim (fun e=>hc e.1) fun e=>e.2 (by omega)⟩,by omega⟩
     . rintro ⟨k,⟨_,h2⟩,rfl⟩
       exact Classical.not_not.1 fun hn=>h2 (.inr ⟨⟨h0,by omega⟩,hn⟩)
theorem b9n {s:Tm} {r:Rl} {h:Int} (hF:p9 s r):h∈miL s r↔∃ k:Nat,(k<60/\mB s r k)/\h=k:=by
 obtain ⟨_,_,⟨a,b⟩,_⟩:=u7.1 hF.rt
 have ho:=(m8.1 hF.rr).lists.mi
 unfold miL l7 mB
 by_cases hc:0<(r.Minute.length:Int)
 . rw [if_pos hc]
   have h0:¬ (r.Minute.length:Int)=0:=by omega
   constructor
   . intro hh
     have:=b10 ho hh
     exact ⟨h.toNat,⟨by omega,fun e=>e.elim (fun e=>e.2 (by rw [O8]; rw [show ((h.toNat:Nat):Int)=h by omega]; exact hh)) fun e=>h0 e.1.1⟩,by omega⟩
   . rintro ⟨k,⟨_,h2⟩,rfl⟩
     exact O8.1 (Classical.not_not.1 fun hn=>h2 (.inl ⟨hc,hn⟩))
 . rw [if_neg hc]
   have h0:(r.Minute.length:Int)=0:=by omega
   by_cases hf:4<r.Freq
   . rw [if_pos (decide_eq_true hf),a73]
     constructor
     . rintro ⟨h1,h2⟩
       have:((Int.toNat 60:Nat):Int)=60:=rfl
       exact ⟨h.toNat,⟨by omega,fun e=>e.elim (fun e=>hc e.1) fun e=>absurd e.1.2 (by omega)⟩,by omega⟩
     . rintro ⟨k,⟨h1,_⟩,rfl⟩
       have:((Int.toNat 60:Nat):Int)=60:=rfl
       omega
   . rw [if_neg (by simpa using hf),List.mem_singleton]
     constructor
     . rintro rfl
       exact ⟨s.Min.toNat,⟨by omega,fun e=>e.elim (fun e=>hc e.1) fun e=>e.2 (by omega)⟩,by omega⟩
     . rintro ⟨k,⟨_,h2⟩,rfl⟩
       exact Classical.not_not.1 fun hn=>h2 (.inr ⟨⟨h0,by omega⟩,hn⟩)
theorem b8d {s:Tm} {r:Rl} {h:Int} (hF:p9 s r):h∈seL s r↔∃ k:Nat,(k<60/\sB s r k)/\h=k:=by
 obtain ⟨_,_,_,⟨a,b⟩,_⟩:=u7.1 hF.rt
 have ho:=(m8.1 hF.rr).lists.se
 unfold seL l7 sB
 by_cases hc:0<(r.Second.length:Int)
 . rw [if_pos hc]
   have h0:¬ (r.Second.length:Int)=0:=by omega
   constructor
   . intro hh
     have:=b10 ho hh
     exact ⟨h.toNat,⟨by omega,.inl ⟨hc,by rw [O8]; rw [show ((h.toNat:Nat):Int)=h by omega]; exact hh⟩⟩,by omega⟩
   . rintro ⟨k,⟨_,h2⟩,rfl⟩
     exact h2.elim (fun e=>O8.1 e.2) fun e=>absurd e.1 h0
 . rw [if_neg hc]
   have h0:(r.Second.length:Int)=0:=by omega
   by_cases hf:5<r.Freq
   . rw [if_pos (decide_eq_true hf),a73]
     constructor
     . rintro ⟨h1,h2⟩
       have:((Int.toNat 60:Nat):Int)=60:=rfl
       exact ⟨h.toNat,⟨by omega,.inr ⟨h0,.inl hf⟩⟩,by omega⟩
     . rintro ⟨k,⟨h1,_⟩,rfl⟩
       have:((Int.toNat 60:Nat):Int)=60:=rfl
       omega
   . rw [if_neg (by simpa using hf),List.mem_singleton]
     constructor
     . rintro rfl
       exact ⟨s.Sec.toNat,⟨by omega,.inr ⟨h0,.inr (by omega)⟩⟩,by omega⟩
     . rintro ⟨k,⟨_,h2⟩,rfl⟩
       exact h2.elim (fun e=>absurd e.1 hc) fun e=>e.2.elim (fun e=>absurd e hf) id
theorem b47 {s:Tm} {r:Rl} {fr to t:Int} (hF:p9 s r):t∈Y4 s r fr to↔t∈A5 s r/\fr<=t/\t<to:=by
 rw [b38 hF,b1u]
 constructor
 . rintro ⟨⟨h,hh,m,hm,x,hx,e⟩,b⟩
   obtain ⟨k,hk,rfl⟩:=(b9v hF).1 hh
   obtain ⟨j,hj,rfl⟩:=(b9n hF).1 hm
   obtain ⟨i,hi,rfl⟩:=(b8d hF).1 hx
   exact ⟨⟨k,j,i,hk,hj,hi,by omega⟩,b⟩
 . rintro ⟨⟨k,j,i,hk,hj,hi,e⟩,b⟩
   exact ⟨⟨k,(b9v hF).2 ⟨k,hk,rfl⟩,j,(b9n hF).2 ⟨j,hj,rfl⟩,i,(b8d hF).2 ⟨i,hi,rfl⟩,by omega⟩,b⟩
end Go.Re
end
section
namespace Go.Re
open Go Go.Wk Go.Wl Go.Rx
def V8 (res:List Int->Int->Bool):List Int->List Int->Bool->List Int×Bool
 | y,[],e=>(y,e)
 | y,t::T,e=>bif res y t then V8 res (y++[t]) T e else (y++[t],false)
structure a2b (res:List Int->Int->Bool) (g:List Int×Bool) (y T:List Int) (e:Bool):Prop where
 a:V8 res y T e=g
section
variable {res:List Int->Int->Bool} {g:List Int×Bool} {y T:List Int} {e:Bool} {t:Int}
theorem a2b.fin (h:a2b res g y [] e):g=(y,e):=h.a.symm
theorem a2b.go (h:a2b res g y (t::T) e) (hr:res y t=true):a2b res g (y++[t]) T e:=⟨by have a:=h.a; unfold V8 at a; rw [hr] at a; exact a⟩
theorem a2b.stop (h:a2b res g y (t::T) e) (hr:¬ res y t=true):g=(y++[t],false):=by
 have a:=h.a
 unfold V8 at a
 rw [Bool.not_eq_true] at hr
 rw [hr] at a; exact a.symm
end
def a1d (r:Rl) (first to til:Int):Int->List Int->List Int×Int
 | c,[]=>([],c)
 | c,t::T=>if t<=first then a1d r first to til c T else if (to<=t ∨ til<t) ∨ (0<r.Count/\r.Count<=c) then ([],c) else (t::(a1d r first to til (c+1) T).1,(a1d r first to til (c+1) T).2)
def X5 (r:Rl) (to til b c:Int):Prop:=((to<=b ∨ til<b) ∨ (0<r.Count/\r.Count<=c)) ∨ 315537897600<=b
instance (r:Rl) (to til b c:Int):Decidable (X5 r to til b c):=inferInstanceAs (Decidable (_ ∨ _))
def a0v (s:Tm) (r:Rl) (day first to til i0:Int):Nat->Int->Int->List Int×Bool
 | 0,k,c=>if X5 r to til (p4 r (i0+k * r.Interval)) c then ([],false) else ([],true)
 | n+1,k,c=>if X5 r to til (p4 r (i0+k * r.Interval)) c then ([],false) else
  ((a1d r first to til c (u4 s r day (i0+k * r.Interval))).1++(a0v s r day first to til i0 n (k+1) (a1d r first to til c (u4 s r day (i0+k * r.Interval))).2).1,
   (a0v s r day first to til i0 n (k+1) (a1d r first to til c (u4 s r day (i0+k * r.Interval))).2).2)
def G0 (r:Rl):Int:=if 0<(r.Until.length:Int) then b8 (ix r.Until 0) else 315537897600
def k0S (s:Tm) (r:Rl) (fr:Int):Int:=if r.Count=0/\b8 s<fr then max 0 ((j8 r (min fr 315537897599)-j8 r (b8 s)).tdiv r.Interval-1) else 0
def D8 (s:Tm) (r:Rl) (day fr to:Int):List Int×Bool :=
 ((if b8 s<to then [b8 s] else [])++(a0v s r day (b8 s) to (G0 r) (j8 r (b8 s)) (40000-k0S s r fr).toNat (k0S s r fr) 1).1,
  (a0v s r day (b8 s) to (G0 r) (j8 r (b8 s)) (40000-k0S s r fr).toNat (k0S s r fr) 1).2)
section
variable {res:List Int->Int->Bool} {g:List Int×Bool} {y L:List Int} {s:Tm} {r:Rl} {day first to til i0 k c t:Int}
structure a1j (res:List Int->Int->Bool) (g:List Int×Bool) (s:Tm) (r:Rl) (day first to til i0 k c:Int) (y:List Int):Prop where
 a:a2b res g y (a0v s r day first to til i0 (40000-k).toNat k c).1 (a0v s r day first to til i0 (40000-k).toNat k c).2
structure a1r (res:List Int->Int->Bool) (g:List Int×Bool) (s:Tm) (r:Rl) (day first to til i0 k c:Int) (L y:List Int):Prop where
 a:a2b res g y ((a1d r first to til c L).1++(a0v s r day first to til i0 (40000-(k+1)).toNat (k+1) (a1d r first to til c L).2).1) (a0v s r day first to til i0 (40000-(k+1)).toNat (k+1) (a1d r first to til c L).2).2
theorem a1j.fin (h:a1j res g s r day first to til i0 k c y) (he:X5 r to til (p4 r (i0+k * r.Interval)) c):g=(y,false):=by
 have a:=h.a
 generalize (40000-k).toNat=n at a
 cases n <;> (unfold a0v at a; rw [if_pos he] at a; exact a.fin)
theorem a1j.many (h:a1j res g s r day first to til i0 k c y) (he:¬ X5 r to til (p4 r (i0+k * r.Interval)) c) (hk:40000<=k):g=(y,true):=by
 have a:=h.a
 rw [show (40000-k).toNat=0 by omega] at a
 unfold a0v at a
 rw [if_neg he] at a
 exact a.fin
theorem a1j.enter (h:a1j res g s r day first to til i0 k c y) (he:¬ X5 r to til (p4 r (i0+k * r.Interval)) c) (hk:¬ 40000<=k):a1r res g s r day first to til i0 k c (u4 s r day (i0+k * r.Interval)) y:=by
 have a:=h.a
 rw [show (40000-k).toNat=(40000-(k+1)).toNat+1 by omega] at a
 unfold a0v at a
 rw [if_neg he] at a
 exact ⟨a⟩
theorem a1r.nil (h:a1r res g s r day first to til i0 k c [] y):a1j res g s r day first to til i0 (k+1) c y:=⟨h.a⟩
theorem a1r.skip (h:a1r res g s r day first to til i0 k c (t::L) y) (ht:t<=first):a1r res g s r day first to til i0 k c L y:=by
 have a:=h.a
 unfold a1d at a
 rw [if_pos ht] at a
 exact ⟨a⟩
theorem a1r.leave (h:a1r res g s r day first to til i0 k c (t::L) y) (ht:¬ t<=first) (hb:(to<=t ∨ til<t) ∨ (0<r.Count/\r.Count<=c)):a1j res g s r day first to til i0 (k+1) c y:=by
 have a:=h.a
 unfold a1d at a
 rw [if_neg ht,if_pos hb] at a
 exact ⟨a⟩
theorem a1r.one (h:a1r res g s r day first to til i0 k c (t::L) y) (ht:¬ t<=first) (hb:¬ ((to<=t ∨ til<t) ∨ (0<r.Count/\r.Count<=c))) :
  (res y t=true->a1r res g s r day first to til i0 k (c+1) L (y++[t]))/\(¬ res y t=true->g=(y++[t],false)):=by
 have a:=h.a
 unfold a1d at a
 rw [if_neg ht,if_neg hb] at a
 exact ⟨fun hr=>⟨a2b.go a hr⟩,fun hr=>a2b.stop a hr⟩
end
theorem c1p {r:Rl} {l:List Int}:(s7 r l).length<=l.length:=by
 unfold s7
 split
 . exact Nat.le_refl _
 . exact a3l l 0
theorem b2q {s:Tm} {r:Rl} {day fr to:Int} (hF:p9 s r):∀ (k:Nat) (n:Int),(a4a s r day fr to k n).length<=k * 216000
 | 0,_=>Nat.zero_le _
 | k+1,n=>by
  have h1:=b2q (day:=day) (fr:=fr) (to:=to) hF k (n+1)
  have h2:=b45 (day:=day) (fr:=fr) (to:=to) (n:=n) hF
  unfold a4a
  rw [List.length_append,Nat.add_mul,Nat.one_mul]
  omega
theorem a0j {s:Tm} {r:Rl} {day i:Int} (hF:p9 s r) (h0:0<=i):((u4 s r day i).length:Int)<=1000000000000:=by
 have h1:=c1p (r:=r) (l:=a7r s r day (p4 r i) (p4 r (i+1)))
 have h2:=b2q (day:=day) (fr:=p4 r i) (to:=p4 r (i+1)) hF ((p4 r (i+1)+86399) / 86400-p4 r i / 86400).toNat (p4 r i / 86400+1)
 obtain ⟨a0,a1⟩:=I3 (r:=r) h0
 obtain ⟨b0,b1⟩:=I3 (r:=r) (i:=i+1) (by omega)
 unfold u4
 unfold a7r at h1 ⊢
 have h3:((p4 r (i+1)+86399) / 86400-p4 r i / 86400).toNat<=3652060:=by omega
 have h4:=Nat.mul_le_mul_right 216000 h3
 omega
def etD (d:Dy):Dy:=Dy.mk d.Year d.Month d.Date
def etT (s:Tm):Tm:=Tm.mk (Dy.mk s.Day.Year s.Day.Month s.Day.Date) s.Hour s.Min s.Sec (decide (s.Bare=true)) (decide (s.UTC=true))
def etR (r:Rl):Rl:=Rl.mk r.Freq r.Interval r.Count r.Until r.Month r.WeekNo r.YearDay r.MonthDay r.Days r.Hour r.Minute r.Second r.SetPos r.Wkst
theorem a0a (d:Dy):etD d=d:=rfl
theorem P2 (s:Tm):etT s=s:=by unfold etT; simp only [Bool.decide_eq_true]
theorem V9 (r:Rl):etR r=r:=rfl
theorem W0 {r:Rl} {t:Int} (t0:0<=t) (t1:t<315537897600) (w0:0<=r.Wkst) (w1:r.Wkst<=6):0<=j8 r t/\j8 r t<=315537897600:=by
 obtain ⟨a,b,c⟩:=a4n (r:=r) t0 t1 w0 w1
 unfold j8
 split
 . rename_i h; have:=c h; omega
 . omega
def d9g:Err:=.w 87 [] (.no 5)
def a33 (b:Bool):Err:=bif b then d9g else .nil
def a1m (r:Rl):List Int->Int->Bool:=fun y _=>decide ((y.length:Int)+1<r.Count)
def c3e (r:Rl) (g:List Int×Bool):Bool:=if r.Count<=(g.1.length:Int) ∨ g.2=true then g.2 else true
def J3 (s:Tm) (r:Rl) (day to:Int):Bool :=
 if to<=p4 r (j8 r (b8 s)+40000 * r.Interval) ∨ 315537897600<=p4 r (j8 r (b8 s)+40000 * r.Interval) then false
 else if 0<(r.Until.length:Int)/\b8 (ix r.Until 0)<p4 r (j8 r (b8 s)+40000 * r.Interval) then false
 else if 0<r.Count then c3e r (V8 (a1m r) [] (D8 s r day 0 (p4 r (j8 r (b8 s)+40000 * r.Interval))).1 (D8 s r day 0 (p4 r (j8 r (b8 s)+40000 * r.Interval))).2)
 else true
theorem a4v {r:Rl} {g:List Int×Bool} {fb e:Bool} {y:List Int} {n:Int} (h:c3e r g=fb) (hg:g=(y,e)) (hn:(y.length:Int)=n):(r.Count<=n->fb=e)/\(e=true->fb=true)/\(¬ r.Count<=n->e=false->fb=true):=by
 subst hg
 unfold c3e at h
 rw [hn] at h
 refine ⟨fun h1=>by rw [if_pos (.inl h1)] at h; exact h.symm,fun h1=>by rw [if_pos (.inr h1)] at h; exact h.symm.trans h1,fun h1 h2=>?_⟩
 rw [if_neg (fun hh=>hh.elim h1 fun hh=>by rw [h2] at hh; cases hh)] at h
 exact h.symm
end Go.Re
end
section
namespace Go.Proofs.YtdjfeninmbpflaaGreat
open Go Go.Wk Go.Wl Go.Rx Go.Re 
attribute [local irreducible] m7
def d8r:Nat->Ann:=fun | 32=>⟨74,fun | 6=>some ⟨[2,6,39,40],[.slot 41 (.int .i64)]⟩ | _=>none,nn⟩ | 34=>⟨171,fun | 16=>some ⟨[0,2,3,9,11,14],[.slot 10 (.int .i64),.slot 15 (.int .i64),.own 1000003 [.int .i64]]⟩ | 23=>some ⟨[0,2,3,9,11,14,15,130,131],[.slot 10 (.int .i64),.slot 132 (.int .i64),.own 1000003 [.int .i64]]⟩ | 7=>some ⟨[0,1,2,3,9,10,42,43],[.slot 11 (.int .i64),.slot 44 (.int .i64)]⟩ | _=>none,fun | 5=>some ⟨[0,1,2,3,9,10],[.own 1000003 [.int .i64]]⟩ | 16=>some ⟨[0,2,3,9,10,11,14],[.slot 15 (.int .i64)]⟩ | _=>none⟩ | 58=>⟨14,nn,nn⟩ | _=>⟨0,nn,nn⟩
def Y8 (l:Lk) (x_4:Int):=j8 l.Rule (b8 (etT l.start))+x_4 * l.Rule.Interval
def a2p (l:Lk):=j8 l.Rule (b8 (etT l.start))+40000 * l.Rule.Interval
def c1c (l:Lk):=j8 l.Rule (bif false then max (0:Int) (315537897599:Int) else min (0:Int) (315537897599:Int))-j8 l.Rule (b8 (etT l.start))
def Vfa (l:Lk) (to:Int) (Q:Err->Prop):Prop :=
((0:Int)<=b8 (etT l.start)/\b8 (etT l.start)<=400000000000/\(0:Int)<=l.Rule.Wkst/\l.Rule.Wkst<=6)/\b9 ((40000:Int) * l.Rule.Interval)/\b9 (a2p l)/\(0:Int)<=j8 l.Rule (b8 (etT l.start))+40000 * l.Rule.Interval/\j8 l.Rule (b8 (etT l.start))+40000 * l.Rule.Interval<=1000000000000/\(0:Int)<=l.Rule.Wkst/\l.Rule.Wkst<=6/\(to<=p4 l.Rule (a2p l) ∨ (315537897600:Int)<=p4 l.Rule (a2p l)->Q Err.nil)/\(¬(to<=p4 l.Rule (a2p l) ∨ (315537897600:Int)<=p4 l.Rule (a2p l))->∃ (I:Int->Prop),∃ (m:Int->Nat),I (0:Int)/\∀ (x:Int),I x->(x<(↑l.Rule.Until.length:Int)->(0:Int)<=x/\x<(↑l.Rule.Until.length:Int)/\(b9 (ix l.Rule.Until x).Day.Year->b9 (ix l.Rule.Until x).Day.Month->b9 (ix l.Rule.Until x).Day.Date->b9 (ix l.Rule.Until x).Hour->b9 (ix l.Rule.Until x).Min->b9 (ix l.Rule.Until x).Sec->(b8 (etT (ix l.Rule.Until x))<p4 l.Rule (a2p l)->Q Err.nil)/\(¬b8 (etT (ix l.Rule.Until x))<p4 l.Rule (a2p l)->b9 (x+1)/\I (x+1)/\m (x+1)<m x)))/\(¬x<(↑l.Rule.Until.length:Int)->((0:Int)<l.Rule.Count->∃ (J:Int->Prop),((b8 (etT l.start)<p4 l.Rule (a2p l)/\(0:Int)<=b8 (etT l.start)->b9 ((0:Int)+1)/\(¬(0:Int)+1<l.Rule.Count->(l.Rule.Count<=(0:Int)+1 ∨ Err.nil≠Err.nil->Q Err.nil)/\(¬(l.Rule.Count<=(0:Int)+1 ∨ Err.nil≠Err.nil)->Q (Err.w (87:Nat) [] (Err.no (5:Int)))))/\(¬¬(0:Int)+1<l.Rule.Count->J ((0:Int)+1)))/\(¬(b8 (etT l.start)<p4 l.Rule (a2p l)/\(0:Int)<=b8 (etT l.start))->J (0:Int)))/\∀ (x:Int),J x->∃ (I:Int->Int->Prop),∃ (m:Int->Int->Nat),I (315537897600:Int) (0:Int)/\∀ (x_1 x_2:Int),I x_1 x_2->(x_2<(↑l.Rule.Until.length:Int)->(0:Int)<=x_2/\x_2<(↑l.Rule.Until.length:Int)/\(b9 (ix l.Rule.Until x_2).Day.Year->b9 (ix l.Rule.Until x_2).Day.Month->b9 (ix l.Rule.Until x_2).Day.Date->b9 (ix l.Rule.Until x_2).Hour->b9 (ix l.Rule.Until x_2).Min->b9 (ix l.Rule.Until x_2).Sec->b9 (x_2+1)/\I (b8 (etT (ix l.Rule.Until x_2))) (x_2+1)/\m (b8 (etT (ix l.Rule.Until x_2))) (x_2+1)<m x_1 x_2))/\(¬x_2<(↑l.Rule.Until.length:Int)->(0:Int)<=b8 (etT l.start)/\b8 (etT l.start)<=400000000000/\(0:Int)<=l.Rule.Wkst/\l.Rule.Wkst<=6/\∃ (J:Int->Prop),((l.Rule.Count=0/\b8 (etT l.start)<0->(((0:Int)<=bif false then max (0:Int) (315537897599:Int) else min (0:Int) (315537897599:Int))/\(bif false then max (0:Int) (315537897599:Int) else min (0:Int) (315537897599:Int))<=400000000000/\(0:Int)<=l.Rule.Wkst/\l.Rule.Wkst<=6)/\b9 (c1c l)/\(l.Rule.Interval≠0/\b9 ((c1c l).tdiv l.Rule.Interval))/\b9 ((c1c l).tdiv l.Rule.Interval-1)/\J (bif true then max (0:Int) ((c1c l).tdiv l.Rule.Interval-1) else min (0:Int) ((c1c l).tdiv l.Rule.Interval-1)))/\(¬(l.Rule.Count=0/\b8 (etT l.start)<0)->J (0:Int)))/\∀ (x_3:Int),J x_3->∃ (I:Int->Int->Int->Prop),∃ (m:Int->Int->Int->Nat),I (1:Int) x_3 x/\∀ (x x_4 x_5:Int),I x x_4 x_5->b9 (x_4 * l.Rule.Interval)/\b9 (Y8 l x_4)/\(0:Int)<=j8 l.Rule (b8 (etT l.start))+x_4 * l.Rule.Interval/\j8 l.Rule (b8 (etT l.start))+x_4 * l.Rule.Interval<=1000000000000/\(0:Int)<=l.Rule.Wkst/\l.Rule.Wkst<=6/\(((p4 l.Rule (a2p l)<=p4 l.Rule (Y8 l x_4) ∨ x_1<p4 l.Rule (Y8 l x_4)) ∨ (0:Int)<l.Rule.Count/\l.Rule.Count<=x) ∨ (315537897600:Int)<=p4 l.Rule (Y8 l x_4)->(l.Rule.Count<=x_5 ∨ Err.nil≠Err.nil->Q Err.nil)/\(¬(l.Rule.Count<=x_5 ∨ Err.nil≠Err.nil)->Q (Err.w (87:Nat) [] (Err.no (5:Int)))))/\(¬(((p4 l.Rule (a2p l)<=p4 l.Rule (Y8 l x_4) ∨ x_1<p4 l.Rule (Y8 l x_4)) ∨ (0:Int)<l.Rule.Count/\l.Rule.Count<=x) ∨ (315537897600:Int)<=p4 l.Rule (Y8 l x_4))->((40000:Int)<=x_4->(l.Rule.Count<=x_5 ∨ Err.w (87:Nat) [] (Err.no (5:Int))≠Err.nil->Q (Err.w (87:Nat) [] (Err.no (5:Int))))/\(¬(l.Rule.Count<=x_5 ∨ Err.w (87:Nat) [] (Err.no (5:Int))≠Err.nil)->Q (Err.w (87:Nat) [] (Err.no (5:Int)))))/\(¬(40000:Int)<=x_4->w4 l.Rule=true/\A0 l.start l.Rule=true/\(0:Int)<=j8 l.Rule (b8 (etT l.start))+x_4 * l.Rule.Interval/\j8 l.Rule (b8 (etT l.start))+x_4 * l.Rule.Interval<=999999999999/\∃ (I_1:Int->Int->Int->Prop),∃ (m_1:Int->Int->Int->Nat),I_1 x (0:Int) x_5/\∀ (x_6 x_7 x_8:Int),I_1 x_6 x_7 x_8->(x_7<(↑(u4 l.start l.Rule l.day (Y8 l x_4)).length:Int)->(0:Int)<=x_7/\x_7<(↑(u4 l.start l.Rule l.day (Y8 l x_4)).length:Int)/\(b9 (ix (u4 l.start l.Rule l.day (Y8 l x_4)) x_7)->(ix (u4 l.start l.Rule l.day (Y8 l x_4)) x_7<=b8 (etT l.start)->b9 (x_7+1)/\I_1 x_6 (x_7+1) x_8/\m_1 x_6 (x_7+1) x_8<m_1 x_6 x_7 x_8)/\(¬ix (u4 l.start l.Rule l.day (Y8 l x_4)) x_7<=b8 (etT l.start)->((p4 l.Rule (a2p l)<=ix (u4 l.start l.Rule l.day (Y8 l x_4)) x_7 ∨ x_1<ix (u4 l.start l.Rule l.day (Y8 l x_4)) x_7) ∨ (0:Int)<l.Rule.Count/\l.Rule.Count<=x_6->b9 (x_4+1)/\I x_6 (x_4+1) x_8/\m x_6 (x_4+1) x_8<m x x_4 x_5)/\(¬((p4 l.Rule (a2p l)<=ix (u4 l.start l.Rule l.day (Y8 l x_4)) x_7 ∨ x_1<ix (u4 l.start l.Rule l.day (Y8 l x_4)) x_7) ∨ (0:Int)<l.Rule.Count/\l.Rule.Count<=x_6)->b9 (x_6+1)/\b9 (x_8+1)/\(¬x_8+1<l.Rule.Count->(l.Rule.Count<=x_8+1 ∨ Err.nil≠Err.nil->Q Err.nil)/\(¬(l.Rule.Count<=x_8+1 ∨ Err.nil≠Err.nil)->Q (Err.w (87:Nat) [] (Err.no (5:Int)))))/\(¬¬x_8+1<l.Rule.Count->b9 (x_7+1)/\I_1 (x_6+1) (x_7+1) (x_8+1)/\m_1 (x_6+1) (x_7+1) (x_8+1)<m_1 x_6 x_7 x_8)))))/\(¬x_7<(↑(u4 l.start l.Rule l.day (Y8 l x_4)).length:Int)->b9 (x_4+1)/\I x_6 (x_4+1) x_8/\m x_6 (x_4+1) x_8<m x x_4 x_5)))))/\(¬(0:Int)<l.Rule.Count->Q (Err.w (87:Nat) [] (Err.no (5:Int))))))
set_option maxHeartbeats 2000000 in
theorem pfa (l:Lk) (to:Int) (hfw:w4 l.Rule=true) (hf:A0 l.start l.Rule=true):Vfa l to (fun y0=>y0=a33 (J3 l.start l.Rule l.day to)):=by
 unfold Vfa c1c a2p Y8
 simp only [P2]
 have hF:=G7.1 hf
 obtain ⟨s0,s1⟩:=v6 hF.rt
 obtain ⟨_,_,v0,v1,n0,n1,w0,w1⟩:=(m8.1 hF.rr).head
 obtain ⟨u1,u2⟩:=(m8.1 hF.rr).til
 obtain ⟨a0,a1⟩:=W0 (r:=l.Rule) s0 s1 w0 w1
 obtain ⟨fb,hfb⟩:∃ fb,J3 l.start l.Rule l.day to=fb:=⟨_,rfl⟩
 rw [hfb]
 unfold J3 at hfb
 have lt:∀ n i:Int,i<n->(n-(i+1)).toNat<(n-i).toNat:=fun n i h=>by omega
 generalize p4 l.Rule (j8 l.Rule (b8 l.start)+40000 * l.Rule.Interval)=b at *
 refine ⟨⟨s0,by omega,w0,w1⟩,⟨by omega,by omega⟩,⟨by omega,by omega⟩,by omega,by omega,w0,w1,fun h=>?_,fun h=>⟨fun x=>0<=x/\x<=(l.Rule.Until.length:Int)/\(0<x->¬ b8 (ix l.Rule.Until 0)<b),fun x=>((l.Rule.Until.length:Int)-x).toNat,⟨Int.le_refl 0,by omega,fun h=>absurd h (by decide)⟩,fun x hx=>⟨fun hlt=>⟨hx.1,hlt,fun _ _ _ _ _ _=>⟨fun hs=>?_,fun hs=>⟨⟨by omega,by omega⟩,⟨by omega,by omega,fun _=>?_⟩,lt _ _ hlt⟩⟩⟩,fun hge=>⟨fun hc=>?_,fun hc=>?_⟩⟩⟩⟩
 . rw [if_pos h] at hfb; rw [<- hfb]; rfl
 . have e:x=0:=by omega
   subst e
   rw [if_neg h,if_pos ⟨hlt,hs⟩] at hfb; rw [<- hfb]; rfl
 . have e:x=0:=by omega
   subst e; exact hs
 . have hnu:¬ (0<(l.Rule.Until.length:Int)/\b8 (ix l.Rule.Until 0)<b):=fun hh=>hx.2.2 (by omega) hh.2
   rw [if_neg h,if_neg hnu,if_pos hc] at hfb
   generalize hg:V8 (a1m l.Rule) [] (D8 l.start l.Rule l.day 0 b).1 (D8 l.start l.Rule l.day 0 b).2=g at hfb
   have R0:a2b (a1m l.Rule) g [] (D8 l.start l.Rule l.day 0 b).1 (D8 l.start l.Rule l.day 0 b).2:=⟨hg⟩
   clear hg
   unfold D8 at R0
   have ek:k0S l.start l.Rule 0=0:=by unfold k0S; rw [if_neg (fun hh=>absurd hh.1 (by omega))]
   rw [ek] at R0
   generalize b8 l.start=fi at *
   generalize j8 l.Rule fi=i0 at *
   have yes:∀ y:List Int,∀ t n:Int,(y.length:Int)=n->n+1<l.Rule.Count->a1m l.Rule y t=true:=fun y t n hn hh=>decide_eq_true (by rw [hn]; exact hh)
   have no:∀ y:List Int,∀ t n:Int,(y.length:Int)=n->¬ n+1<l.Rule.Count->¬ a1m l.Rule y t=true:=fun y t n hn hh e=>hh (by have:=of_decide_eq_true e; rw [hn] at this; exact this)
   have len1:∀ (y:List Int) (t n:Int),(y.length:Int)=n->((y++[t]).length:Int)=n+1:=fun y t n hn=>by rw [List.length_append,List.length_singleton]; omega
   refine ⟨fun n=>∃ y:List Int,(y.length:Int)=n/\n<=1/\a1j (a1m l.Rule) g l.start l.Rule l.day fi b (G0 l.Rule) i0 0 1 y,⟨fun hfst=>⟨by decide,fun hst=>?_,fun hgo=>?_⟩,fun hnf=>?_⟩,fun n hn=>⟨fun til x=>0<=x/\x<=(l.Rule.Until.length:Int)/\til=if 0<x then b8 (ix l.Rule.Until 0) else 315537897600,fun _ x=>((l.Rule.Until.length:Int)-x).toNat,⟨Int.le_refl 0,by omega,rfl⟩,fun til x hx=>⟨fun hlt=>⟨hx.1,hlt,fun _ _ _ _ _ _=>⟨⟨by omega,by omega⟩,⟨by omega,by omega,?_⟩,lt _ _ hlt⟩⟩,fun hge=>?_⟩⟩⟩
   . rw [if_pos hfst.1,List.cons_append,List.nil_append] at R0
     have e:=R0.stop (no [] fi 0 rfl hst)
     have q:=a4v hfb e (len1 [] fi 0 rfl)
     refine ⟨fun h1=>?_,fun h1=>absurd (.inl (by omega)) h1⟩
     rw [q.1 (by omega)]; rfl
   . rw [if_pos hfst.1,List.cons_append,List.nil_append] at R0
     exact ⟨[fi],rfl,by decide,⟨R0.go (yes [] fi 0 rfl (Classical.not_not.1 hgo))⟩⟩
   . rw [if_neg (fun hh=>hnf ⟨hh,s0⟩),List.nil_append] at R0
     exact ⟨[],rfl,by decide,⟨R0⟩⟩
   . have e:x=0:=by omega
     subst e; rfl
   . have etil:til=G0 l.Rule:=by
       rw [hx.2.2]
       unfold G0
       by_cases hl:0<(l.Rule.Until.length:Int)
       . rw [if_pos hl,if_pos (by omega)]
       . rw [if_neg hl,if_neg (by omega)]
     rw [etil]
     generalize G0 l.Rule=til at *
     refine ⟨s0,by omega,w0,w1,fun k=>k=0,⟨fun hh=>absurd hh.2 (by omega),fun _=>rfl⟩,fun k hk=>⟨fun c k n=>∃ y:List Int,(y.length:Int)=n/\n<=c/\1<=c/\c<=l.Rule.Count/\0<=k/\k<=40000/\a1j (a1m l.Rule) g l.start l.Rule l.day fi b til i0 k c y,fun _ k _=>(40001-k).toNat,?_,fun c k n hI=>?_⟩⟩
     . obtain ⟨y,h1,h2,h3⟩:=hn
       subst hk
       exact ⟨y,h1,h2,by decide,by omega,by decide,by decide,h3⟩
     . obtain ⟨y,hy,hnc,c0,c1,k0,k1,ho⟩:=hI
       obtain ⟨q0,q1⟩:=c06 hF.rr k0 k1
       refine ⟨⟨by omega,by omega⟩,⟨by omega,by omega⟩,by omega,by omega,w0,w1,fun he=>?_,fun he=>⟨fun h4=>?_,fun h4=>⟨hfw,hf,by omega,by omega,fun c' j n'=>∃ y:List Int,(y.length:Int)=n'/\n'<=c'/\1<=c'/\c'<=l.Rule.Count/\0<=j/\j<=((u4 l.start l.Rule l.day (i0+k * l.Rule.Interval)).length:Int)/\a1r (a1m l.Rule) g l.start l.Rule l.day fi b til i0 k c' ((u4 l.start l.Rule l.day (i0+k * l.Rule.Interval)).drop j.toNat) y,fun _ j _=>(((u4 l.start l.Rule l.day (i0+k * l.Rule.Interval)).length:Int)-j).toNat,⟨y,hy,hnc,c0,c1,Int.le_refl 0,by omega,by simpa using ho.enter he h4⟩,fun c' j n' hI'=>?_⟩⟩⟩
       . have q:=a4v hfb (ho.fin he) hy
         refine ⟨fun h1=>?_,fun h1=>?_⟩
         . rw [q.1 (h1.resolve_right fun hh=>hh rfl)]; rfl
         . rw [q.2.2 (fun hh=>h1 (.inl hh)) rfl]; rfl
       . have q:=a4v hfb (ho.many he h4) hy
         rw [q.2.1 rfl]
         exact ⟨fun _=>rfl,fun _=>rfl⟩
       . have hcl:=a0j (day:=l.day) (i:=i0+k * l.Rule.Interval) hF (by omega)
         obtain ⟨y,hy,hnc,c0,c1,j0,j1,hi⟩:=hI'
         generalize u4 l.start l.Rule l.day (i0+k * l.Rule.Interval)=L at *
         refine ⟨fun hj=>⟨j0,hj,fun _=>?_⟩,fun hj=>⟨⟨by omega,by omega⟩,⟨y,hy,hnc,c0,c1,by omega,by omega,?_⟩,by show (_:Int).toNat<(_:Int).toNat; omega⟩⟩
         . rw [I9 j0 hj] at hi
           refine ⟨fun hs=>⟨⟨by omega,by omega⟩,⟨y,hy,hnc,c0,c1,by omega,by omega,hi.skip hs⟩,lt _ _ hj⟩,fun hs=>⟨fun hb=>⟨⟨by omega,by omega⟩,⟨y,hy,hnc,c0,c1,by omega,by omega,hi.leave hs hb⟩,by show (_:Int).toNat<(_:Int).toNat; omega⟩,fun hb=>?_⟩⟩
           have hcc:¬ l.Rule.Count<=c':=fun e=>hb (.inr ⟨hc,e⟩)
           refine ⟨⟨by omega,by omega⟩,⟨by omega,by omega⟩,fun hst=>?_,fun hgo=>⟨⟨by omega,by omega⟩,⟨y++[ix L j],len1 y _ _ hy,by omega,by omega,by omega,by omega,by omega,(hi.one hs hb).1 (yes y _ _ hy (Classical.not_not.1 hgo))⟩,lt _ _ hj⟩⟩
           have q:=a4v hfb ((hi.one hs hb).2 (no y _ _ hy hst)) (len1 y _ _ hy)
           refine ⟨fun h1=>?_,fun h1=>absurd (.inl (by omega)) h1⟩
           rw [q.1 (by omega)]; rfl
         . rw [List.drop_eq_nil_of_le (by omega)] at hi
           exact hi.nil
 . have hnu:¬ (0<(l.Rule.Until.length:Int)/\b8 (ix l.Rule.Until 0)<b):=fun hh=>hx.2.2 (by omega) hh.2
   rw [if_neg h,if_neg hnu,if_neg hc] at hfb
   rw [<- hfb]; rfl
def cfa (a:List (SV U)) (nx:Nat):Option (CR U):=match a with | [.fel 85 [l] 0 0,.int .i64 to]=>some ⟨[w4 l.Rule=true,A0 l.start l.Rule=true],[],.err (a33 (J3 l.start l.Rule l.day to)),[]⟩ | _=>none
noncomputable def Nfa:Env:=d8t.addC 32 cfa
theorem d2y:j7 Nfa:=b0k.addC Tryz.call32 fun (args:List (SV U)) nx (c:CR U) (h:cfa args nx=some c) hp ho=>by
 unfold cfa at h
 split at h
 . rename_i l to
   cases h
   exact d5n (an:=d8r 32) b0k (j6 b0k o9 d8r 4) Tryz.func32 (k:=.err) (x:=a33 (J3 l.start l.Rule l.day to)) hp (kc (pfa l to ho.1 ho.2.1) (by kernel_rfl))
 . cases h
noncomputable def d9b:Env:=Nfa.addI 35 Tryz.f35
theorem a9w:j7 d9b:=d2y.addI Tryz.call35 Tryz.func35
end Go.Proofs.YtdjfeninmbpflaaGreat
end
section
namespace Go.Re
open Go Go.Wk Go.Wl Go.Rx
theorem b3u {s a:Tm} {y:List Int} {t:Int}:frA s a (y++[t])=if b8 a<=t then frA s a y++[atS t s] else frA s a y:=by
 rw [a4l]
 show frA s a y++(if b8 a<=t then [atS t s] else [])=_
 split
 . rfl
 . exact List.append_nil _
theorem b8c {s a:Tm} {y:List Int} {t:Int} (h:b8 a<=t):frA s a (y++[t])=frA s a y++[atS t s]:=by rw [b3u,if_pos h]
theorem c43 {s a:Tm} {y:List Int} {t:Int} (h:¬ b8 a<=t):frA s a (y++[t])=frA s a y:=by rw [b3u,if_neg h]
def b6o (s a:Tm):List Int->Int->Bool:=fun y t=>decide (((frA s a (y++[t])).length:Int)<=1000)
def c8a (s:Tm) (r:Rl) (a b:Tm):List Int×Bool:=V8 (b6o s a) [] (D8 s r (j9 s.Day) (b8 a) (b8 b)).1 (D8 s r (j9 s.Day) (b8 a) (b8 b)).2
def c9w (s a:Tm) (g:List Int×Bool):List Tm×Err:=if g.2=true then ([],.no 5) else if 1000<((frA s a g.1).length:Int) then ([],.no 16) else (frA s a g.1,.nil)
open Classical in
noncomputable def I5 (s:Tm) (r:Rl) (a b:Tm):List Tm×Err:=if b6w s r a b then ([],.no 2) else if J3 s r (j9 s.Day) (b8 b)=true then ([],.no 5) else c9w s a (c8a s r a b)
theorem a4f:(Err.w 87 [] (.no 5)).is 5:=by decide
theorem a3f:I0 (.w 87 [] (.no 5))=.no 5:=by unfold I0; rw [if_pos a4f]
theorem b11 {s a:Tm} {g:List Int×Bool} {px:List Tm×Err} {y:List Int} {e:Bool} (h:c9w s a g=px) (hg:g=(y,e)):(e=true->px=([],.no 5))/\(e=false->(1000<((frA s a y).length:Int)->px=([],.no 16))/\(¬ 1000<((frA s a y).length:Int)->px=(frA s a y,.nil))):=by
 subst hg
 unfold c9w at h
 refine ⟨fun he=>by rw [if_pos he] at h; exact h.symm,fun he=>⟨fun hl=>?_,fun hl=>?_⟩⟩
 . subst he; rw [if_neg Bool.false_ne_true,if_pos hl] at h; exact h.symm
 . subst he; rw [if_neg Bool.false_ne_true,if_neg hl] at h; exact h.symm
theorem b1h {d n:Int}:-(d.natAbs:Int)<=d.tdiv n/\d.tdiv n<=d.natAbs:=by
 have h2:(d.tdiv n).natAbs<=d.natAbs:=by rw [Int.natAbs_tdiv]; exact Nat.div_le_self _ _
 omega
theorem d0s {s:Tm} {r:Rl} {fr:Int} (hn:1<=r.Interval) (hd:∀ x,0<=x->x<315537897600->0<=j8 r x/\j8 r x<=315537897600) (hf:0<=fr) (hs:0<=b8 s/\b8 s<315537897600):0<=k0S s r fr/\0<=k0S s r fr * r.Interval/\k0S s r fr * r.Interval<=315537897600:=by
 unfold k0S
 split
 . obtain ⟨a0,a1⟩:=hd (b8 s) hs.1 hs.2
   obtain ⟨b0,b1⟩:=hd (min fr 315537897599) (by omega) (by omega)
   generalize j8 r (min fr 315537897599)=x at *
   generalize j8 r (b8 s)=z at *
   by_cases hz:(x-z).tdiv r.Interval-1<=0
   . rw [Int.max_eq_left hz]; simp
   . rw [Int.max_eq_right (by omega)]
     have hpos:0<=x-z:=by
      rcases Int.lt_or_le (x-z) 0 with h | h
      . exfalso
        have h2:(x-z).tdiv r.Interval<=0:=by
         have e:(x-z).tdiv r.Interval=-((z-x).tdiv r.Interval):=by rw [<- Int.neg_tdiv]; congr 1; omega
         have:0<=(z-x).tdiv r.Interval:=Int.tdiv_nonneg (by omega) (by omega)
         omega
        omega
      . exact h
     rw [Int.tdiv_eq_ediv_of_nonneg hpos] at *
     have h3:=Int.ediv_mul_le (x-z) (show r.Interval≠0 by omega)
     have h4:((x-z) / r.Interval-1) * r.Interval=(x-z) / r.Interval * r.Interval-r.Interval:=by rw [Int.sub_mul,Int.one_mul]
     have h5:0<=((x-z) / r.Interval-1) * r.Interval:=Int.mul_nonneg (by omega) (by omega)
     omega
 . simp
end Go.Re
end
section
namespace Go.Proofs.YtdjfeninmbpflaaGreat
open Go Go.Wk Go.Wl Go.Rx Go.Re 
attribute [local irreducible] m7
def d7c:Nat->Ann:=fun | 13=>⟨61,nn,nn⟩ | 34=>⟨171,fun | 16=>some ⟨[0,2,3,9,11,14],[.slot 10 (.int .i64),.slot 15 (.int .i64),.own 2000003 [.acc 25]]⟩ | 23=>some ⟨[0,2,3,9,11,14,15,130,131],[.slot 10 (.int .i64),.slot 132 (.int .i64),.own 2000003 [.acc 25]]⟩ | 7=>some ⟨[0,1,2,3,9,10,42,43],[.slot 11 (.int .i64),.slot 44 (.int .i64)]⟩ | _=>none,fun | 5=>some ⟨[0,1,2,3,9,10],[.own 2000003 [.acc 25]]⟩ | 16=>some ⟨[0,2,3,9,10,11,14],[.slot 15 (.int .i64)]⟩ | _=>none⟩ | 35=>⟨18,nn,nn⟩ | _=>⟨0,nn,nn⟩
def P8 (s:Tm) (r:Rl) (x_4:Int):=u4 (etT s) (etR r) (j9 (etD s.Day)) (j8 (etR r) (b8 (etT (etT s)))+x_4 * r.Interval)
def c0o (r:Rl) (a:Tm) (s:Tm):=j8 (etR r) (bif false then max (b8 (etT a)) (315537897599:Int) else min (b8 (etT a)) (315537897599:Int))-j8 (etR r) (b8 (etT (etT s)))
def Vex (s:Tm) (r:Rl) (a:Tm) (b:Tm) (Q:List Tm->Err->Prop):Prop :=
w4 (etR r)=true/\((¬A0 (etT s) (etR r)=true ∨ ¬n7 (etT a)=true) ∨ ¬n7 (etT b)=true->Q [] (Err.no (2:Int)))/\(¬((¬A0 (etT s) (etR r)=true ∨ ¬n7 (etT a)=true) ∨ ¬n7 (etT b)=true)->w4 (etR r)=true/\A0 (etT s) (etR r)=true/\(a33 (J3 (etT s) (etR r) (j9 (etD s.Day)) (b8 (etT b)))≠Err.nil->((a33 (J3 (etT s) (etR r) (j9 (etD s.Day)) (b8 (etT b)))).is (5:Int) ∨ a33 (J3 (etT s) (etR r) (j9 (etD s.Day)) (b8 (etT b)))=Err.nil)/\Q [] (I0 (a33 (J3 (etT s) (etR r) (j9 (etD s.Day)) (b8 (etT b))))))/\(¬a33 (J3 (etT s) (etR r) (j9 (etD s.Day)) (b8 (etT b)))≠Err.nil->∃ (J:List Tm->Prop),((b8 (etT (etT s))<b8 (etT b)/\(0:Int)<=b8 (etT (etT s))->(b8 (etT a)<=b8 (etT (etT s))->b8 (etT (etT s))<=9000000000000000000/\[etT (atS (b8 (etT (etT s))) (etT s))].length * (some (56:Nat)).getD (0:Nat)<=140737488355328/\(¬(↑[etT (atS (b8 (etT (etT s))) (etT s))].length:Int)<=1000->(Err.nil≠Err.nil->(Err.nil.is (5:Int) ∨ Err.nil=Err.nil)/\Q [] (I0 Err.nil))/\(¬Err.nil≠Err.nil->((1000:Int)<(↑[etT (atS (b8 (etT (etT s))) (etT s))].length:Int)->Q [] (Err.no (16:Int)))/\(¬(1000:Int)<(↑[etT (atS (b8 (etT (etT s))) (etT s))].length:Int)->Q [etT (atS (b8 (etT (etT s))) (etT s))] Err.nil)))/\(¬¬(↑[etT (atS (b8 (etT (etT s))) (etT s))].length:Int)<=1000->J [etT (atS (b8 (etT (etT s))) (etT s))]))/\(¬b8 (etT a)<=b8 (etT (etT s))->(¬(0:Int)<=1000->(Err.nil≠Err.nil->(Err.nil.is (5:Int) ∨ Err.nil=Err.nil)/\Q [] (I0 Err.nil))/\(¬Err.nil≠Err.nil->((1000:Int)<0->Q [] (Err.no (16:Int)))/\(¬(1000:Int)<0->Q [] Err.nil)))/\(¬¬(0:Int)<=1000->J [])))/\(¬(b8 (etT (etT s))<b8 (etT b)/\(0:Int)<=b8 (etT (etT s)))->J []))/\∀ (x:List Tm),J x->∃ (I:Int->Int->Prop),∃ (m:Int->Int->Nat),I (315537897600:Int) (0:Int)/\∀ (x_1 x_2:Int),I x_1 x_2->(x_2<(↑r.Until.length:Int)->(0:Int)<=x_2/\x_2<(↑r.Until.length:Int)/\(b9 (ix r.Until x_2).Day.Year->b9 (ix r.Until x_2).Day.Month->b9 (ix r.Until x_2).Day.Date->b9 (ix r.Until x_2).Hour->b9 (ix r.Until x_2).Min->b9 (ix r.Until x_2).Sec->b9 (x_2+1)/\I (b8 (etT (ix r.Until x_2))) (x_2+1)/\m (b8 (etT (ix r.Until x_2))) (x_2+1)<m x_1 x_2))/\(¬x_2<(↑r.Until.length:Int)->(0:Int)<=b8 (etT (etT s))/\b8 (etT (etT s))<=400000000000/\(0:Int)<=r.Wkst/\r.Wkst<=6/\∃ (J:Int->Prop),((r.Count=0/\b8 (etT (etT s))<b8 (etT a)->(((0:Int)<=bif false then max (b8 (etT a)) (315537897599:Int) else min (b8 (etT a)) (315537897599:Int))/\(bif false then max (b8 (etT a)) (315537897599:Int) else min (b8 (etT a)) (315537897599:Int))<=400000000000/\(0:Int)<=r.Wkst/\r.Wkst<=6)/\b9 (c0o r a s)/\(r.Interval≠0/\b9 ((c0o r a s).tdiv r.Interval))/\b9 ((c0o r a s).tdiv r.Interval-1)/\J (bif true then max (0:Int) ((c0o r a s).tdiv r.Interval-1) else min (0:Int) ((c0o r a s).tdiv r.Interval-1)))/\(¬(r.Count=0/\b8 (etT (etT s))<b8 (etT a))->J (0:Int)))/\∀ (x_3:Int),J x_3->∃ (I:Int->Int->List Tm->Prop),∃ (m:Int->Int->List Tm->Nat),I (1:Int) x_3 x/\∀ (x x_4:Int) (x_5:List Tm),I x x_4 x_5->b9 (x_4 * r.Interval)/\b9 (j8 (etR r) (b8 (etT (etT s)))+x_4 * r.Interval)/\(0:Int)<=j8 (etR r) (b8 (etT (etT s)))+x_4 * r.Interval/\j8 (etR r) (b8 (etT (etT s)))+x_4 * r.Interval<=1000000000000/\(0:Int)<=r.Wkst/\r.Wkst<=6/\(((b8 (etT b)<=p4 (etR r) (j8 (etR r) (b8 (etT (etT s)))+x_4 * r.Interval) ∨ x_1<p4 (etR r) (j8 (etR r) (b8 (etT (etT s)))+x_4 * r.Interval)) ∨ (0:Int)<r.Count/\r.Count<=x) ∨ (315537897600:Int)<=p4 (etR r) (j8 (etR r) (b8 (etT (etT s)))+x_4 * r.Interval)->(Err.nil≠Err.nil->(Err.nil.is (5:Int) ∨ Err.nil=Err.nil)/\Q [] (I0 Err.nil))/\(¬Err.nil≠Err.nil->((1000:Int)<(↑x_5.length:Int)->Q [] (Err.no (16:Int)))/\(¬(1000:Int)<(↑x_5.length:Int)->Q x_5 Err.nil)))/\(¬(((b8 (etT b)<=p4 (etR r) (j8 (etR r) (b8 (etT (etT s)))+x_4 * r.Interval) ∨ x_1<p4 (etR r) (j8 (etR r) (b8 (etT (etT s)))+x_4 * r.Interval)) ∨ (0:Int)<r.Count/\r.Count<=x) ∨ (315537897600:Int)<=p4 (etR r) (j8 (etR r) (b8 (etT (etT s)))+x_4 * r.Interval))->((40000:Int)<=x_4->(Err.w (87:Nat) [] (Err.no (5:Int))≠Err.nil->((Err.w (87:Nat) [] (Err.no (5:Int))).is (5:Int) ∨ Err.w (87:Nat) [] (Err.no (5:Int))=Err.nil)/\Q [] (I0 (Err.w (87:Nat) [] (Err.no (5:Int)))))/\(¬Err.w (87:Nat) [] (Err.no (5:Int))≠Err.nil->((1000:Int)<(↑x_5.length:Int)->Q [] (Err.no (16:Int)))/\(¬(1000:Int)<(↑x_5.length:Int)->Q x_5 Err.nil)))/\(¬(40000:Int)<=x_4->w4 (etR r)=true/\A0 (etT s) (etR r)=true/\(0:Int)<=j8 (etR r) (b8 (etT (etT s)))+x_4 * r.Interval/\j8 (etR r) (b8 (etT (etT s)))+x_4 * r.Interval<=999999999999/\∃ (I_1:Int->Int->List Tm->Prop),∃ (m_1:Int->Int->List Tm->Nat),I_1 x (0:Int) x_5/\∀ (x_6 x_7:Int) (x_8:List Tm),I_1 x_6 x_7 x_8->(x_7<(↑(P8 s r x_4).length:Int)->(0:Int)<=x_7/\x_7<(↑(P8 s r x_4).length:Int)/\(b9 (ix (P8 s r x_4) x_7)->(ix (P8 s r x_4) x_7<=b8 (etT (etT s))->b9 (x_7+1)/\I_1 x_6 (x_7+1) x_8/\m_1 x_6 (x_7+1) x_8<m_1 x_6 x_7 x_8)/\(¬ix (P8 s r x_4) x_7<=b8 (etT (etT s))->((b8 (etT b)<=ix (P8 s r x_4) x_7 ∨ x_1<ix (P8 s r x_4) x_7) ∨ (0:Int)<r.Count/\r.Count<=x_6->b9 (x_4+1)/\I x_6 (x_4+1) x_8/\m x_6 (x_4+1) x_8<m x x_4 x_5)/\(¬((b8 (etT b)<=ix (P8 s r x_4) x_7 ∨ x_1<ix (P8 s r x_4) x_7) ∨ (0:Int)<r.Count/\r.Count<=x_6)->b9 (x_6+1)/\(b8 (etT a)<=ix (P8 s r x_4) x_7->ix (P8 s r x_4) x_7<=9000000000000000000/\(x_8.length+[etT (atS (ix (P8 s r x_4) x_7) (etT s))].length) * (some (56:Nat)).getD (0:Nat)<=140737488355328/\(¬(↑(x_8++[etT (atS (ix (P8 s r x_4) x_7) (etT s))]).length:Int)<=1000->(Err.nil≠Err.nil->(Err.nil.is (5:Int) ∨ Err.nil=Err.nil)/\Q [] (I0 Err.nil))/\(¬Err.nil≠Err.nil->((1000:Int)<(↑(x_8++[etT (atS (ix (P8 s r x_4) x_7) (etT s))]).length:Int)->Q [] (Err.no (16:Int)))/\(¬(1000:Int)<(↑(x_8++[etT (atS (ix (P8 s r x_4) x_7) (etT s))]).length:Int)->Q (x_8++[etT (atS (ix (P8 s r x_4) x_7) (etT s))]) Err.nil)))/\(¬¬(↑(x_8++[etT (atS (ix (P8 s r x_4) x_7) (etT s))]).length:Int)<=1000->b9 (x_7+1)/\I_1 (x_6+1) (x_7+1) (x_8++[etT (atS (ix (P8 s r x_4) x_7) (etT s))])/\m_1 (x_6+1) (x_7+1) (x_8++[etT (atS (ix (P8 s r x_4) x_7) (etT s))])<m_1 x_6 x_7 x_8))/\(¬b8 (etT a)<=ix (P8 s r x_4) x_7->(¬(↑x_8.length:Int)<=1000->(Err.nil≠Err.nil->(Err.nil.is (5:Int) ∨ Err.nil=Err.nil)/\Q [] (I0 Err.nil))/\(¬Err.nil≠Err.nil->((1000:Int)<(↑x_8.length:Int)->Q [] (Err.no (16:Int)))/\(¬(1000:Int)<(↑x_8.length:Int)->Q x_8 Err.nil)))/\(¬¬(↑x_8.length:Int)<=1000->b9 (x_7+1)/\I_1 (x_6+1) (x_7+1) x_8/\m_1 (x_6+1) (x_7+1) x_8<m_1 x_6 x_7 x_8))))))/\(¬x_7<(↑(P8 s r x_4).length:Int)->b9 (x_4+1)/\I x_6 (x_4+1) x_8/\m x_6 (x_4+1) x_8<m x x_4 x_5))))))
set_option maxHeartbeats 2000000 in
theorem pex (s:Tm) (r:Rl) (a:Tm) (b:Tm) (hfw:w4 r=true):Vex s r a b (fun y0 y1=>y0=(I5 s r a b).1/\y1=(I5 s r a b).2):=by
 unfold Vex c0o P8
 simp only [P2,V9,a0a]
 refine ⟨hfw,fun h=>?_,fun h=>?_⟩
 . unfold I5
   rw [if_pos (show b6w s r a b from h)]; exact ⟨rfl,rfl⟩
 have hnb:¬ b6w s r a b:=h
 have hf:A0 s r=true:=Classical.not_not.1 fun e=>h (.inl (.inl e))
 have ha:n7 a=true:=Classical.not_not.1 fun e=>h (.inl (.inr e))
 have hb:n7 b=true:=Classical.not_not.1 fun e=>h (.inr e)
 have hF:=G7.1 hf
 obtain ⟨px,hpx⟩:∃ p,I5 s r a b=p:=⟨_,rfl⟩
 rw [hpx]
 unfold I5 at hpx
 rw [if_neg hnb] at hpx
 obtain ⟨fb,hfb⟩:∃ fb,J3 s r (j9 s.Day) (b8 b)=fb:=⟨_,rfl⟩
 rw [hfb] at hpx ⊢
 refine ⟨hfw,hf,fun he=>?_,fun he=>?_⟩
 . cases fb with
   | false=>exact absurd rfl he
   | true =>
    rw [if_pos rfl] at hpx
    rw [<- hpx]
    exact ⟨.inl a4f,rfl,a3f⟩
 cases fb with
 | true=>exact absurd (fun e=>by cases e) he
 | false =>
 rw [if_neg Bool.false_ne_true] at hpx
 obtain ⟨s0,s1⟩:=v6 hF.rt
 obtain ⟨g0,g1⟩:=v6 ha
 obtain ⟨d0,d1⟩:=v6 hb
 obtain ⟨_,_,v0,v1,n0,n1,w0,w1⟩:=(m8.1 hF.rr).head
 obtain ⟨u1,u2⟩:=(m8.1 hF.rr).til
 have hix:∀ x,0<=x->x<315537897600->0<=j8 r x/\j8 r x<=315537897600:=fun x x0 x1=>W0 x0 x1 w0 w1
 obtain ⟨z0,z1,z2⟩:=d0s (s:=s) v0 hix g0 ⟨s0,s1⟩
 obtain ⟨a0,a1⟩:=hix _ s0 s1
 obtain ⟨b0,b1⟩:=hix (min (b8 a) 315537897599) (by omega) (by omega)
 have lt:∀ n i:Int,i<n->(n-(i+1)).toNat<(n-i).toNat:=fun n i h=>by omega
 generalize hg:c8a s r a b=g at hpx
 unfold c8a at hg
 have R0:a2b (b6o s a) g [] (D8 s r (j9 s.Day) (b8 a) (b8 b)).1 (D8 s r (j9 s.Day) (b8 a) (b8 b)).2:=⟨hg⟩
 clear hg
 unfold D8 at R0
 have e1:∀ x y:Int,(bif false then max x y else min x y)=min x y:=fun _ _=>rfl
 have e2:∀ x y:Int,(bif true then max x y else min x y)=max x y:=fun _ _=>rfl
 simp only [e1,e2]
 have hk0:∀ p:Prop,(r.Count=0/\b8 s<b8 a->k0S s r (b8 a)=max 0 ((j8 r (min (b8 a) 315537897599)-j8 r (b8 s)).tdiv r.Interval-1))/\(¬ (r.Count=0/\b8 s<b8 a)->k0S s r (b8 a)=0):=fun _=>⟨fun hh=>if_pos hh,fun hh=>if_neg hh⟩
 have hk0:=hk0 True
 generalize k0S s r (b8 a)=kz at *
 obtain ⟨t0,t1⟩:=b1h (d:=j8 r (min (b8 a) 315537897599)-j8 r (b8 s)) (n:=r.Interval)
 generalize (j8 r (min (b8 a) 315537897599)-j8 r (b8 s)).tdiv r.Interval=td at *
 generalize j8 r (min (b8 a) 315537897599)=ia at *
 generalize hfi:b8 s=fi at *
 generalize j8 r fi=i0 at *
 generalize b8 b=to at *
 have yes:∀ (y:List Int) (t:Int),((frA s a (y++[t])).length:Int)<=1000->b6o s a y t=true:=fun y t hh=>decide_eq_true hh
 have no:∀ (y:List Int) (t:Int),¬ ((frA s a (y++[t])).length:Int)<=1000->¬ b6o s a y t=true:=fun y t hh e=>hh (of_decide_eq_true e)
 refine ⟨fun out=>∃ y,out=frA s a y/\(out.length:Int)<=1/\a1j (b6o s a) g s r (j9 s.Day) fi to (G0 r) i0 kz 1 y,⟨fun hfst=>⟨fun hs=>⟨by omega,by show 1 * 56<=140737488355328; decide,fun hst=>absurd (show ((1:Nat):Int)<=1000 by decide) hst,fun _=>?_⟩,fun hs=>⟨fun hst=>absurd (by decide) hst,fun _=>?_⟩⟩,fun hnf=>?_⟩,fun out hn=>⟨fun til x=>0<=x/\x<=(r.Until.length:Int)/\til=if 0<x then b8 (ix r.Until 0) else 315537897600,fun _ x=>((r.Until.length:Int)-x).toNat,⟨Int.le_refl 0,by omega,rfl⟩,fun til x hx=>⟨fun hlt=>⟨hx.1,hlt,fun _ _ _ _ _ _=>⟨⟨by omega,by omega⟩,⟨by omega,by omega,?_⟩,lt _ _ hlt⟩⟩,fun hge=>?_⟩⟩⟩
 . rw [if_pos hfst.1,List.cons_append,List.nil_append] at R0
   have e:=b8c (s:=s) (y:=[]) hs
   exact ⟨[fi],e.symm,(show ((1:Nat):Int)<=1 by decide),⟨R0.go (yes [] fi (by rw [e]; show ((1:Nat):Int)<=1000; decide))⟩⟩
 . rw [if_pos hfst.1,List.cons_append,List.nil_append] at R0
   have e:=c43 (s:=s) (y:=[]) hs
   exact ⟨[fi],e.symm,(show ((0:Nat):Int)<=1 by decide),⟨R0.go (yes [] fi (by rw [e]; show ((0:Nat):Int)<=1000; decide))⟩⟩
 . rw [if_neg (fun hh=>hnf ⟨hh,s0⟩),List.nil_append] at R0
   exact ⟨[],rfl,by decide,⟨R0⟩⟩
 . have e:x=0:=by omega
   subst e; rfl
 . have etil:til=G0 r:=by
     rw [hx.2.2]
     unfold G0
     by_cases hl:0<(r.Until.length:Int)
     . rw [if_pos hl,if_pos (by omega)]
     . rw [if_neg hl,if_neg (by omega)]
   rw [etil]
   generalize G0 r=til at *
   refine ⟨s0,by omega,w0,w1,fun k=>k=kz,⟨fun hh=>⟨⟨by omega,by omega,w0,w1⟩,⟨by omega,by omega⟩,⟨by omega,by omega,by omega⟩,⟨by omega,by omega⟩,(hk0.1 hh).symm⟩,fun hh=>(hk0.2 hh).symm⟩,fun k hk=>⟨fun c k out=>∃ y,out=frA s a y/\(out.length:Int)<=1000/\1<=c/\c<=1+k * 1000000000000/\0<=k/\0<=k * r.Interval/\k * r.Interval<=400000000000/\a1j (b6o s a) g s r (j9 s.Day) fi to til i0 k c y,fun _ k _=>(40001-k).toNat,?_,fun c k out hI=>?_⟩⟩
   . obtain ⟨y,h1,h2,h3⟩:=hn
     subst hk
     exact ⟨y,h1,by omega,by decide,by omega,z0,z1,by omega,h3⟩
   . obtain ⟨y,hy,ol,c0,c1,k0,k1,k2,ho⟩:=hI
     refine ⟨⟨by omega,by omega⟩,⟨by omega,by omega⟩,by omega,by omega,w0,w1,fun he=>?_,fun he=>⟨fun h4=>?_,fun h4=>⟨hfw,hf,by omega,by omega,fun c' j out'=>∃ y,out'=frA s a y/\(out'.length:Int)<=1000/\1<=c'/\c'<=1+k * 1000000000000+j/\0<=j/\j<=((u4 s r (j9 s.Day) (i0+k * r.Interval)).length:Int)/\a1r (b6o s a) g s r (j9 s.Day) fi to til i0 k c' ((u4 s r (j9 s.Day) (i0+k * r.Interval)).drop j.toNat) y,fun _ j _=>(((u4 s r (j9 s.Day) (i0+k * r.Interval)).length:Int)-j).toNat,⟨y,hy,ol,c0,by omega,Int.le_refl 0,by omega,by simpa using ho.enter he h4⟩,fun c' j out' hI'=>?_⟩⟩⟩
     . have q:=(b11 hpx (ho.fin he)).2 rfl
       refine ⟨fun hh=>absurd rfl hh,fun _=>⟨fun hl=>absurd hl (by omega),fun hl=>?_⟩⟩
       rw [q.2 (by rw [<- hy]; omega),hy]; exact ⟨rfl,rfl⟩
     . have q:=(b11 hpx (ho.many he h4)).1 rfl
       rw [q]
       exact ⟨fun _=>⟨.inl a4f,rfl,a3f⟩,fun hh=>absurd (fun e=>by cases e) hh⟩
     . have hcl:=a0j (day:=j9 s.Day) (i:=i0+k * r.Interval) hF (by omega)
       obtain ⟨q0,q1⟩:=c06 hF.rr (k:=k+1) (by omega) (by omega)
       obtain ⟨y,hy,ol,c0,c1,j0,j1,hi⟩:=hI'
       generalize u4 s r (j9 s.Day) (i0+k * r.Interval)=L at *
       refine ⟨fun hj=>⟨j0,hj,fun _=>?_⟩,fun hj=>⟨⟨by omega,by omega⟩,⟨y,hy,ol,c0,by omega,by omega,q0,by omega,?_⟩,by show (_:Int).toNat<(_:Int).toNat; omega⟩⟩
       . rw [I9 j0 hj] at hi
         refine ⟨fun hs=>⟨⟨by omega,by omega⟩,⟨y,hy,ol,c0,by omega,by omega,by omega,hi.skip hs⟩,lt _ _ hj⟩,fun hs=>⟨fun hb=>⟨⟨by omega,by omega⟩,⟨y,hy,ol,c0,by omega,by omega,q0,by omega,hi.leave hs hb⟩,by show (_:Int).toNat<(_:Int).toNat; omega⟩,fun hb=>?_⟩⟩
         have hbt:ix L j<to:=by
          rcases Int.lt_or_le (ix L j) to with hh | hh
          . exact hh
          . exact absurd (.inl (.inl hh)) hb
         refine ⟨⟨by omega,by omega⟩,fun hsa=>?_,fun hsa=>?_⟩
         . have e:=b8c (s:=s) (y:=y) hsa
           rw [<- hy] at e
           refine ⟨by omega,?_,fun hst=>?_,fun hgo=>⟨⟨by omega,by omega⟩,⟨y++[ix L j],e.symm,by omega,by omega,by omega,by omega,by omega,(hi.one hs hb).1 (yes y _ (by rw [e]; omega))⟩,lt _ _ hj⟩⟩
           . show (out'.length+1) * 56<=140737488355328
             omega
           . have q:=(b11 hpx ((hi.one hs hb).2 (no y _ (by rw [e]; exact hst)))).2 rfl
             rw [e] at q
             refine ⟨fun hh=>absurd rfl hh,fun _=>⟨fun hl=>?_,fun hl=>?_⟩⟩
             . rw [q.1 hl]; exact ⟨rfl,rfl⟩
             . rw [q.2 hl]; exact ⟨rfl,rfl⟩
         . have e:=c43 (s:=s) (y:=y) hsa
           rw [<- hy] at e
           exact ⟨fun hst=>absurd ol hst,fun hgo=>⟨⟨by omega,by omega⟩,⟨y++[ix L j],e.symm,ol,by omega,by omega,by omega,by omega,(hi.one hs hb).1 (yes y _ (by rw [e]; exact ol))⟩,lt _ _ hj⟩⟩
       . rw [List.drop_eq_nil_of_le (by omega)] at hi
         exact hi.nil
noncomputable def e2q (s:Tm) (r:Rl) (a:Tm) (b:Tm) (nx:Nat):CR U:=⟨[w4 r=true],[],.tup [.acc nx,.err ((I5 s r a b).2)],[.ac 25 ((I5 s r a b).1)]⟩
noncomputable def cex (a:List (SV U)) (nx:Nat):Option (CR U):=match a with | [.agg l_s,.agg l_r,.agg l_a,.agg l_b]=>(y25.bk (.agg l_s)).bind fun s=>(y30.bk (.agg l_r)).bind fun r=>(y25.bk (.agg l_a)).bind fun a=>(y25.bk (.agg l_b)).bind fun b=>some (e2q s r a b nx) | _=>none
noncomputable def Nex:Env:=d9b.addC 13 cex
theorem b4n:j7 Nex:=a9w.addC Tryz.call13 fun (args:List (SV U)) nx (c:CR U) (h:cex args nx=some c) hp ho=>by
 unfold cex at h
 split at h
 . rename_i l_s l_r l_a l_b
   obtain ⟨s,hb_s,h⟩:=Option.bind_eq_some_iff.1 h
   obtain ⟨r,hb_r,h⟩:=Option.bind_eq_some_iff.1 h
   obtain ⟨a,hb_a,h⟩:=Option.bind_eq_some_iff.1 h
   obtain ⟨b,hb_b,h⟩:=Option.bind_eq_some_iff.1 h
   cases h
   exact E2.weak (b:=[.agg [.int .i64 s.Day.Year,.int .i64 s.Day.Month,.int .i64 s.Day.Date,.int .i64 s.Hour,.int .i64 s.Min,.int .i64 s.Sec,blB s.Bare,blB s.UTC],.agg [.int .i64 r.Freq,.int .i64 r.Interval,.int .i64 r.Count,.sl (N:=U) 25 r.Until,.sl (N:=U) 3 r.Month,.sl (N:=U) 3 r.WeekNo,.sl (N:=U) 3 r.YearDay,.sl (N:=U) 3 r.MonthDay,.sl (N:=U) 60 r.Days,.sl (N:=U) 3 r.Hour,.sl (N:=U) 3 r.Minute,.sl (N:=U) 3 r.Second,.sl (N:=U) 3 r.SetPos,.int .i64 r.Wkst],.agg [.int .i64 a.Day.Year,.int .i64 a.Day.Month,.int .i64 a.Day.Date,.int .i64 a.Hour,.int .i64 a.Min,.int .i64 a.Sec,blB a.Bare,blB a.UTC],.agg [.int .i64 b.Day.Year,.int .i64 b.Day.Month,.int .i64 b.Day.Date,.int .i64 b.Hour,.int .i64 b.Min,.int .i64 b.Sec,blB b.Bare,blB b.UTC]]) (c7d (an:=d7c 13) a9w (j6 a9w o9 d7c 4) Tryz.func13 (k1:=.acc 25) (k2:=.err) rfl rfl (kc (pex s r a b ho.1) (by kernel_rfl))) fun ρ Z w v hr=>q9 [.agg l_s,.agg l_r,.agg l_a,.agg l_b] [.agg [.int .i64 s.Day.Year,.int .i64 s.Day.Month,.int .i64 s.Day.Date,.int .i64 s.Hour,.int .i64 s.Min,.int .i64 s.Sec,blB s.Bare,blB s.UTC],.agg [.int .i64 r.Freq,.int .i64 r.Interval,.int .i64 r.Count,.sl (N:=U) 25 r.Until,.sl (N:=U) 3 r.Month,.sl (N:=U) 3 r.WeekNo,.sl (N:=U) 3 r.YearDay,.sl (N:=U) 3 r.MonthDay,.sl (N:=U) 60 r.Days,.sl (N:=U) 3 r.Hour,.sl (N:=U) 3 r.Minute,.sl (N:=U) 3 r.Second,.sl (N:=U) 3 r.SetPos,.int .i64 r.Wkst],.agg [.int .i64 a.Day.Year,.int .i64 a.Day.Month,.int .i64 a.Day.Date,.int .i64 a.Hour,.int .i64 a.Min,.int .i64 a.Sec,blB a.Bare,blB a.UTC],.agg [.int .i64 b.Day.Year,.int .i64 b.Day.Month,.int .i64 b.Day.Date,.int .i64 b.Hour,.int .i64 b.Min,.int .i64 b.Sec,blB b.Bare,blB b.UTC]] _ ⟨fun _ h=>o7 hb_s h,fun _ h=>s9 hb_r h,fun _ h=>o7 hb_a h,fun _ h=>o7 hb_b h,trivial⟩ hr
 . cases h
def e19:Nat->Ann:=fun | 16=>⟨15,fun | 4=>some ⟨[0],[.slot 3 (.int .i64)]⟩ | _=>none,nn⟩ | _=>⟨0,nn,nn⟩
def Vno (e:Err) (Q:Int->Prop):Prop :=
(e=Err.nil->Q (0:Int))/\(¬e=Err.nil->∃ (I:Int->Prop),∃ (m:Int->Nat),I (1:Int)/\∀ (x:Int),I x->(x<=16->(e.is x->Q x)/\(¬e.is x->b9 (x+1)/\I (x+1)/\m (x+1)<m x))/\(¬x<=16->Q (-1:Int)))
theorem b2v {e:Err} {n:Int} (h:¬ e=.nil) (hn:e.num=some n):e.nr=if 1<=n/\n<=16 then n else -1:=by
 cases e with
 | nil=>exact absurd rfl h
 | _=>unfold Err.nr; simp only [hn]
theorem c7a {e:Err} (h:¬ e=.nil) (hn:e.num=none):e.nr=-1:=by
 cases e with
 | nil=>exact absurd rfl h
 | _=>unfold Err.nr; simp only [hn]
theorem pno (e:Err)  : Vno e (fun y0=>y0=e.nr):=by
 unfold Vno
 refine ⟨fun h=>by subst h; rfl,fun h=>⟨fun x=>1<=x/\x<=17/\∀ j:Int,1<=j->j<x->¬ e.is j,fun x=>(17-x).toNat,⟨by omega,by omega,fun j _ _=>by omega⟩,?_⟩⟩
 rintro x ⟨h0,h1,h2⟩
 refine ⟨fun hx=>⟨fun hi=>?_,fun hi=>⟨⟨by omega,by omega⟩,⟨by omega,by omega,fun j j0 j1=>?_⟩,by dsimp only; omega⟩⟩,fun hx=>?_⟩
 . have hi:e.num=some x:=hi
   rw [b2v h hi,if_pos ⟨h0,hx⟩]
 . by_cases e1:j=x
   . subst e1; exact hi
   . exact h2 j j0 (by omega)
 . cases hn:e.num with
   | none=>rw [c7a h hn]
   | some n=>rw [b2v h hn,if_neg (fun hh=>h2 n hh.1 (by omega) hn)]
def cno (a:List (SV U)):Option (Q1 U):=match a with | [.err e]=>some ⟨[],[],.int .i64 e.nr⟩ | _=>none
noncomputable def Nno:Env:=Nex.addL 16 cno
theorem b4y:j7 Nno:=b4n.addL Tryz.call16 fun (args:List (SV U)) (q:Q1 U) (h:cno args=some q) ho=>by
 unfold cno at h
 split at h
 . rename_i e
   cases h
   exact q8 (an:=e19 16) b4n (j6 b4n o9 e19 2) Tryz.func16 (k:=.int .i64) (x:=e.nr) trivial (kc (pno e ) (by kernel_rfl)) 0
 . cases h
end Go.Proofs.YtdjfeninmbpflaaGreat
end
section
namespace Go.Re
open Go Go.Wk Go.Wl Go.Rx
def dyS (y m d:Int):Tm:=⟨⟨y,m,d⟩,0,0,0,true,false⟩
instance (r:Rl):Decidable (b36 r):=by unfold b36; infer_instance
instance (r:Rl):Decidable (b2w r):=by unfold b2w; infer_instance
instance (r:Rl):Decidable (c0a r):=by unfold c0a; infer_instance
instance (m:Int) (d:Nt):Decidable (c5c m d):=by unfold c5c; infer_instance
instance (a b:Nt):Decidable (a15 a b):=by unfold a15; infer_instance
def a7m:Rl:=Rl.mk 1 1 0 [] [] [] [] [] [Nt.mk (-1) 4] [] [] [] [] 0
def Y1 (w:Int):Rl:=Rl.mk 2 2 0 [] [] [] [] [] [Nt.mk 0 1,Nt.mk 0 6] [] [] [] [] w
theorem M4 {lo hi:Int} {b:Bool}:M5 [] lo hi b:=⟨fun i h0 h1=>absurd h1 (by simp; omega),fun i h0 h1=>absurd h1 (by simp; omega),by decide⟩
theorem a86 {f i c:Int} {u:List Tm} {d:List Nt} {w:Int}:b07 (Rl.mk f i c u [] [] [] [] d [] [] [] [] w):=⟨M4,M4,M4,M4,M4,M4,M4,M4⟩
theorem d05:p9 (dyS 1997 1 31) a7m:=by
 refine ⟨by decide,m8.2 ⟨by decide,⟨by decide,fun h=>absurd h (by decide)⟩,a86,by decide,⟨fun i h0 h1=>?_,fun i h0 h1=>?_⟩,by decide,by decide⟩,fun h=>absurd h (by decide),fun _=>by decide⟩
 . have h1:i<1:=h1
   have:i=0:=by omega
   subst this; decide
 . have h1:i<1:=h1
   omega
theorem b9g {w:Int} (hw:w=0 ∨ w=6):p9 (dyS 1997 8 5) (Y1 w):=by
 have h2:A6 (Y1 w)=true:=by
  refine m8.2 ⟨?_,⟨by show (0:Int)<=1; decide,fun h=>absurd h (by show ¬ (0:Int)=1; decide)⟩,a86,by show (2:Int)<=24; decide,⟨fun i h0 h1=>?_,fun i h0 h1=>?_⟩,?_,?_⟩
  . rcases hw with rfl | rfl <;> decide
  . have h1:i<2:=h1
    have:i=0 ∨ i=1:=by omega
    rcases this with rfl | rfl <;> (rcases hw with rfl | rfl <;> decide)
  . have h1:i<2:=h1
    have:i=1:=by omega
    subst this
    rcases hw with rfl | rfl <;> decide
  . rcases hw with rfl | rfl <;> decide
  . rcases hw with rfl | rfl <;> decide
 exact ⟨by decide,h2,fun h=>absurd h (by show ¬ (0:Int)<0; decide),fun _=>⟨by show (2:Int)<=3; decide,rfl,rfl,rfl⟩⟩
theorem b14 {s a b:Tm} {r:Rl} {l:List Tm} (hF:p9 s r) (ha:n7 a=true) (hb:n7 b=true) (hf:J3 s r (j9 s.Day) (b8 b)=false) (hg:c9w s a (c8a s r a b)=(l,.nil)):I5 s r a b=(l,.nil):=by
 unfold I5
 rw [if_neg (fun h=>h.elim (fun h=>h.elim (fun h=>h (G7.2 hF)) fun h=>h ha) fun h=>h hb),if_neg (by rw [hf]; exact Bool.false_ne_true),hg]
theorem d2o:I5 (dyS 1997 1 31) a7m (dyS 1997 1 1) (dyS 1997 4 1)=([dyS 1997 1 31,dyS 1997 2 28,dyS 1997 3 28],.nil) :=
 b14 d05 (by decide) (by decide) (by kernel_rfl) (by kernel_rfl)
theorem d5e:I5 (dyS 1997 8 5) (Y1 0) (dyS 1997 8 1) (dyS 1997 8 25)=([dyS 1997 8 5,dyS 1997 8 10,dyS 1997 8 19,dyS 1997 8 24],.nil) :=
 b14 (b9g (.inl rfl)) (by decide) (by decide) (by kernel_rfl) (by kernel_rfl)
theorem c4s:I5 (dyS 1997 8 5) (Y1 6) (dyS 1997 8 1) (dyS 1997 9 1)=([dyS 1997 8 5,dyS 1997 8 17,dyS 1997 8 19,dyS 1997 8 31],.nil) :=
 b14 (b9g (.inr rfl)) (by decide) (by decide) (by kernel_rfl) (by kernel_rfl)
end Go.Re
end
section
namespace Go.Proofs.YtdjfeninmbpflaaGreat
open Go Go.Wk Go.Wl Go.Rx Go.Re 
attribute [local irreducible] m7
def d8k:Nat->Ann:=fun | 28=>⟨12,nn,nn⟩ | _=>⟨0,nn,nn⟩
def Vld (y:Int) (m:Int) (d:Int) (Q:Tm->Prop):Prop :=
Q (Tm.mk (Dy.mk y m d) (0:Int) (0:Int) (0:Int) true false)
theorem pld (y:Int) (m:Int) (d:Int)  : Vld y m d (fun y0=>y0=dyS y m d):=by
 unfold Vld dyS
 rfl
def cld (a:List (SV U)):Option (Q1 U):=match a with | [.int .i64 y,.int .i64 m,.int .i64 d]=>some ⟨[],[],.agg [.int .i64 (dyS y m d).Day.Year,.int .i64 (dyS y m d).Day.Month,.int .i64 (dyS y m d).Day.Date,.int .i64 (dyS y m d).Hour,.int .i64 (dyS y m d).Min,.int .i64 (dyS y m d).Sec,blB (dyS y m d).Bare,blB (dyS y m d).UTC]⟩ | _=>none
noncomputable def Nld:Env:=Nno.addL 28 cld
theorem b7z:j7 Nld:=b4y.addL Tryz.call28 fun (args:List (SV U)) (q:Q1 U) (h:cld args=some q) ho=>by
 unfold cld at h
 split at h
 . rename_i y m d
   cases h
   exact q8 (an:=d8k 28) b4y (j6 b4y o9 d8k 2) Tryz.func28 (k:=.val 25) (x:=dyS y m d) ⟨_,_,rfl,rfl,rfl⟩ (kc (pld y m d ) (by kernel_rfl)) 0
 . cases h
def e1l:Nat->Ann:=fun | 12=>⟨74,nn,nn⟩ | _=>⟨0,nn,nn⟩
def Val  (Q:Bool->Prop):Prop :=
w4 (a7m)=true/\w4 (Y1 (0:Int))=true/\w4 (Y1 (6:Int))=true/\b9 ((I5 (etT (dyS (1997:Int) (1:Int) (31:Int))) (a7m) (etT (dyS (1997:Int) (1:Int) (1:Int))) (etT (dyS (1997:Int) (4:Int) (1:Int)))).snd.nr+(I5 (etT (dyS (1997:Int) (8:Int) (5:Int))) (Y1 (0:Int)) (etT (dyS (1997:Int) (8:Int) (1:Int))) (etT (dyS (1997:Int) (8:Int) (25:Int)))).snd.nr)/\b9 ((I5 (etT (dyS (1997:Int) (1:Int) (31:Int))) (a7m) (etT (dyS (1997:Int) (1:Int) (1:Int))) (etT (dyS (1997:Int) (4:Int) (1:Int)))).snd.nr+(I5 (etT (dyS (1997:Int) (8:Int) (5:Int))) (Y1 (0:Int)) (etT (dyS (1997:Int) (8:Int) (1:Int))) (etT (dyS (1997:Int) (8:Int) (25:Int)))).snd.nr+(I5 (etT (dyS (1997:Int) (8:Int) (5:Int))) (Y1 (6:Int)) (etT (dyS (1997:Int) (8:Int) (1:Int))) (etT (dyS (1997:Int) (9:Int) (1:Int)))).snd.nr)/\((I5 (etT (dyS (1997:Int) (1:Int) (31:Int))) (a7m) (etT (dyS (1997:Int) (1:Int) (1:Int))) (etT (dyS (1997:Int) (4:Int) (1:Int)))).snd.nr+(I5 (etT (dyS (1997:Int) (8:Int) (5:Int))) (Y1 (0:Int)) (etT (dyS (1997:Int) (8:Int) (1:Int))) (etT (dyS (1997:Int) (8:Int) (25:Int)))).snd.nr+(I5 (etT (dyS (1997:Int) (8:Int) (5:Int))) (Y1 (6:Int)) (etT (dyS (1997:Int) (8:Int) (1:Int))) (etT (dyS (1997:Int) (9:Int) (1:Int)))).snd.nr=(0:Int)->(I5 (etT (dyS (1997:Int) (1:Int) (31:Int))) (a7m) (etT (dyS (1997:Int) (1:Int) (1:Int))) (etT (dyS (1997:Int) (4:Int) (1:Int)))).fst.length<=(10000000:Nat)/\(a11 (I5 (etT (dyS (1997:Int) (1:Int) (31:Int))) (a7m) (etT (dyS (1997:Int) (1:Int) (1:Int))) (etT (dyS (1997:Int) (4:Int) (1:Int)))).fst [etT (dyS (1997:Int) (1:Int) (31:Int)),etT (dyS (1997:Int) (2:Int) (28:Int)),etT (dyS (1997:Int) (3:Int) (28:Int))]=true->(I5 (etT (dyS (1997:Int) (8:Int) (5:Int))) (Y1 (0:Int)) (etT (dyS (1997:Int) (8:Int) (1:Int))) (etT (dyS (1997:Int) (8:Int) (25:Int)))).fst.length<=(10000000:Nat)/\(a11 (I5 (etT (dyS (1997:Int) (8:Int) (5:Int))) (Y1 (0:Int)) (etT (dyS (1997:Int) (8:Int) (1:Int))) (etT (dyS (1997:Int) (8:Int) (25:Int)))).fst [etT (dyS (1997:Int) (8:Int) (5:Int)),etT (dyS (1997:Int) (8:Int) (10:Int)),etT (dyS (1997:Int) (8:Int) (19:Int)),etT (dyS (1997:Int) (8:Int) (24:Int))]=true->(I5 (etT (dyS (1997:Int) (8:Int) (5:Int))) (Y1 (6:Int)) (etT (dyS (1997:Int) (8:Int) (1:Int))) (etT (dyS (1997:Int) (9:Int) (1:Int)))).fst.length<=(10000000:Nat)/\Q (decide (a11 (I5 (etT (dyS (1997:Int) (8:Int) (5:Int))) (Y1 (6:Int)) (etT (dyS (1997:Int) (8:Int) (1:Int))) (etT (dyS (1997:Int) (9:Int) (1:Int)))).fst [etT (dyS (1997:Int) (8:Int) (5:Int)),etT (dyS (1997:Int) (8:Int) (17:Int)),etT (dyS (1997:Int) (8:Int) (19:Int)),etT (dyS (1997:Int) (8:Int) (31:Int))]=true)))/\(¬a11 (I5 (etT (dyS (1997:Int) (8:Int) (5:Int))) (Y1 (0:Int)) (etT (dyS (1997:Int) (8:Int) (1:Int))) (etT (dyS (1997:Int) (8:Int) (25:Int)))).fst [etT (dyS (1997:Int) (8:Int) (5:Int)),etT (dyS (1997:Int) (8:Int) (10:Int)),etT (dyS (1997:Int) (8:Int) (19:Int)),etT (dyS (1997:Int) (8:Int) (24:Int))]=true->Q false))/\(¬a11 (I5 (etT (dyS (1997:Int) (1:Int) (31:Int))) (a7m) (etT (dyS (1997:Int) (1:Int) (1:Int))) (etT (dyS (1997:Int) (4:Int) (1:Int)))).fst [etT (dyS (1997:Int) (1:Int) (31:Int)),etT (dyS (1997:Int) (2:Int) (28:Int)),etT (dyS (1997:Int) (3:Int) (28:Int))]=true->Q false))/\(¬(I5 (etT (dyS (1997:Int) (1:Int) (31:Int))) (a7m) (etT (dyS (1997:Int) (1:Int) (1:Int))) (etT (dyS (1997:Int) (4:Int) (1:Int)))).snd.nr+(I5 (etT (dyS (1997:Int) (8:Int) (5:Int))) (Y1 (0:Int)) (etT (dyS (1997:Int) (8:Int) (1:Int))) (etT (dyS (1997:Int) (8:Int) (25:Int)))).snd.nr+(I5 (etT (dyS (1997:Int) (8:Int) (5:Int))) (Y1 (6:Int)) (etT (dyS (1997:Int) (8:Int) (1:Int))) (etT (dyS (1997:Int) (9:Int) (1:Int)))).snd.nr=(0:Int)->Q false)
theorem pal   : Val  (fun y0=>y0=true):=by
 unfold Val
 simp only [P2]
 rw [d2o,d5e,c4s]
 have st:∀ l:List Tm,a11 l l=true:=fun l=>decide_eq_true rfl
 exact ⟨by decide,by decide,by decide,⟨by decide,by decide⟩,⟨by decide,by decide⟩,fun _=>⟨by decide,fun _=>⟨by decide,fun _=>⟨by decide,decide_eq_true (st _)⟩,fun h=>absurd (st _) h⟩,fun h=>absurd (st _) h⟩,fun h=>absurd rfl h⟩
def cal (a:List (SV U)):Option (Q1 U):=match a with | []=>some ⟨[],[],blB true⟩ | _=>none
noncomputable def Nal:Env:=Nld.addL 12 cal
theorem b5d:j7 Nal:=b7z.addL Tryz.call12 fun (args:List (SV U)) (q:Q1 U) (h:cal args=some q) ho=>by
 unfold cal at h
 split at h
 . cases h
   exact q8 (an:=e1l 12) b7z (j6 b7z o9 e1l 3) Tryz.func12 (k:=.bool) (x:=true) trivial (kc (pal  ) (by kernel_rfl)) 0
 . cases h
end Go.Proofs.YtdjfeninmbpflaaGreat
end
