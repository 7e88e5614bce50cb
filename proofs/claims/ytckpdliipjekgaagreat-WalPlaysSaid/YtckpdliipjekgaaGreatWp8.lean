/- 25 texts, one behind the other. -/
import Derived.Test.YtckpdliipjekgaaGreatWp7
import Derived.Test.YtckpdliipjekgaaGreatWp6
import Derived.Test.YtckpdliipjekgaaGreatWp4
import Derived.Test.YtckpdliipjekgaaGreatRows
import Derived.ChangeSame
import Derived.ChangeVars
import Derived.JoinedOf
import Derived.RowKit
import Derived.RowKit2
import Derived.Carry
import Derived.ProofKit
set_option linter.defProp false
set_option linter.unusedVariables false
set_option linter.unusedSimpArgs false
set_option maxRecDepth 100000
noncomputable section
section
namespace Go.Proofs.YtckpdliipjekgaaGreat
open Go Go.Wk Go.Wl Go.Rx Go.Wa 
attribute [local irreducible] o9
def e31:Nat->Ann:=fun | 28=>⟨44,fun | 4=>some ⟨[0,1,2],[.slot 7 (.int .i64),.own 0 [.acc 9,.acc 3,.acc 9,.int .i64,.bool]]⟩ | 1=>some ⟨[0,1],[.slot 2 .str]⟩ | _=>none,nn⟩ | _=>⟨0,nn,nn⟩
def a13 (x_1:Int) (x:List UInt8):=List.drop (x_1 * 256).toNat (List.take ((x_1+1) * 256).toNat x)
def c5p (x:List UInt8):=(256:Int)-(↑x.length:Int).tmod (256:Int)
def Vrs (la:List Str) (ta:List Int) (fr:List Str) (lf:Int) (po:Prop) (dq:Decidable po) (at_:Int) (s:Str) (Q:Int->List Str->List Int->List Str->Int->Bool->Prop):Prop :=
∃ (I:List UInt8->Prop),∃ (m:List UInt8->Nat),I s/\∀ (x:List UInt8),I x->(256:Int)≠0/\((0:Int)<(↑x.length:Int).tmod (256:Int)->(256:Int)≠0/\i6 (c5p x)/\(0:Int)<=(256:Int)-(↑x.length:Int).tmod (256:Int)/\(256:Int)-(↑x.length:Int).tmod (256:Int)<=1000000/\x.length+(List.replicate (c5p x).toNat (0:UInt8)).length<=9223372036854775807/\I (x++List.replicate (c5p x).toNat (0:UInt8))/\m (x++List.replicate (c5p x).toNat (0:UInt8))<m x)/\(¬(0:Int)<(↑x.length:Int).tmod (256:Int)->∃ (I:Int->List (List UInt8)->List Int->List (List UInt8)->Int->Bool->Prop),∃ (m:Int->List (List UInt8)->List Int->List (List UInt8)->Int->Bool->Nat),I (0:Int) la ta fr lf (decide po)/\∀ (x_1:Int) (x_2:List (List UInt8)) (x_3:List Int) (x_4:List (List UInt8)) (x_5:Int) (x_6:Bool),I x_1 x_2 x_3 x_4 x_5 x_6->(256:Int)≠0/\i6 ((↑x.length:Int).tdiv (256:Int))/\(x_1<(↑x.length:Int).tdiv (256:Int)->i6 (at_+x_1)/\i6 (x_1 * 256)/\i6 (x_1+1)/\i6 ((x_1+1) * 256)/\(0:Int)<=x_1 * 256/\x_1 * 256<=(x_1+1) * 256/\(x_1+1) * 256<=(↑x.length:Int)/\(Rk.mk x_2 x_3 x_4 x_5 (decide (x_6=true))).Ok/\(((Rk.mk x_2 x_3 x_4 x_5 (decide (x_6=true))).write (at_+x_1) (a13 x_1 x)).fst≠0->Q ((Rk.mk x_2 x_3 x_4 x_5 (decide (x_6=true))).write (at_+x_1) (a13 x_1 x)).fst ((Rk.mk x_2 x_3 x_4 x_5 (decide (x_6=true))).write (at_+x_1) (a13 x_1 x)).snd.a0C ((Rk.mk x_2 x_3 x_4 x_5 (decide (x_6=true))).write (at_+x_1) (a13 x_1 x)).snd.At ((Rk.mk x_2 x_3 x_4 x_5 (decide (x_6=true))).write (at_+x_1) (a13 x_1 x)).snd.a0D ((Rk.mk x_2 x_3 x_4 x_5 (decide (x_6=true))).write (at_+x_1) (a13 x_1 x)).snd.Left (decide (((Rk.mk x_2 x_3 x_4 x_5 (decide (x_6=true))).write (at_+x_1) (a13 x_1 x)).snd.Off=true)))/\(¬((Rk.mk x_2 x_3 x_4 x_5 (decide (x_6=true))).write (at_+x_1) (a13 x_1 x)).fst≠0->i6 (x_1+1)/\I (x_1+1) ((Rk.mk x_2 x_3 x_4 x_5 (decide (x_6=true))).write (at_+x_1) (a13 x_1 x)).snd.a0C ((Rk.mk x_2 x_3 x_4 x_5 (decide (x_6=true))).write (at_+x_1) (a13 x_1 x)).snd.At ((Rk.mk x_2 x_3 x_4 x_5 (decide (x_6=true))).write (at_+x_1) (a13 x_1 x)).snd.a0D ((Rk.mk x_2 x_3 x_4 x_5 (decide (x_6=true))).write (at_+x_1) (a13 x_1 x)).snd.Left (decide (((Rk.mk x_2 x_3 x_4 x_5 (decide (x_6=true))).write (at_+x_1) (a13 x_1 x)).snd.Off=true))/\m (x_1+1) ((Rk.mk x_2 x_3 x_4 x_5 (decide (x_6=true))).write (at_+x_1) (a13 x_1 x)).snd.a0C ((Rk.mk x_2 x_3 x_4 x_5 (decide (x_6=true))).write (at_+x_1) (a13 x_1 x)).snd.At ((Rk.mk x_2 x_3 x_4 x_5 (decide (x_6=true))).write (at_+x_1) (a13 x_1 x)).snd.a0D ((Rk.mk x_2 x_3 x_4 x_5 (decide (x_6=true))).write (at_+x_1) (a13 x_1 x)).snd.Left (decide (((Rk.mk x_2 x_3 x_4 x_5 (decide (x_6=true))).write (at_+x_1) (a13 x_1 x)).snd.Off=true))<m x_1 x_2 x_3 x_4 x_5 x_6))/\(¬x_1<(↑x.length:Int).tdiv (256:Int)->(Rk.mk x_2 x_3 x_4 x_5 (decide (x_6=true))).Ok/\Q (Rk.mk x_2 x_3 x_4 x_5 (decide (x_6=true))).flush.fst (Rk.mk x_2 x_3 x_4 x_5 (decide (x_6=true))).flush.snd.a0C (Rk.mk x_2 x_3 x_4 x_5 (decide (x_6=true))).flush.snd.At (Rk.mk x_2 x_3 x_4 x_5 (decide (x_6=true))).flush.snd.a0D (Rk.mk x_2 x_3 x_4 x_5 (decide (x_6=true))).flush.snd.Left (decide ((Rk.mk x_2 x_3 x_4 x_5 (decide (x_6=true))).flush.snd.Off=true))))
theorem prs (la:List Str) (ta:List Int) (fr:List Str) (lf:Int) (po:Prop) (dq:Decidable po) (at_:Int) (s:Str) (ok:Rk.Ok (⟨la,ta,fr,lf,decide po⟩:Rk)) (hs:s.length<=2000000) (a0:0<=at_) (a1:at_<=10000) (hc:ta.length+10000<=1000000):Vrs la ta fr lf po dq at_ s (fun y0 y1 y2 y3 y4 y5=>y0=(l9 (⟨la,ta,fr,lf,decide po⟩:Rk) at_ (o8 s)).1/\y1=((l9 (⟨la,ta,fr,lf,decide po⟩:Rk) at_ (o8 s)).2).a0C/\y2=((l9 (⟨la,ta,fr,lf,decide po⟩:Rk) at_ (o8 s)).2).At/\y3=((l9 (⟨la,ta,fr,lf,decide po⟩:Rk) at_ (o8 s)).2).a0D/\y4=((l9 (⟨la,ta,fr,lf,decide po⟩:Rk) at_ (o8 s)).2).Left/\y5=((l9 (⟨la,ta,fr,lf,decide po⟩:Rk) at_ (o8 s)).2).Off):=by
 unfold Vrs c5p a13
 simp only [b4J]
 refine ⟨fun x=>x=s ∨ (x.length % 256=0/\∃ k,k<256/\x=s++List.replicate k 0),fun x=>if x.length % 256=0 then 0 else 1,.inl rfl,?_⟩
 intro x hx
 have em:(x.length:Int).tmod 256=(x.length:Int) % 256:=b5I (by omega)
 have ed:(x.length:Int).tdiv 256=(x.length:Int) / 256:=b5P (by omega)
 rw [em,ed]
 refine ⟨by decide,fun h=>?_,fun h=>?_⟩
 . have hx:x=s:=hx.resolve_right (fun h'=>by omega)
   subst hx
   have hl:(x++List.replicate (256-(x.length:Int) % 256).toNat 0).length % 256=0:=by rw [b3P,b3X]; omega
   refine ⟨by decide,⟨by omega,by omega⟩,by omega,by omega,by rw [b3X]; omega,.inr ⟨hl,_,by omega,rfl⟩,?_⟩
   dsimp only
   rw [if_pos hl,if_neg (by omega)]; decide
 have hm:x.length % 256=0:=by omega
 obtain ⟨hsec,hxl⟩:o8 x=o8 s/\x.length<=s.length+256:=by
  rcases hx with e | ⟨_,k,hk,e⟩
  . rw [e]; exact ⟨rfl,by omega⟩
  . rw [e] at hm ⊢
    rw [b3P,b3X] at hm ⊢
    exact ⟨c9i hm hk,by omega⟩
 rw [<- hsec]
 refine ⟨fun i l a f n o=>0<=i/\i<=(x.length:Int) / 256/\Rk.Ok ⟨l,a,f,n,o⟩/\(a.length:Int)<=ta.length+i/\l9 ⟨la,ta,fr,lf,decide po⟩ at_ (o8 x)=l9 ⟨l,a,f,n,o⟩ (at_+i) ((o8 x).drop i.toNat),
  fun i _ _ _ _ _=>((x.length:Int) / 256-i).toNat,⟨by omega,by omega,ok,by omega,by rw [Int.add_zero]; rfl⟩,?_⟩
 rintro i l a f n o ⟨i0,i1,ok',ha,he⟩
 refine ⟨by decide,⟨by omega,by omega⟩,fun h2=>?_,fun h2=>?_⟩
 . have e1:((i+1) * 256).toNat=(i.toNat+1) * 256:=by omega
   have e2:(i * 256).toNat=i.toNat * 256:=by omega
   rw [c3a (by omega),l9] at he
   rw [e1,e2]
   generalize (x.take ((i.toNat+1) * 256)).drop (i.toNat * 256)=b at he ⊢
   refine ⟨⟨by omega,by omega⟩,⟨by omega,by omega⟩,⟨by omega,by omega⟩,⟨by omega,by omega⟩,by omega,by omega,by omega,ok',fun h3=>?_,fun h3=>?_⟩
   . rw [if_neg h3] at he
     rw [he]; exact ⟨rfl,rfl,rfl,rfl,rfl,rfl⟩
   . rw [if_pos (b4N.1 h3)] at he
     have hcnt:=a0t (y:=⟨l,a,f,n,o⟩) (at_+i) b
     have hcnt:((Rk.write ⟨l,a,f,n,o⟩ (at_+i) b).2.At.length:Int)<=a.length+1:=by
      have:(Rk.write ⟨l,a,f,n,o⟩ (at_+i) b).2.At.length<=a.length+1:=hcnt
      omega
     refine ⟨⟨by omega,by omega⟩,⟨by omega,by omega,a2m ok' (by show a.length<1000000; omega) _ _,by omega,?_⟩,by dsimp only; omega⟩
     rw [he,show (i+1).toNat=i.toNat+1 by omega,Int.add_assoc]
 . rw [show i.toNat=x.length / 256 by omega,c7f hm,l9] at he
   rw [he]; exact ⟨ok',rfl,rfl,rfl,rfl,rfl,rfl⟩
def e78 (la:List Str) (ta:List Int) (fr:List Str) (lf:Int) (po:Prop) (dq:Decidable po) (at_:Int) (s:Str):FR U:=K8 Nrh [Rk.Ok (⟨la,ta,fr,lf,decide po⟩:Rk),List.length (α:=UInt8) s<=2000000,0<=at_,at_<=10000,List.length (α:=Int) ta+10000<=1000000] [(0,.own 58 [.acc 1,.acc 2,.acc 3,.int .i64 lf,.bl po dq]),(1,.ac (N:=U) 9 la),(2,.ac (N:=U) 3 ta),(3,.ac (N:=U) 9 fr)] 8 1 [.slot 0 (.int .i64),.tree [] [.own (some 200) 58 [.v (.acc 9),.v (.acc 3),.v (.acc 9),.v (.int .i64),.v (.bool)]]] ((l9 (⟨la,ta,fr,lf,decide po⟩:Rk) at_ (o8 s)).1,((((l9 (⟨la,ta,fr,lf,decide po⟩:Rk) at_ (o8 s)).2).a0C,((l9 (⟨la,ta,fr,lf,decide po⟩:Rk) at_ (o8 s)).2).At,((l9 (⟨la,ta,fr,lf,decide po⟩:Rk) at_ (o8 s)).2).a0D,((l9 (⟨la,ta,fr,lf,decide po⟩:Rk) at_ (o8 s)).2).Left,((l9 (⟨la,ta,fr,lf,decide po⟩:Rk) at_ (o8 s)).2).Off,()),()),())
def frs:FC U:=⟨[],[],fun a its=>match a,its with | [.ref 0 0,.int .i64 at_,.str s],[(0,.own 58 [.acc 1,.acc 2,.acc 3,.int .i64 lf,.bl po dq]),(1,.ac 9 la),(2,.ac 3 ta),(3,.ac 9 fr)]=>some (e78 la ta fr lf po dq at_ s) | _,_=>none⟩
theorem e09 (args:List (SV U)) (its:a7 U) (r:FR U) (h:frs.C args its=some r) (ho:n6 r.ob):r6 Tryz.prog U eT Gl 28 args its (2 * its.length) (fun k=>n6 r.hy->k r.v r.its r.n):=by
 unfold frs at h
 simp only at h
 split at h
 . rename_i at_ s lf po dq la ta fr
   cases h
   exact G8 (an:=e31 28) b99 (l5 b99 M9 e31 3) Tryz.func28 (n:=1) rfl (vs:=[.slot 0 (.int .i64),.tree [] [.own (some 200) 58 [.v (.acc 9),.v (.acc 3),.v (.acc 9),.v (.int .i64),.v (.bool)]]]) (X:=((l9 (⟨la,ta,fr,lf,decide po⟩:Rk) at_ (o8 s)).1,((((l9 (⟨la,ta,fr,lf,decide po⟩:Rk) at_ (o8 s)).2).a0C,((l9 (⟨la,ta,fr,lf,decide po⟩:Rk) at_ (o8 s)).2).At,((l9 (⟨la,ta,fr,lf,decide po⟩:Rk) at_ (o8 s)).2).a0D,((l9 (⟨la,ta,fr,lf,decide po⟩:Rk) at_ (o8 s)).2).Left,((l9 (⟨la,ta,fr,lf,decide po⟩:Rk) at_ (o8 s)).2).Off,()),()),())) rfl (kc (prs la ta fr lf po dq at_ s ho.1 ho.2.1 ho.2.2.1 ho.2.2.2.1 ho.2.2.2.2.1) (by kernel_rfl))
 . cases h
def Nrs:Env:=(Nrh.a0K 28 Tryz.f28).a0N 28 frs
theorem e1f:l7 Nrs:=(b99.a0K Tryz.call28 Tryz.func28).a0N Tryz.call28 e09
end Go.Proofs.YtckpdliipjekgaaGreat
end
section
namespace Go.Proofs.YtckpdliipjekgaaGreat
open Go Go.Wk Go.Wl Go.Rx Go.Wa Go.Wa
def B3 (y:Rk):Int:=((y.a0C.length:Int)-2).tdiv 2
def C0 (y:Rk):Int×Rk :=
 if y.a0C.length<6 then (2,y) else if (l9 y 0 (o8 (List.replicate 512 0))).1≠0 then l9 y 0 (o8 (List.replicate 512 0)) else
 l9 (l9 y 0 (o8 (List.replicate 512 0))).2 1 (o8 (q5 1 0 0))
def R9 (y:Rk):Nat->Int->Int×Int×Int->Int×Int×Int×Int
 | 0,_,p=>(0,p)
 | k+1,a,p=>if (y.read a).2≠0 then ((y.read a).2,0,0,0) else R9 y k (a+1) (a1a p (hdT (y.read a).1 a))
def O5 (y:Rk):Nat->Int->Str->Str×Int
 | 0,_,b=>(b,0)
 | k+1,i,b=>if (y.read i).2=0 then O5 y k (i+1) (b++(y.read i).1) else ([],(y.read i).2)
def c0i (y:Rk) (p:Int×Int×Int):Int×Int×Int×Str :=
 if p.1=0 ∨ B3 y * 256<p.2.2 then (10,0,0,[]) else
 if (O5 y (A0 p.2.2) (2+p.2.1 * B3 y) []).2≠0 then ((O5 y (A0 p.2.2) (2+p.2.1 * B3 y) []).2,0,0,[]) else
 if (((O5 y (A0 p.2.2) (2+p.2.1 * B3 y) []).1.take p.2.2.toNat).length:Int)-((D8 ((O5 y (A0 p.2.2) (2+p.2.1 * B3 y) []).1.take p.2.2.toNat)).length:Int)≠p.2.2 then (10,0,0,[]) else
 (0,p.1,p.2.1,(O5 y (A0 p.2.2) (2+p.2.1 * B3 y) []).1.take p.2.2.toNat)
def r5 (y:Rk):Int×Int×Int×Str :=
 if y.a0C.length<6 then (2,0,0,[]) else if (R9 y 2 0 (0,0,0)).1≠0 then ((R9 y 2 0 (0,0,0)).1,0,0,[]) else c0i y (R9 y 2 0 (0,0,0)).2
structure Lr where
 turn:Int
 half:Int
 bytes:Str
 wait:List Str
 dead:Bool
 d:Rk
def D9 (g:Lr):Int:=B3 g.d * 256-(g.bytes.length:Int)-((l6 g.wait).1.length:Int)
def C8 (g:Lr) (l:List Str):Int×Lr :=
 if g.dead=true then (9,g) else if shN l≠0 then (shN l,g) else if D9 g<((l6 l).1.length:Int) then (6,g) else (0,{ g with wait:=g.wait++l })
def rwA (y:Rk) (hh th:Int) (by_:Str):Int×Rk:=l9 y (2+hh * ((y.a0C.length:Int)-2).tdiv 2+th.tdiv 256) (o8 (List.drop (th.tdiv 256 * 256).toNat by_))
def rwB (y:Rk) (tn hh:Int) (by_:Str):Int×Rk:=l9 y ((tn+1).tmod 2) (o8 (q5 (tn+1) hh (by_.length:Int)))
def rwD (S:Int×Rk):Rk:=Rk.mk S.2.a0C S.2.At S.2.a0D S.2.Left (decide (S.2.Off=true))
theorem e1j (S:Int×Rk):rwD S=S.2:=by unfold rwD; rw [b4J]
def c8i (g:Lr) (S:Int×Rk):Int×Lr:=(S.1,{ g with dead:=if S.1=9 then true else g.dead,d:=S.2 })
def c7o (g:Lr) (hh:Int) (by_:Str):Int×Lr :=
 if (rwB g.d g.turn hh by_).1=0 then (0,⟨g.turn+1,hh,by_,[],g.dead,(rwB g.d g.turn hh by_).2⟩) else c8i g (rwB g.d g.turn hh by_)
def q7 (g:Lr) (hh th:Int) (by_:Str):Int×Lr :=
 if (rwA g.d hh th by_).1=0 then c7o { g with d:=(rwA g.d hh th by_).2 } hh by_ else c8i g (rwA g.d hh th by_)
def w4 (g:Lr):Int×Lr :=
 if g.dead=true then (9,g) else if g.wait.length=0 then (0,g) else q7 g g.half (g.bytes.length:Int) (g.bytes++(l6 g.wait).1)
def v8 (g:Lr) (l:List Str):Int×Lr :=
 if g.dead=true then (9,g) else if shN l≠0 then (shN l,g) else if B3 g.d * 256<((l6 l).1.length:Int) then (6,g) else q7 g (1-g.half) 0 (l6 l).1
theorem a84 (y:Rk) (a:Int) (b:Str):(y.write a b).2.a0C.length=y.a0C.length:=by
 unfold Rk.write Rk.act
 repeat' split
 all_goals rfl
theorem b9m (y:Rk):y.flush.2.a0C.length=y.a0C.length:=by
 rw [b17]
 repeat' split
 all_goals first | rfl | exact a55 _ _
theorem P5:∀ (l:List Str) {y:Rk} {a:Int},y.Ok->y.At.length+l.length<1000000->(l9 y a l).2.Ok/\(l9 y a l).2.a0C.length=y.a0C.length/\(l9 y a l).2.At.length<=y.At.length+l.length
 | [],y,_,ok,_=>⟨c2g ok,b9m y,b97⟩
 | b::r,y,a,ok,h=>by
  rw [b4F] at h
  have hc:=a0t (y:=y) a b
  have ok':=a2m ok (by omega) a b
  unfold l9
  split
  . obtain ⟨h1,h2,h3⟩:=P5 r (a:=a+1) ok' (by omega)
    exact ⟨h1,by rw [h2,a84],by rw [b4F]; omega⟩
  . exact ⟨ok',a84 _ _ _,by rw [b4F]; omega⟩
theorem a4m {y:Rk} (ok:y.Ok):-1<=B3 y/\B3 y<=4095/\(2<=y.a0C.length->0<=B3 y):=by
 have h:=ok.max
 unfold B3
 by_cases h2:2<=y.a0C.length
 . have e:((y.a0C.length:Int)-2).tdiv 2=((y.a0C.length:Int)-2) / 2:=b5P (by omega)
   rw [e]; omega
 . have:(y.a0C.length:Int)-2=-1 ∨ (y.a0C.length:Int)-2=-2:=by omega
   rcases this with e | e <;> rw [e]
   . exact ⟨by decide,by decide,fun h=>absurd h h2⟩
   . exact ⟨by decide,by decide,fun h=>absurd h h2⟩
theorem d4b {w0:World} {a:Nat} {cs:List Value} {A:Option Addr} {n cap:Nat} (ha:Own w0 a 58 cs) (hc:cs[0]?=some (.slice A n cap)) (hn:n<=100000) :
  A6 Tryz.prog 48 [.pointer (some ⟨a,0,none⟩)] w0 (fun v w'=>v=.int .i64 (((n:Int)-2).tdiv 2)/\w'=w0):=by
 refine a17 Tryz.func48 rfl rfl rfl rfl ?_
 refine k8 ?_
 refine b9 ?_
 refine j6 rfl ?_
 refine b8 ?_
 refine k8 ?_
 refine b9 ?_
 refine k9 rfl ?_
 refine r7 rfl rfl ?_
 refine q6 Tryz.runUnderlying58 rfl Tryz.sizeOf41 rfl rfl ?_
 refine C3 Tryz.isAgg41 rfl (Own.at ha hc) rfl ?_
 refine a1z Tryz.runUnderlying41 rfl rfl ?_
 refine c0f rfl rfl (by omega) rfl ?_
 refine c11 rfl rfl (by decide) rfl ?_
 refine j6 rfl ?_
 refine b8 ?_
 refine F4 ?_
 have h:-1<=((n:Int)-2).tdiv 2/\((n:Int)-2).tdiv 2<=100000:=by
  by_cases h:2<=n
  . have e:((n:Int)-2).tdiv 2=((n:Int)-2) / 2:=b5P (by omega)
    rw [e]; omega
  . match n,h with
    | 0,_=>decide
    | 1,_=>decide
    | k+2,h=>exact absurd (by omega) h
 have e:IntKind.i64.wrap (((n:Int)-2).tdiv 2)=((n:Int)-2).tdiv 2:=by
  rw [I0]; omega
 show Value.int .i64 (IntKind.i64.wrap (((n:Int)-2).tdiv 2))=.int .i64 (((n:Int)-2).tdiv 2)/\w0=w0
 rw [e]
 exact ⟨rfl,rfl⟩
def cRh (args:List (SV U)) (its:a7 U):Option (Q1 U):=match args with
 | [.ref i 0]=>(match lk its i with
  | some (.own 58 (.acc j::_))=>(match lk its j with
   | some (.ac _ l)=>some ⟨[l.length<=100000],[],.int .i64 (((l.length:Int)-2).tdiv 2)⟩
   | _=>none)
  | _=>none)
 | _=>none
theorem d9b (args:List (SV U)) (its:a7 U) (q:Q1 U) (h:cRh args its=some q) (ho:n6 q.ob):c0n Tryz.prog U eT Gl 48 args its q:=by
 unfold cRh at h
 split at h
 . rename_i i
   split at h
   . rename_i j r hi
     split at h
     . rename_i t l hj
       cases h
       intro ρ Z w vs _ hh ha
       obtain ⟨L,cs,hL,hbs,how,hr⟩:=hh _ _ hi
       obtain ⟨L2,hL2,hn,_,_⟩:=hh _ _ hj
       obtain ⟨v1,r1,rfl,h1,ha⟩:=Rep.a0H ha
       obtain rfl:=E4 ha
       cases h1 with | ref hL' =>
       rw [hL] at hL'; cases hL'
       obtain ⟨v2,r2,rfl,h2,_,hr⟩:=j8.cons_inv hr
       cases h2 with | acc hL' =>
       rw [hL2] at hL'; cases hL'
       have ho:l.length<=100000:=ho.1
       have hb:-9223372036854775808<=((l.length:Int)-2).tdiv 2/\((l.length:Int)-2).tdiv 2<=9223372036854775807:=by
        have:=Int.tdiv_mul_add_tmod ((l.length:Int)-2) 2
        have:=Int.tmod_lt_of_pos ((l.length:Int)-2) (show (0:Int)<2 by decide)
        have:=Int.lt_tmod_of_pos ((l.length:Int)-2) (show (0:Int)<2 by decide)
        omega
       exact (d4b how rfl (by omega)).mono fun v w' ⟨e1,e2⟩=>by
        subst e1; subst e2
        refine ⟨Ext.refl _ _,?_,trivial⟩
        rw [hn]
        exact .int fun _=>hb
     . cases h
   . cases h
 . cases h
end Go.Proofs.YtckpdliipjekgaaGreat
end
section
namespace Go.Proofs.YtckpdliipjekgaaGreat
open Go Go.Wk Go.Wl Go.Rx Go.Wa 
def NRh:Env:=Nrs.a6N 48 cRh
theorem b7v:l7 NRh:=e1f.a6N Tryz.call48 d9b
end Go.Proofs.YtckpdliipjekgaaGreat
end
section
namespace Go.Proofs.YtckpdliipjekgaaGreat
open Go Go.Wk Go.Wl Go.Rx Go.Wa 
attribute [local irreducible] o9
def e5p:Nat->Ann:=fun | 10=>⟨19,nn,nn⟩ | _=>⟨0,nn,nn⟩
def G4  := o8 (List.replicate (Int.toNat (512:Int)) (0:UInt8))
def b9e  := o8 (q5 (1:Int) (0:Int) (0:Int))
def Vrf (la:List Str) (ta:List Int) (fr:List Str) (lf:Int) (po:Prop) (dq:Decidable po) (Q:Int->List Str->List Int->List Str->Int->Bool->Prop):Prop :=
((↑la.length:Int)<6->Q (2:Int) la ta fr lf (decide po))/\(¬(↑la.length:Int)<6->(0:Int)<=512/\(512:Int)<=1000000/\(Rk.mk la ta fr lf (decide po)).Ok/\(List.replicate (Int.toNat (512:Int)) (0:UInt8)).length<=2000000/\(0:Int)<=0/\(0:Int)<=10000/\ta.length+10000<=1000000/\((l9 (Rk.mk la ta fr lf (decide po)) (0:Int) G4).fst≠0->Q (l9 (Rk.mk la ta fr lf (decide po)) (0:Int) G4).fst (l9 (Rk.mk la ta fr lf (decide po)) (0:Int) G4).snd.a0C (l9 (Rk.mk la ta fr lf (decide po)) (0:Int) G4).snd.At (l9 (Rk.mk la ta fr lf (decide po)) (0:Int) G4).snd.a0D (l9 (Rk.mk la ta fr lf (decide po)) (0:Int) G4).snd.Left (decide ((l9 (Rk.mk la ta fr lf (decide po)) (0:Int) G4).snd.Off=true)))/\(¬(l9 (Rk.mk la ta fr lf (decide po)) (0:Int) G4).fst≠0->(0:Int)<=1/\(1:Int)<=9000000000000000000/\(0:Int)<=0/\(0:Int)<=255/\(0:Int)<=0/\(0:Int)<=9000000000000000000/\(Rk.mk (l9 (Rk.mk la ta fr lf (decide po)) (0:Int) G4).snd.a0C (l9 (Rk.mk la ta fr lf (decide po)) (0:Int) G4).snd.At (l9 (Rk.mk la ta fr lf (decide po)) (0:Int) G4).snd.a0D (l9 (Rk.mk la ta fr lf (decide po)) (0:Int) G4).snd.Left (decide ((l9 (Rk.mk la ta fr lf (decide po)) (0:Int) G4).snd.Off=true))).Ok/\List.length (q5 (1:Int) (0:Int) (0:Int))<=2000000/\(0:Int)<=1/\(1:Int)<=10000/\(l9 (Rk.mk la ta fr lf (decide po)) (0:Int) G4).snd.At.length+10000<=1000000/\Q (l9 (Rk.mk (l9 (Rk.mk la ta fr lf (decide po)) (0:Int) G4).snd.a0C (l9 (Rk.mk la ta fr lf (decide po)) (0:Int) G4).snd.At (l9 (Rk.mk la ta fr lf (decide po)) (0:Int) G4).snd.a0D (l9 (Rk.mk la ta fr lf (decide po)) (0:Int) G4).snd.Left (decide ((l9 (Rk.mk la ta fr lf (decide po)) (0:Int) G4).snd.Off=true))) (1:Int) b9e).fst (l9 (Rk.mk (l9 (Rk.mk la ta fr lf (decide po)) (0:Int) G4).snd.a0C (l9 (Rk.mk la ta fr lf (decide po)) (0:Int) G4).snd.At (l9 (Rk.mk la ta fr lf (decide po)) (0:Int) G4).snd.a0D (l9 (Rk.mk la ta fr lf (decide po)) (0:Int) G4).snd.Left (decide ((l9 (Rk.mk la ta fr lf (decide po)) (0:Int) G4).snd.Off=true))) (1:Int) b9e).snd.a0C (l9 (Rk.mk (l9 (Rk.mk la ta fr lf (decide po)) (0:Int) G4).snd.a0C (l9 (Rk.mk la ta fr lf (decide po)) (0:Int) G4).snd.At (l9 (Rk.mk la ta fr lf (decide po)) (0:Int) G4).snd.a0D (l9 (Rk.mk la ta fr lf (decide po)) (0:Int) G4).snd.Left (decide ((l9 (Rk.mk la ta fr lf (decide po)) (0:Int) G4).snd.Off=true))) (1:Int) b9e).snd.At (l9 (Rk.mk (l9 (Rk.mk la ta fr lf (decide po)) (0:Int) G4).snd.a0C (l9 (Rk.mk la ta fr lf (decide po)) (0:Int) G4).snd.At (l9 (Rk.mk la ta fr lf (decide po)) (0:Int) G4).snd.a0D (l9 (Rk.mk la ta fr lf (decide po)) (0:Int) G4).snd.Left (decide ((l9 (Rk.mk la ta fr lf (decide po)) (0:Int) G4).snd.Off=true))) (1:Int) b9e).snd.a0D (l9 (Rk.mk (l9 (Rk.mk la ta fr lf (decide po)) (0:Int) G4).snd.a0C (l9 (Rk.mk la ta fr lf (decide po)) (0:Int) G4).snd.At (l9 (Rk.mk la ta fr lf (decide po)) (0:Int) G4).snd.a0D (l9 (Rk.mk la ta fr lf (decide po)) (0:Int) G4).snd.Left (decide ((l9 (Rk.mk la ta fr lf (decide po)) (0:Int) G4).snd.Off=true))) (1:Int) b9e).snd.Left (decide ((l9 (Rk.mk (l9 (Rk.mk la ta fr lf (decide po)) (0:Int) G4).snd.a0C (l9 (Rk.mk la ta fr lf (decide po)) (0:Int) G4).snd.At (l9 (Rk.mk la ta fr lf (decide po)) (0:Int) G4).snd.a0D (l9 (Rk.mk la ta fr lf (decide po)) (0:Int) G4).snd.Left (decide ((l9 (Rk.mk la ta fr lf (decide po)) (0:Int) G4).snd.Off=true))) (1:Int) b9e).snd.Off=true))))
theorem prf (la:List Str) (ta:List Int) (fr:List Str) (lf:Int) (po:Prop) (dq:Decidable po) (ok:Rk.Ok (⟨la,ta,fr,lf,decide po⟩:Rk)) (hc:ta.length+20000<=1000000):Vrf la ta fr lf po dq (fun y0 y1 y2 y3 y4 y5=>y0=(C0 (⟨la,ta,fr,lf,decide po⟩:Rk)).1/\y1=((C0 (⟨la,ta,fr,lf,decide po⟩:Rk)).2).a0C/\y2=((C0 (⟨la,ta,fr,lf,decide po⟩:Rk)).2).At/\y3=((C0 (⟨la,ta,fr,lf,decide po⟩:Rk)).2).a0D/\y4=((C0 (⟨la,ta,fr,lf,decide po⟩:Rk)).2).Left/\y5=((C0 (⟨la,ta,fr,lf,decide po⟩:Rk)).2).Off):=by
 unfold Vrf b9e G4 C0
 simp only [b4J]
 have e5:Int.toNat 512=512:=rfl
 rw [e5]
 have hz:(List.replicate 512 0:Str).length=512:=b3X
 have hl:(o8 (List.replicate 512 0)).length=2:=by rw [H8,hz]
 refine ⟨fun h=>?_,fun h=>⟨by decide,by decide,ok,by rw [hz]; decide,by decide,by decide,by omega,?_⟩⟩
 . rw [if_pos (show la.length<6 by omega)]; exact ⟨rfl,rfl,rfl,rfl,rfl,rfl⟩
 rw [if_neg (show ¬ la.length<6 by omega)]
 obtain ⟨k1,k2,k3⟩:=P5 (o8 (List.replicate 512 0)) (a:=0) ok (by show ta.length+_<_; omega)
 generalize l9 ⟨la,ta,fr,lf,decide po⟩ 0 (o8 (List.replicate 512 0))=S at k1 k2 k3 ⊢
 have k3:S.2.At.length<=ta.length+(o8 (List.replicate 512 0)).length:=k3
 refine ⟨fun h1=>?_,fun h1=>⟨by decide,by decide,by decide,by decide,by decide,by decide,k1,by rw [a1o]; decide,by decide,by decide,by omega,?_⟩⟩
 . rw [if_pos h1]; exact ⟨rfl,rfl,rfl,rfl,rfl,rfl⟩
 . rw [if_neg h1]; exact ⟨rfl,rfl,rfl,rfl,rfl,rfl⟩
def e7d (la:List Str) (ta:List Int) (fr:List Str) (lf:Int) (po:Prop) (dq:Decidable po):FR U:=K8 NRh [Rk.Ok (⟨la,ta,fr,lf,decide po⟩:Rk),List.length (α:=Int) ta+20000<=1000000] [(0,.own 58 [.acc 1,.acc 2,.acc 3,.int .i64 lf,.bl po dq]),(1,.ac (N:=U) 9 la),(2,.ac (N:=U) 3 ta),(3,.ac (N:=U) 9 fr)] 8 1 [.slot 0 (.int .i64),.tree [] [.own (some 200) 58 [.v (.acc 9),.v (.acc 3),.v (.acc 9),.v (.int .i64),.v (.bool)]]] ((C0 (⟨la,ta,fr,lf,decide po⟩:Rk)).1,((((C0 (⟨la,ta,fr,lf,decide po⟩:Rk)).2).a0C,((C0 (⟨la,ta,fr,lf,decide po⟩:Rk)).2).At,((C0 (⟨la,ta,fr,lf,decide po⟩:Rk)).2).a0D,((C0 (⟨la,ta,fr,lf,decide po⟩:Rk)).2).Left,((C0 (⟨la,ta,fr,lf,decide po⟩:Rk)).2).Off,()),()),())
def frf:FC U:=⟨[],[],fun a its=>match a,its with | [.ref 0 0],[(0,.own 58 [.acc 1,.acc 2,.acc 3,.int .i64 lf,.bl po dq]),(1,.ac 9 la),(2,.ac 3 ta),(3,.ac 9 fr)]=>some (e7d la ta fr lf po dq) | _,_=>none⟩
theorem d9f (args:List (SV U)) (its:a7 U) (r:FR U) (h:frf.C args its=some r) (ho:n6 r.ob):r6 Tryz.prog U eT Gl 10 args its (2 * its.length) (fun k=>n6 r.hy->k r.v r.its r.n):=by
 unfold frf at h
 simp only at h
 split at h
 . rename_i lf po dq la ta fr
   cases h
   exact G8 (an:=e5p 10) b7v (l5 b7v M9 e5p 3) Tryz.func10 (n:=1) rfl (vs:=[.slot 0 (.int .i64),.tree [] [.own (some 200) 58 [.v (.acc 9),.v (.acc 3),.v (.acc 9),.v (.int .i64),.v (.bool)]]]) (X:=((C0 (⟨la,ta,fr,lf,decide po⟩:Rk)).1,((((C0 (⟨la,ta,fr,lf,decide po⟩:Rk)).2).a0C,((C0 (⟨la,ta,fr,lf,decide po⟩:Rk)).2).At,((C0 (⟨la,ta,fr,lf,decide po⟩:Rk)).2).a0D,((C0 (⟨la,ta,fr,lf,decide po⟩:Rk)).2).Left,((C0 (⟨la,ta,fr,lf,decide po⟩:Rk)).2).Off,()),()),())) rfl (kc (prf la ta fr lf po dq ho.1 ho.2.1) (by kernel_rfl))
 . cases h
def Nrf:Env:=(NRh.a0K 10 Tryz.f10).a0N 10 frf
theorem b9o:l7 Nrf:=(b7v.a0K Tryz.call10 Tryz.func10).a0N Tryz.call10 d9f
def e5c:Nat->Ann:=fun | 15=>⟨14,nn,nn⟩ | _=>⟨0,nn,nn⟩
def Vrr (tn:Int) (hf:Int) (bt:Str) (wt:List Str) (pd:Prop) (dd:Decidable pd) (la:List Str) (ta:List Int) (fr:List Str) (lf:Int) (po:Prop) (dq:Decidable po) (Q:List Str->Int->Int->Str->List Str->Bool->List Str->List Int->List Str->Int->Bool->Prop):Prop :=
List.length bt<=100000000/\Q (o4 bt) tn hf bt wt (decide pd) la ta fr lf (decide po)
theorem prr (tn:Int) (hf:Int) (bt:Str) (wt:List Str) (pd:Prop) (dd:Decidable pd) (la:List Str) (ta:List Int) (fr:List Str) (lf:Int) (po:Prop) (dq:Decidable po) (hb:bt.length<=2000000):Vrr tn hf bt wt pd dd la ta fr lf po dq (fun y0 y1 y2 y3 y4 y5 y6 y7 y8 y9 y10=>y0=o4 bt/\y1=((⟨tn,hf,bt,wt,decide pd,(⟨la,ta,fr,lf,decide po⟩:Rk)⟩:Lr)).turn/\y2=((⟨tn,hf,bt,wt,decide pd,(⟨la,ta,fr,lf,decide po⟩:Rk)⟩:Lr)).half/\y3=((⟨tn,hf,bt,wt,decide pd,(⟨la,ta,fr,lf,decide po⟩:Rk)⟩:Lr)).bytes/\y4=((⟨tn,hf,bt,wt,decide pd,(⟨la,ta,fr,lf,decide po⟩:Rk)⟩:Lr)).wait/\y5=((⟨tn,hf,bt,wt,decide pd,(⟨la,ta,fr,lf,decide po⟩:Rk)⟩:Lr)).dead/\y6=(((⟨tn,hf,bt,wt,decide pd,(⟨la,ta,fr,lf,decide po⟩:Rk)⟩:Lr)).d).a0C/\y7=(((⟨tn,hf,bt,wt,decide pd,(⟨la,ta,fr,lf,decide po⟩:Rk)⟩:Lr)).d).At/\y8=(((⟨tn,hf,bt,wt,decide pd,(⟨la,ta,fr,lf,decide po⟩:Rk)⟩:Lr)).d).a0D/\y9=(((⟨tn,hf,bt,wt,decide pd,(⟨la,ta,fr,lf,decide po⟩:Rk)⟩:Lr)).d).Left/\y10=(((⟨tn,hf,bt,wt,decide pd,(⟨la,ta,fr,lf,decide po⟩:Rk)⟩:Lr)).d).Off):=by
 unfold Vrr
 exact ⟨by omega,rfl,rfl,rfl,rfl,rfl,rfl,rfl,rfl,rfl,rfl,rfl⟩
def e70 (tn:Int) (hf:Int) (bt:Str) (wt:List Str) (pd:Prop) (dd:Decidable pd) (la:List Str) (ta:List Int) (fr:List Str) (lf:Int) (po:Prop) (dq:Decidable po):FR U:=K8 Nrf [List.length (α:=UInt8) bt<=2000000] [(0,.own 50 [.ref 1 0,.int .i64 tn,.int .i64 hf,.str bt,.acc 5,.bl pd dd]),(1,.own 58 [.acc 2,.acc 3,.acc 4,.int .i64 lf,.bl po dq]),(2,.ac (N:=U) 9 la),(3,.ac (N:=U) 3 ta),(4,.ac (N:=U) 9 fr),(5,.ac (N:=U) 9 wt)] 12 1 [.slot 0 (.acc 9),.tree [] [.own (some 200) 50 [.to 1,.v (.int .i64),.v (.int .i64),.v (.str),.v (.acc 9),.v (.bool)],.own (some 201) 58 [.v (.acc 9),.v (.acc 3),.v (.acc 9),.v (.int .i64),.v (.bool)]]] (o4 bt,((((⟨tn,hf,bt,wt,decide pd,(⟨la,ta,fr,lf,decide po⟩:Rk)⟩:Lr)).turn,((⟨tn,hf,bt,wt,decide pd,(⟨la,ta,fr,lf,decide po⟩:Rk)⟩:Lr)).half,((⟨tn,hf,bt,wt,decide pd,(⟨la,ta,fr,lf,decide po⟩:Rk)⟩:Lr)).bytes,((⟨tn,hf,bt,wt,decide pd,(⟨la,ta,fr,lf,decide po⟩:Rk)⟩:Lr)).wait,((⟨tn,hf,bt,wt,decide pd,(⟨la,ta,fr,lf,decide po⟩:Rk)⟩:Lr)).dead,()),((((⟨tn,hf,bt,wt,decide pd,(⟨la,ta,fr,lf,decide po⟩:Rk)⟩:Lr)).d).a0C,(((⟨tn,hf,bt,wt,decide pd,(⟨la,ta,fr,lf,decide po⟩:Rk)⟩:Lr)).d).At,(((⟨tn,hf,bt,wt,decide pd,(⟨la,ta,fr,lf,decide po⟩:Rk)⟩:Lr)).d).a0D,(((⟨tn,hf,bt,wt,decide pd,(⟨la,ta,fr,lf,decide po⟩:Rk)⟩:Lr)).d).Left,(((⟨tn,hf,bt,wt,decide pd,(⟨la,ta,fr,lf,decide po⟩:Rk)⟩:Lr)).d).Off,()),()),())
def frr:FC U:=⟨[],[],fun a its=>match a,its with | [.ref 0 0],[(0,.own 50 [.ref 1 0,.int .i64 tn,.int .i64 hf,.str bt,.acc 5,.bl pd dd]),(1,.own 58 [.acc 2,.acc 3,.acc 4,.int .i64 lf,.bl po dq]),(2,.ac 9 la),(3,.ac 3 ta),(4,.ac 9 fr),(5,.ac 9 wt)]=>some (e70 tn hf bt wt pd dd la ta fr lf po dq) | _,_=>none⟩
theorem d7m (args:List (SV U)) (its:a7 U) (r:FR U) (h:frr.C args its=some r) (ho:n6 r.ob):r6 Tryz.prog U eT Gl 15 args its (2 * its.length) (fun k=>n6 r.hy->k r.v r.its r.n):=by
 unfold frr at h
 simp only at h
 split at h
 . rename_i tn hf bt pd dd lf po dq la ta fr wt
   cases h
   exact G8 (an:=e5c 15) b9o (l5 b9o M9 e5c 3) Tryz.func15 (n:=1) rfl (vs:=[.slot 0 (.acc 9),.tree [] [.own (some 200) 50 [.to 1,.v (.int .i64),.v (.int .i64),.v (.str),.v (.acc 9),.v (.bool)],.own (some 201) 58 [.v (.acc 9),.v (.acc 3),.v (.acc 9),.v (.int .i64),.v (.bool)]]]) (X:=(o4 bt,((((⟨tn,hf,bt,wt,decide pd,(⟨la,ta,fr,lf,decide po⟩:Rk)⟩:Lr)).turn,((⟨tn,hf,bt,wt,decide pd,(⟨la,ta,fr,lf,decide po⟩:Rk)⟩:Lr)).half,((⟨tn,hf,bt,wt,decide pd,(⟨la,ta,fr,lf,decide po⟩:Rk)⟩:Lr)).bytes,((⟨tn,hf,bt,wt,decide pd,(⟨la,ta,fr,lf,decide po⟩:Rk)⟩:Lr)).wait,((⟨tn,hf,bt,wt,decide pd,(⟨la,ta,fr,lf,decide po⟩:Rk)⟩:Lr)).dead,()),((((⟨tn,hf,bt,wt,decide pd,(⟨la,ta,fr,lf,decide po⟩:Rk)⟩:Lr)).d).a0C,(((⟨tn,hf,bt,wt,decide pd,(⟨la,ta,fr,lf,decide po⟩:Rk)⟩:Lr)).d).At,(((⟨tn,hf,bt,wt,decide pd,(⟨la,ta,fr,lf,decide po⟩:Rk)⟩:Lr)).d).a0D,(((⟨tn,hf,bt,wt,decide pd,(⟨la,ta,fr,lf,decide po⟩:Rk)⟩:Lr)).d).Left,(((⟨tn,hf,bt,wt,decide pd,(⟨la,ta,fr,lf,decide po⟩:Rk)⟩:Lr)).d).Off,()),()),())) rfl (kc (prr tn hf bt wt pd dd la ta fr lf po dq ho.1) (by kernel_rfl))
 . cases h
def Nrr:Env:=(Nrf.a0K 15 Tryz.f15).a0N 15 frr
theorem b8s:l7 Nrr:=(b9o.a0K Tryz.call15 Tryz.func15).a0N Tryz.call15 d7m
def d5w:Nat->Ann:=fun | 18=>⟨28,nn,nn⟩ | _=>⟨0,nn,nn⟩
def e3q (tn:Int) (hf:Int) (bt:Str) (wt:List Str) (pd:Prop) (dd:Decidable pd) (la:List Str) (ta:List Int) (fr:List Str) (lf:Int) (po:Prop) (dq:Decidable po) (Q:Int->Int->Int->Str->List Str->Bool->List Str->List Int->List Str->Int->Bool->Prop):Prop :=
SmL wt/\la.length<=100000/\i6 (((↑la.length:Int)-2).tdiv (2:Int) * 256)/\i6 (((↑la.length:Int)-2).tdiv (2:Int) * 256-(↑(List.length bt):Int))/\i6 (((↑la.length:Int)-2).tdiv (2:Int) * 256-(↑(List.length bt):Int)-(↑(List.length (l6 wt).fst):Int))/\Q (((↑la.length:Int)-2).tdiv (2:Int) * 256-(↑(List.length bt):Int)-(↑(List.length (l6 wt).fst):Int)) tn hf bt wt (decide pd) la ta fr lf (decide po)
theorem e6h (tn:Int) (hf:Int) (bt:Str) (wt:List Str) (pd:Prop) (dd:Decidable pd) (la:List Str) (ta:List Int) (fr:List Str) (lf:Int) (po:Prop) (dq:Decidable po) (ok:Rk.Ok (⟨la,ta,fr,lf,decide po⟩:Rk)) (hb:bt.length<=2000000) (hw:SmL wt) (hp:(l6 wt).1.length<=2000000):e3q tn hf bt wt pd dd la ta fr lf po dq (fun y0 y1 y2 y3 y4 y5 y6 y7 y8 y9 y10=>y0=D9 (⟨tn,hf,bt,wt,decide pd,(⟨la,ta,fr,lf,decide po⟩:Rk)⟩:Lr)/\y1=((⟨tn,hf,bt,wt,decide pd,(⟨la,ta,fr,lf,decide po⟩:Rk)⟩:Lr)).turn/\y2=((⟨tn,hf,bt,wt,decide pd,(⟨la,ta,fr,lf,decide po⟩:Rk)⟩:Lr)).half/\y3=((⟨tn,hf,bt,wt,decide pd,(⟨la,ta,fr,lf,decide po⟩:Rk)⟩:Lr)).bytes/\y4=((⟨tn,hf,bt,wt,decide pd,(⟨la,ta,fr,lf,decide po⟩:Rk)⟩:Lr)).wait/\y5=((⟨tn,hf,bt,wt,decide pd,(⟨la,ta,fr,lf,decide po⟩:Rk)⟩:Lr)).dead/\y6=(((⟨tn,hf,bt,wt,decide pd,(⟨la,ta,fr,lf,decide po⟩:Rk)⟩:Lr)).d).a0C/\y7=(((⟨tn,hf,bt,wt,decide pd,(⟨la,ta,fr,lf,decide po⟩:Rk)⟩:Lr)).d).At/\y8=(((⟨tn,hf,bt,wt,decide pd,(⟨la,ta,fr,lf,decide po⟩:Rk)⟩:Lr)).d).a0D/\y9=(((⟨tn,hf,bt,wt,decide pd,(⟨la,ta,fr,lf,decide po⟩:Rk)⟩:Lr)).d).Left/\y10=(((⟨tn,hf,bt,wt,decide pd,(⟨la,ta,fr,lf,decide po⟩:Rk)⟩:Lr)).d).Off):=by
 unfold e3q
 obtain ⟨g1,g2,_⟩:=a4m ok
 have hm:la.length<=8192:=ok.max
 have e:((la.length:Int)-2).tdiv 2=B3 ⟨la,ta,fr,lf,decide po⟩:=rfl
 rw [e]
 exact ⟨hw,by omega,⟨by omega,by omega⟩,⟨by omega,by omega⟩,⟨by omega,by omega⟩,rfl,rfl,rfl,rfl,rfl,rfl,rfl,rfl,rfl,rfl,rfl⟩
def e48 (tn:Int) (hf:Int) (bt:Str) (wt:List Str) (pd:Prop) (dd:Decidable pd) (la:List Str) (ta:List Int) (fr:List Str) (lf:Int) (po:Prop) (dq:Decidable po):FR U:=K8 Nrr [Rk.Ok (⟨la,ta,fr,lf,decide po⟩:Rk),List.length (α:=UInt8) bt<=2000000,SmL wt,List.length (α:=UInt8) (l6 wt).1<=2000000] [(0,.own 50 [.ref 1 0,.int .i64 tn,.int .i64 hf,.str bt,.acc 5,.bl pd dd]),(1,.own 58 [.acc 2,.acc 3,.acc 4,.int .i64 lf,.bl po dq]),(2,.ac (N:=U) 9 la),(3,.ac (N:=U) 3 ta),(4,.ac (N:=U) 9 fr),(5,.ac (N:=U) 9 wt)] 12 1 [.slot 0 (.int .i64),.tree [] [.own (some 200) 50 [.to 1,.v (.int .i64),.v (.int .i64),.v (.str),.v (.acc 9),.v (.bool)],.own (some 201) 58 [.v (.acc 9),.v (.acc 3),.v (.acc 9),.v (.int .i64),.v (.bool)]]] (D9 (⟨tn,hf,bt,wt,decide pd,(⟨la,ta,fr,lf,decide po⟩:Rk)⟩:Lr),((((⟨tn,hf,bt,wt,decide pd,(⟨la,ta,fr,lf,decide po⟩:Rk)⟩:Lr)).turn,((⟨tn,hf,bt,wt,decide pd,(⟨la,ta,fr,lf,decide po⟩:Rk)⟩:Lr)).half,((⟨tn,hf,bt,wt,decide pd,(⟨la,ta,fr,lf,decide po⟩:Rk)⟩:Lr)).bytes,((⟨tn,hf,bt,wt,decide pd,(⟨la,ta,fr,lf,decide po⟩:Rk)⟩:Lr)).wait,((⟨tn,hf,bt,wt,decide pd,(⟨la,ta,fr,lf,decide po⟩:Rk)⟩:Lr)).dead,()),((((⟨tn,hf,bt,wt,decide pd,(⟨la,ta,fr,lf,decide po⟩:Rk)⟩:Lr)).d).a0C,(((⟨tn,hf,bt,wt,decide pd,(⟨la,ta,fr,lf,decide po⟩:Rk)⟩:Lr)).d).At,(((⟨tn,hf,bt,wt,decide pd,(⟨la,ta,fr,lf,decide po⟩:Rk)⟩:Lr)).d).a0D,(((⟨tn,hf,bt,wt,decide pd,(⟨la,ta,fr,lf,decide po⟩:Rk)⟩:Lr)).d).Left,(((⟨tn,hf,bt,wt,decide pd,(⟨la,ta,fr,lf,decide po⟩:Rk)⟩:Lr)).d).Off,()),()),())
def d8y:FC U:=⟨[],[],fun a its=>match a,its with | [.ref 0 0],[(0,.own 50 [.ref 1 0,.int .i64 tn,.int .i64 hf,.str bt,.acc 5,.bl pd dd]),(1,.own 58 [.acc 2,.acc 3,.acc 4,.int .i64 lf,.bl po dq]),(2,.ac 9 la),(3,.ac 3 ta),(4,.ac 9 fr),(5,.ac 9 wt)]=>some (e48 tn hf bt wt pd dd la ta fr lf po dq) | _,_=>none⟩
theorem d1o (args:List (SV U)) (its:a7 U) (r:FR U) (h:d8y.C args its=some r) (ho:n6 r.ob):r6 Tryz.prog U eT Gl 18 args its (2 * its.length) (fun k=>n6 r.hy->k r.v r.its r.n):=by
 unfold d8y at h
 simp only at h
 split at h
 . rename_i tn hf bt pd dd lf po dq la ta fr wt
   cases h
   exact G8 (an:=d5w 18) b8s (l5 b8s M9 d5w 3) Tryz.func18 (n:=1) rfl (vs:=[.slot 0 (.int .i64),.tree [] [.own (some 200) 50 [.to 1,.v (.int .i64),.v (.int .i64),.v (.str),.v (.acc 9),.v (.bool)],.own (some 201) 58 [.v (.acc 9),.v (.acc 3),.v (.acc 9),.v (.int .i64),.v (.bool)]]]) (X:=(D9 (⟨tn,hf,bt,wt,decide pd,(⟨la,ta,fr,lf,decide po⟩:Rk)⟩:Lr),((((⟨tn,hf,bt,wt,decide pd,(⟨la,ta,fr,lf,decide po⟩:Rk)⟩:Lr)).turn,((⟨tn,hf,bt,wt,decide pd,(⟨la,ta,fr,lf,decide po⟩:Rk)⟩:Lr)).half,((⟨tn,hf,bt,wt,decide pd,(⟨la,ta,fr,lf,decide po⟩:Rk)⟩:Lr)).bytes,((⟨tn,hf,bt,wt,decide pd,(⟨la,ta,fr,lf,decide po⟩:Rk)⟩:Lr)).wait,((⟨tn,hf,bt,wt,decide pd,(⟨la,ta,fr,lf,decide po⟩:Rk)⟩:Lr)).dead,()),((((⟨tn,hf,bt,wt,decide pd,(⟨la,ta,fr,lf,decide po⟩:Rk)⟩:Lr)).d).a0C,(((⟨tn,hf,bt,wt,decide pd,(⟨la,ta,fr,lf,decide po⟩:Rk)⟩:Lr)).d).At,(((⟨tn,hf,bt,wt,decide pd,(⟨la,ta,fr,lf,decide po⟩:Rk)⟩:Lr)).d).a0D,(((⟨tn,hf,bt,wt,decide pd,(⟨la,ta,fr,lf,decide po⟩:Rk)⟩:Lr)).d).Left,(((⟨tn,hf,bt,wt,decide pd,(⟨la,ta,fr,lf,decide po⟩:Rk)⟩:Lr)).d).Off,()),()),())) rfl (kc (e6h tn hf bt wt pd dd la ta fr lf po dq ho.1 ho.2.1 ho.2.2.1 ho.2.2.2.1) (by kernel_rfl))
 . cases h
def e27:Env:=(Nrr.a0K 18 Tryz.f18).a0N 18 d8y
theorem b2w:l7 e27:=(b8s.a0K Tryz.call18 Tryz.func18).a0N Tryz.call18 d1o
def e64:Nat->Ann:=fun | 40=>⟨33,nn,nn⟩ | _=>⟨0,nn,nn⟩
def Vra (tn:Int) (hf:Int) (bt:Str) (wt:List Str) (pd:Prop) (dd:Decidable pd) (la:List Str) (ta:List Int) (fr:List Str) (lf:Int) (po:Prop) (dq:Decidable po) (l:List Str) (Q:Int->Int->Int->Str->List Str->Bool->List Str->List Int->List Str->Int->Bool->Prop):Prop :=
(pd->Q (9:Int) tn hf bt wt (decide pd) la ta fr lf (decide po))/\(¬pd->SmL l/\(shN l≠0->Q (shN l) tn hf bt wt (decide pd) la ta fr lf (decide po))/\(¬shN l≠0->(Rk.mk la ta fr lf (decide po)).Ok/\List.length bt<=2000000/\SmL wt/\List.length (l6 wt).fst<=2000000/\(D9 (Lr.mk tn hf bt wt (decide pd) (Rk.mk la ta fr lf (decide po)))<(↑(List.length (l6 l).fst):Int)->Q (6:Int) tn hf bt wt (decide (decide pd=true)) la ta fr lf (decide (decide po=true)))/\(¬D9 (Lr.mk tn hf bt wt (decide pd) (Rk.mk la ta fr lf (decide po)))<(↑(List.length (l6 l).fst):Int)->(wt.length+l.length) * (some (16:Nat)).getD (0:Nat)<=140737488355328/\Q (0:Int) tn hf bt (wt++l) (decide (decide pd=true)) la ta fr lf (decide (decide po=true)))))
theorem pra (tn:Int) (hf:Int) (bt:Str) (wt:List Str) (pd:Prop) (dd:Decidable pd) (la:List Str) (ta:List Int) (fr:List Str) (lf:Int) (po:Prop) (dq:Decidable po) (l:List Str) (ok:Rk.Ok (⟨la,ta,fr,lf,decide po⟩:Rk)) (hb:bt.length<=2000000) (hw:SmL wt) (hp:(l6 wt).1.length<=2000000) (hl:SmL l) (hn:wt.length+l.length<=1000000):Vra tn hf bt wt pd dd la ta fr lf po dq l (fun y0 y1 y2 y3 y4 y5 y6 y7 y8 y9 y10=>y0=(C8 (⟨tn,hf,bt,wt,decide pd,(⟨la,ta,fr,lf,decide po⟩:Rk)⟩:Lr) l).1/\y1=((C8 (⟨tn,hf,bt,wt,decide pd,(⟨la,ta,fr,lf,decide po⟩:Rk)⟩:Lr) l).2).turn/\y2=((C8 (⟨tn,hf,bt,wt,decide pd,(⟨la,ta,fr,lf,decide po⟩:Rk)⟩:Lr) l).2).half/\y3=((C8 (⟨tn,hf,bt,wt,decide pd,(⟨la,ta,fr,lf,decide po⟩:Rk)⟩:Lr) l).2).bytes/\y4=((C8 (⟨tn,hf,bt,wt,decide pd,(⟨la,ta,fr,lf,decide po⟩:Rk)⟩:Lr) l).2).wait/\y5=((C8 (⟨tn,hf,bt,wt,decide pd,(⟨la,ta,fr,lf,decide po⟩:Rk)⟩:Lr) l).2).dead/\y6=(((C8 (⟨tn,hf,bt,wt,decide pd,(⟨la,ta,fr,lf,decide po⟩:Rk)⟩:Lr) l).2).d).a0C/\y7=(((C8 (⟨tn,hf,bt,wt,decide pd,(⟨la,ta,fr,lf,decide po⟩:Rk)⟩:Lr) l).2).d).At/\y8=(((C8 (⟨tn,hf,bt,wt,decide pd,(⟨la,ta,fr,lf,decide po⟩:Rk)⟩:Lr) l).2).d).a0D/\y9=(((C8 (⟨tn,hf,bt,wt,decide pd,(⟨la,ta,fr,lf,decide po⟩:Rk)⟩:Lr) l).2).d).Left/\y10=(((C8 (⟨tn,hf,bt,wt,decide pd,(⟨la,ta,fr,lf,decide po⟩:Rk)⟩:Lr) l).2).d).Off):=by
 unfold Vra C8
 have e16:(some 16).getD 0=16:=rfl
 rw [e16]
 simp only [b4J]
 refine ⟨fun h1=>?_,fun h1=>⟨hl,fun h2=>?_,fun h2=>⟨ok,hb,hw,hp,fun h3=>?_,fun h3=>⟨by omega,?_⟩⟩⟩⟩
 . rw [if_pos (b4R h1)]; simp
 . rw [if_neg (fun h=>h1 (b3V h)),if_pos h2]; simp
 . rw [if_neg (fun h=>h1 (b3V h)),if_neg h2,if_pos h3]; simp
 . rw [if_neg (fun h=>h1 (b3V h)),if_neg h2,if_neg h3]; simp
def e7k (tn:Int) (hf:Int) (bt:Str) (wt:List Str) (pd:Prop) (dd:Decidable pd) (la:List Str) (ta:List Int) (fr:List Str) (lf:Int) (po:Prop) (dq:Decidable po) (l:List Str):FR U:=K8 e27 [Rk.Ok (⟨la,ta,fr,lf,decide po⟩:Rk),List.length (α:=UInt8) bt<=2000000,SmL wt,List.length (α:=UInt8) (l6 wt).1<=2000000,SmL l,List.length (α:=Str) wt+List.length (α:=Str) l<=1000000] [(0,.own 50 [.ref 1 0,.int .i64 tn,.int .i64 hf,.str bt,.acc 5,.bl pd dd]),(1,.own 58 [.acc 2,.acc 3,.acc 4,.int .i64 lf,.bl po dq]),(2,.ac (N:=U) 9 la),(3,.ac (N:=U) 3 ta),(4,.ac (N:=U) 9 fr),(5,.ac (N:=U) 9 wt)] 12 1 [.slot 0 (.int .i64),.tree [] [.own (some 200) 50 [.to 1,.v (.int .i64),.v (.int .i64),.v (.str),.v (.acc 9),.v (.bool)],.own (some 201) 58 [.v (.acc 9),.v (.acc 3),.v (.acc 9),.v (.int .i64),.v (.bool)]]] ((C8 (⟨tn,hf,bt,wt,decide pd,(⟨la,ta,fr,lf,decide po⟩:Rk)⟩:Lr) l).1,((((C8 (⟨tn,hf,bt,wt,decide pd,(⟨la,ta,fr,lf,decide po⟩:Rk)⟩:Lr) l).2).turn,((C8 (⟨tn,hf,bt,wt,decide pd,(⟨la,ta,fr,lf,decide po⟩:Rk)⟩:Lr) l).2).half,((C8 (⟨tn,hf,bt,wt,decide pd,(⟨la,ta,fr,lf,decide po⟩:Rk)⟩:Lr) l).2).bytes,((C8 (⟨tn,hf,bt,wt,decide pd,(⟨la,ta,fr,lf,decide po⟩:Rk)⟩:Lr) l).2).wait,((C8 (⟨tn,hf,bt,wt,decide pd,(⟨la,ta,fr,lf,decide po⟩:Rk)⟩:Lr) l).2).dead,()),((((C8 (⟨tn,hf,bt,wt,decide pd,(⟨la,ta,fr,lf,decide po⟩:Rk)⟩:Lr) l).2).d).a0C,(((C8 (⟨tn,hf,bt,wt,decide pd,(⟨la,ta,fr,lf,decide po⟩:Rk)⟩:Lr) l).2).d).At,(((C8 (⟨tn,hf,bt,wt,decide pd,(⟨la,ta,fr,lf,decide po⟩:Rk)⟩:Lr) l).2).d).a0D,(((C8 (⟨tn,hf,bt,wt,decide pd,(⟨la,ta,fr,lf,decide po⟩:Rk)⟩:Lr) l).2).d).Left,(((C8 (⟨tn,hf,bt,wt,decide pd,(⟨la,ta,fr,lf,decide po⟩:Rk)⟩:Lr) l).2).d).Off,()),()),())
def fra:FC U:=⟨[1],[],fun a its=>match a,its with | [.ref 0 0,.sl 9 l],[(0,.own 50 [.ref 1 0,.int .i64 tn,.int .i64 hf,.str bt,.acc 5,.bl pd dd]),(1,.own 58 [.acc 2,.acc 3,.acc 4,.int .i64 lf,.bl po dq]),(2,.ac 9 la),(3,.ac 3 ta),(4,.ac 9 fr),(5,.ac 9 wt)]=>some (e7k tn hf bt wt pd dd la ta fr lf po dq l) | _,_=>none⟩
theorem e1w (args:List (SV U)) (its:a7 U) (r:FR U) (h:fra.C args its=some r) (ho:n6 r.ob):r6 Tryz.prog U eT Gl 40 args its (2 * its.length) (fun k=>n6 r.hy->k r.v r.its r.n):=by
 unfold fra at h
 simp only at h
 split at h
 . rename_i l tn hf bt pd dd lf po dq la ta fr wt
   cases h
   exact G8 (an:=e64 40) b2w (l5 b2w M9 e64 3) Tryz.func40 (n:=1) rfl (vs:=[.slot 0 (.int .i64),.tree [] [.own (some 200) 50 [.to 1,.v (.int .i64),.v (.int .i64),.v (.str),.v (.acc 9),.v (.bool)],.own (some 201) 58 [.v (.acc 9),.v (.acc 3),.v (.acc 9),.v (.int .i64),.v (.bool)]]]) (X:=((C8 (⟨tn,hf,bt,wt,decide pd,(⟨la,ta,fr,lf,decide po⟩:Rk)⟩:Lr) l).1,((((C8 (⟨tn,hf,bt,wt,decide pd,(⟨la,ta,fr,lf,decide po⟩:Rk)⟩:Lr) l).2).turn,((C8 (⟨tn,hf,bt,wt,decide pd,(⟨la,ta,fr,lf,decide po⟩:Rk)⟩:Lr) l).2).half,((C8 (⟨tn,hf,bt,wt,decide pd,(⟨la,ta,fr,lf,decide po⟩:Rk)⟩:Lr) l).2).bytes,((C8 (⟨tn,hf,bt,wt,decide pd,(⟨la,ta,fr,lf,decide po⟩:Rk)⟩:Lr) l).2).wait,((C8 (⟨tn,hf,bt,wt,decide pd,(⟨la,ta,fr,lf,decide po⟩:Rk)⟩:Lr) l).2).dead,()),((((C8 (⟨tn,hf,bt,wt,decide pd,(⟨la,ta,fr,lf,decide po⟩:Rk)⟩:Lr) l).2).d).a0C,(((C8 (⟨tn,hf,bt,wt,decide pd,(⟨la,ta,fr,lf,decide po⟩:Rk)⟩:Lr) l).2).d).At,(((C8 (⟨tn,hf,bt,wt,decide pd,(⟨la,ta,fr,lf,decide po⟩:Rk)⟩:Lr) l).2).d).a0D,(((C8 (⟨tn,hf,bt,wt,decide pd,(⟨la,ta,fr,lf,decide po⟩:Rk)⟩:Lr) l).2).d).Left,(((C8 (⟨tn,hf,bt,wt,decide pd,(⟨la,ta,fr,lf,decide po⟩:Rk)⟩:Lr) l).2).d).Off,()),()),())) rfl (kc (pra tn hf bt wt pd dd la ta fr lf po dq l ho.1 ho.2.1 ho.2.2.1 ho.2.2.2.1 ho.2.2.2.2.1 ho.2.2.2.2.2.1) (by kernel_rfl))
 . cases h
def Nra:Env:=(e27.a0K 40 Tryz.f40).a0N 40 fra
theorem b9v:l7 Nra:=(b2w.a0K Tryz.call40 Tryz.func40).a0N Tryz.call40 e1w
def e30:Nat->Ann:=fun | 72=>⟨80,nn,nn⟩ | _=>⟨0,nn,nn⟩
def Vrw (tn:Int) (hf:Int) (bt:Str) (wt:List Str) (pd:Prop) (dd:Decidable pd) (la:List Str) (ta:List Int) (fr:List Str) (lf:Int) (po:Prop) (dq:Decidable po) (hh:Int) (th:Int) (by_:Str) (Q:Int->Int->Int->Str->List Str->Bool->List Str->List Int->List Str->Int->Bool->Prop):Prop :=
(256:Int)≠0/\i6 (th.tdiv (256:Int))/\la.length<=100000/\i6 (hh * ((↑la.length:Int)-2).tdiv (2:Int))/\i6 ((2:Int)+hh * ((↑la.length:Int)-2).tdiv (2:Int))/\i6 ((2:Int)+hh * ((↑la.length:Int)-2).tdiv (2:Int)+th.tdiv (256:Int))/\i6 (th.tdiv (256:Int) * 256)/\((0:Int)<=th.tdiv (256:Int) * 256/\th.tdiv (256:Int) * 256<=(↑(List.length by_):Int))/\((Rk.mk la ta fr lf (decide po)).Ok/\(List.drop (th.tdiv (256:Int) * 256).toNat by_).length<=2000000/\(0:Int)<=(2:Int)+hh * ((↑la.length:Int)-2).tdiv (2:Int)+th.tdiv (256:Int)/\(2:Int)+hh * ((↑la.length:Int)-2).tdiv (2:Int)+th.tdiv (256:Int)<=10000/\ta.length+10000<=1000000)/\((rwA (Rk.mk la ta fr lf (decide po)) hh th by_).fst=0->i6 (tn+1)/\(2:Int)≠0/\i6 (tn+1)/\((0:Int)<=tn+1/\tn+1<=9000000000000000000/\(0:Int)<=hh/\hh<=255/\(0:Int)<=(↑(List.length by_):Int)/\(↑(List.length by_):Int)<=9000000000000000000)/\((rwD (rwA (Rk.mk la ta fr lf (decide po)) hh th by_)).Ok/\List.length (q5 (tn+1) hh (↑(List.length by_):Int))<=2000000/\(0:Int)<=(tn+1).tmod (2:Int)/\(tn+1).tmod (2:Int)<=10000/\(rwA (Rk.mk la ta fr lf (decide po)) hh th by_).snd.At.length+10000<=1000000)/\((rwB (rwD (rwA (Rk.mk la ta fr lf (decide po)) hh th by_)) tn hh by_).fst=9->((rwB (rwD (rwA (Rk.mk la ta fr lf (decide po)) hh th by_)) tn hh by_).fst≠0->Q (rwB (rwD (rwA (Rk.mk la ta fr lf (decide po)) hh th by_)) tn hh by_).fst tn hf bt wt true (rwB (rwD (rwA (Rk.mk la ta fr lf (decide po)) hh th by_)) tn hh by_).snd.a0C (rwB (rwD (rwA (Rk.mk la ta fr lf (decide po)) hh th by_)) tn hh by_).snd.At (rwB (rwD (rwA (Rk.mk la ta fr lf (decide po)) hh th by_)) tn hh by_).snd.a0D (rwB (rwD (rwA (Rk.mk la ta fr lf (decide po)) hh th by_)) tn hh by_).snd.Left (decide ((rwB (rwD (rwA (Rk.mk la ta fr lf (decide po)) hh th by_)) tn hh by_).snd.Off=true)))/\(¬(rwB (rwD (rwA (Rk.mk la ta fr lf (decide po)) hh th by_)) tn hh by_).fst≠0->i6 (tn+1)/\Q (0:Int) (tn+1) hh by_ [] true (rwB (rwD (rwA (Rk.mk la ta fr lf (decide po)) hh th by_)) tn hh by_).snd.a0C (rwB (rwD (rwA (Rk.mk la ta fr lf (decide po)) hh th by_)) tn hh by_).snd.At (rwB (rwD (rwA (Rk.mk la ta fr lf (decide po)) hh th by_)) tn hh by_).snd.a0D (rwB (rwD (rwA (Rk.mk la ta fr lf (decide po)) hh th by_)) tn hh by_).snd.Left (decide ((rwB (rwD (rwA (Rk.mk la ta fr lf (decide po)) hh th by_)) tn hh by_).snd.Off=true))))/\(¬(rwB (rwD (rwA (Rk.mk la ta fr lf (decide po)) hh th by_)) tn hh by_).fst=9->((rwB (rwD (rwA (Rk.mk la ta fr lf (decide po)) hh th by_)) tn hh by_).fst≠0->Q (rwB (rwD (rwA (Rk.mk la ta fr lf (decide po)) hh th by_)) tn hh by_).fst tn hf bt wt (decide pd) (rwB (rwD (rwA (Rk.mk la ta fr lf (decide po)) hh th by_)) tn hh by_).snd.a0C (rwB (rwD (rwA (Rk.mk la ta fr lf (decide po)) hh th by_)) tn hh by_).snd.At (rwB (rwD (rwA (Rk.mk la ta fr lf (decide po)) hh th by_)) tn hh by_).snd.a0D (rwB (rwD (rwA (Rk.mk la ta fr lf (decide po)) hh th by_)) tn hh by_).snd.Left (decide ((rwB (rwD (rwA (Rk.mk la ta fr lf (decide po)) hh th by_)) tn hh by_).snd.Off=true)))/\(¬(rwB (rwD (rwA (Rk.mk la ta fr lf (decide po)) hh th by_)) tn hh by_).fst≠0->i6 (tn+1)/\Q (0:Int) (tn+1) hh by_ [] (decide pd) (rwB (rwD (rwA (Rk.mk la ta fr lf (decide po)) hh th by_)) tn hh by_).snd.a0C (rwB (rwD (rwA (Rk.mk la ta fr lf (decide po)) hh th by_)) tn hh by_).snd.At (rwB (rwD (rwA (Rk.mk la ta fr lf (decide po)) hh th by_)) tn hh by_).snd.a0D (rwB (rwD (rwA (Rk.mk la ta fr lf (decide po)) hh th by_)) tn hh by_).snd.Left (decide ((rwB (rwD (rwA (Rk.mk la ta fr lf (decide po)) hh th by_)) tn hh by_).snd.Off=true)))))/\(¬(rwA (Rk.mk la ta fr lf (decide po)) hh th by_).fst=0->((rwA (Rk.mk la ta fr lf (decide po)) hh th by_).fst=9->((rwA (Rk.mk la ta fr lf (decide po)) hh th by_).fst≠0->Q (rwA (Rk.mk la ta fr lf (decide po)) hh th by_).fst tn hf bt wt true (rwA (Rk.mk la ta fr lf (decide po)) hh th by_).snd.a0C (rwA (Rk.mk la ta fr lf (decide po)) hh th by_).snd.At (rwA (Rk.mk la ta fr lf (decide po)) hh th by_).snd.a0D (rwA (Rk.mk la ta fr lf (decide po)) hh th by_).snd.Left (decide ((rwA (Rk.mk la ta fr lf (decide po)) hh th by_).snd.Off=true)))/\(¬(rwA (Rk.mk la ta fr lf (decide po)) hh th by_).fst≠0->i6 (tn+1)/\Q (0:Int) (tn+1) hh by_ [] true (rwA (Rk.mk la ta fr lf (decide po)) hh th by_).snd.a0C (rwA (Rk.mk la ta fr lf (decide po)) hh th by_).snd.At (rwA (Rk.mk la ta fr lf (decide po)) hh th by_).snd.a0D (rwA (Rk.mk la ta fr lf (decide po)) hh th by_).snd.Left (decide ((rwA (Rk.mk la ta fr lf (decide po)) hh th by_).snd.Off=true))))/\(¬(rwA (Rk.mk la ta fr lf (decide po)) hh th by_).fst=9->((rwA (Rk.mk la ta fr lf (decide po)) hh th by_).fst≠0->Q (rwA (Rk.mk la ta fr lf (decide po)) hh th by_).fst tn hf bt wt (decide pd) (rwA (Rk.mk la ta fr lf (decide po)) hh th by_).snd.a0C (rwA (Rk.mk la ta fr lf (decide po)) hh th by_).snd.At (rwA (Rk.mk la ta fr lf (decide po)) hh th by_).snd.a0D (rwA (Rk.mk la ta fr lf (decide po)) hh th by_).snd.Left (decide ((rwA (Rk.mk la ta fr lf (decide po)) hh th by_).snd.Off=true)))/\(¬(rwA (Rk.mk la ta fr lf (decide po)) hh th by_).fst≠0->i6 (tn+1)/\Q (0:Int) (tn+1) hh by_ [] (decide pd) (rwA (Rk.mk la ta fr lf (decide po)) hh th by_).snd.a0C (rwA (Rk.mk la ta fr lf (decide po)) hh th by_).snd.At (rwA (Rk.mk la ta fr lf (decide po)) hh th by_).snd.a0D (rwA (Rk.mk la ta fr lf (decide po)) hh th by_).snd.Left (decide ((rwA (Rk.mk la ta fr lf (decide po)) hh th by_).snd.Off=true)))))
theorem prw (tn:Int) (hf:Int) (bt:Str) (wt:List Str) (pd:Prop) (dd:Decidable pd) (la:List Str) (ta:List Int) (fr:List Str) (lf:Int) (po:Prop) (dq:Decidable po) (hh:Int) (th:Int) (by_:Str) (ok:Rk.Ok (⟨la,ta,fr,lf,decide po⟩:Rk)) (h0:0<=hh) (h1:hh<=1) (t0:0<=th) (t1:th<=(by_.length:Int)) (hb:by_.length<=1100000) (n0:0<=tn) (n1:tn<=8000000000000000000) (hc:ta.length+20000<=1000000) (h6:6<=la.length):Vrw tn hf bt wt pd dd la ta fr lf po dq hh th by_ (fun y0 y1 y2 y3 y4 y5 y6 y7 y8 y9 y10=>y0=(q7 (⟨tn,hf,bt,wt,decide pd,(⟨la,ta,fr,lf,decide po⟩:Rk)⟩:Lr) hh th by_).1/\y1=((q7 (⟨tn,hf,bt,wt,decide pd,(⟨la,ta,fr,lf,decide po⟩:Rk)⟩:Lr) hh th by_).2).turn/\y2=((q7 (⟨tn,hf,bt,wt,decide pd,(⟨la,ta,fr,lf,decide po⟩:Rk)⟩:Lr) hh th by_).2).half/\y3=((q7 (⟨tn,hf,bt,wt,decide pd,(⟨la,ta,fr,lf,decide po⟩:Rk)⟩:Lr) hh th by_).2).bytes/\y4=((q7 (⟨tn,hf,bt,wt,decide pd,(⟨la,ta,fr,lf,decide po⟩:Rk)⟩:Lr) hh th by_).2).wait/\y5=((q7 (⟨tn,hf,bt,wt,decide pd,(⟨la,ta,fr,lf,decide po⟩:Rk)⟩:Lr) hh th by_).2).dead/\y6=(((q7 (⟨tn,hf,bt,wt,decide pd,(⟨la,ta,fr,lf,decide po⟩:Rk)⟩:Lr) hh th by_).2).d).a0C/\y7=(((q7 (⟨tn,hf,bt,wt,decide pd,(⟨la,ta,fr,lf,decide po⟩:Rk)⟩:Lr) hh th by_).2).d).At/\y8=(((q7 (⟨tn,hf,bt,wt,decide pd,(⟨la,ta,fr,lf,decide po⟩:Rk)⟩:Lr) hh th by_).2).d).a0D/\y9=(((q7 (⟨tn,hf,bt,wt,decide pd,(⟨la,ta,fr,lf,decide po⟩:Rk)⟩:Lr) hh th by_).2).d).Left/\y10=(((q7 (⟨tn,hf,bt,wt,decide pd,(⟨la,ta,fr,lf,decide po⟩:Rk)⟩:Lr) hh th by_).2).d).Off):=by
 unfold Vrw q7 c7o
 simp only [e1j,b4J]
 obtain ⟨g1,g2,g3⟩:=a4m ok
 have g3:0<=B3 ⟨la,ta,fr,lf,decide po⟩:=g3 (show 2<=la.length by omega)
 have hm:la.length<=8192:=ok.max
 have e0:th.tdiv 256=th / 256:=b5P t0
 have eh:((la.length:Int)-2).tdiv 2=B3 ⟨la,ta,fr,lf,decide po⟩:=rfl
 have em:(tn+1).tmod 2=(tn+1) % 2:=b5I (by omega)
 have hmul:0<=hh * B3 ⟨la,ta,fr,lf,decide po⟩/\hh * B3 ⟨la,ta,fr,lf,decide po⟩<=4095:=by
  have:hh=0 ∨ hh=1:=by omega
  rcases this with e | e <;> rw [e]
  . rw [b8B]; exact ⟨by decide,by decide⟩
  . rw [b8G]; exact ⟨g3,g2⟩
 have hs:(o8 (List.drop (th.tdiv 256 * 256).toNat by_)).length<=4298:=by rw [H8,b3W]; omega
 obtain ⟨k1,k2,k3⟩:(rwA ⟨la,ta,fr,lf,decide po⟩ hh th by_).2.Ok/\(rwA ⟨la,ta,fr,lf,decide po⟩ hh th by_).2.a0C.length=la.length/\(rwA ⟨la,ta,fr,lf,decide po⟩ hh th by_).2.At.length<=ta.length+(o8 (List.drop (th.tdiv 256 * 256).toNat by_)).length :=
  P5 _ ok (by show ta.length+_<_; omega)
 rw [eh,em,e0]
 generalize hh * B3 ⟨la,ta,fr,lf,decide po⟩=M at hmul ⊢
 generalize rwA ⟨la,ta,fr,lf,decide po⟩ hh th by_=SA at k1 k2 k3 ⊢
 generalize rwB SA.2 tn hh by_=SB
 refine ⟨by decide,⟨by omega,by omega⟩,by omega,⟨by omega,by omega⟩,⟨by omega,by omega⟩,⟨by omega,by omega⟩,⟨by omega,by omega⟩,⟨by omega,by omega⟩,⟨ok,by rw [b3W]; omega,by omega,by omega,by omega⟩,fun h2=>?_,fun h2=>?_⟩
 . rw [if_pos h2]
   refine ⟨⟨by omega,by omega⟩,by decide,⟨by omega,by omega⟩,⟨by omega,by omega,h0,by omega,by omega,by omega⟩,⟨k1,by rw [a1o]; decide,by omega,by omega,by omega⟩,fun h3=>⟨fun h4=>?_,fun h4=>absurd h4 (by omega)⟩,fun h3=>⟨fun h4=>?_,fun h4=>⟨⟨by omega,by omega⟩,?_⟩⟩⟩
   . rw [if_neg h4]; unfold c8i; rw [if_pos h3]; exact ⟨rfl,rfl,rfl,rfl,rfl,rfl,rfl,rfl,rfl,rfl,rfl⟩
   . rw [if_neg h4]; unfold c8i; rw [if_neg h3]; exact ⟨rfl,rfl,rfl,rfl,rfl,rfl,rfl,rfl,rfl,rfl,rfl⟩
   . rw [if_pos (b4N.1 h4)]; exact ⟨rfl,rfl,rfl,rfl,rfl,rfl,rfl,rfl,rfl,rfl,rfl⟩
 . rw [if_neg h2]
   unfold c8i
   refine ⟨fun h3=>⟨fun _=>?_,fun h4=>absurd h2 (by omega)⟩,fun h3=>⟨fun _=>?_,fun h4=>absurd h2 (by omega)⟩⟩
   . rw [if_pos h3]; exact ⟨rfl,rfl,rfl,rfl,rfl,rfl,rfl,rfl,rfl,rfl,rfl⟩
   . rw [if_neg h3]; exact ⟨rfl,rfl,rfl,rfl,rfl,rfl,rfl,rfl,rfl,rfl,rfl⟩
def e7o (tn:Int) (hf:Int) (bt:Str) (wt:List Str) (pd:Prop) (dd:Decidable pd) (la:List Str) (ta:List Int) (fr:List Str) (lf:Int) (po:Prop) (dq:Decidable po) (hh:Int) (th:Int) (by_:Str):FR U:=K8 Nra [Rk.Ok (⟨la,ta,fr,lf,decide po⟩:Rk),0<=hh,hh<=1,0<=th,th<=(List.length (α:=UInt8) by_:Int),List.length (α:=UInt8) by_<=1100000,0<=tn,tn<=8000000000000000000,List.length (α:=Int) ta+20000<=1000000,6<=List.length (α:=Str) la] [(0,.own 50 [.ref 1 0,.int .i64 tn,.int .i64 hf,.str bt,.acc 5,.bl pd dd]),(1,.own 58 [.acc 2,.acc 3,.acc 4,.int .i64 lf,.bl po dq]),(2,.ac (N:=U) 9 la),(3,.ac (N:=U) 3 ta),(4,.ac (N:=U) 9 fr),(5,.ac (N:=U) 9 wt)] 12 1 [.slot 0 (.int .i64),.tree [] [.own (some 200) 50 [.to 1,.v (.int .i64),.v (.int .i64),.v (.str),.v (.acc 9),.v (.bool)],.own (some 201) 58 [.v (.acc 9),.v (.acc 3),.v (.acc 9),.v (.int .i64),.v (.bool)]]] ((q7 (⟨tn,hf,bt,wt,decide pd,(⟨la,ta,fr,lf,decide po⟩:Rk)⟩:Lr) hh th by_).1,((((q7 (⟨tn,hf,bt,wt,decide pd,(⟨la,ta,fr,lf,decide po⟩:Rk)⟩:Lr) hh th by_).2).turn,((q7 (⟨tn,hf,bt,wt,decide pd,(⟨la,ta,fr,lf,decide po⟩:Rk)⟩:Lr) hh th by_).2).half,((q7 (⟨tn,hf,bt,wt,decide pd,(⟨la,ta,fr,lf,decide po⟩:Rk)⟩:Lr) hh th by_).2).bytes,((q7 (⟨tn,hf,bt,wt,decide pd,(⟨la,ta,fr,lf,decide po⟩:Rk)⟩:Lr) hh th by_).2).wait,((q7 (⟨tn,hf,bt,wt,decide pd,(⟨la,ta,fr,lf,decide po⟩:Rk)⟩:Lr) hh th by_).2).dead,()),((((q7 (⟨tn,hf,bt,wt,decide pd,(⟨la,ta,fr,lf,decide po⟩:Rk)⟩:Lr) hh th by_).2).d).a0C,(((q7 (⟨tn,hf,bt,wt,decide pd,(⟨la,ta,fr,lf,decide po⟩:Rk)⟩:Lr) hh th by_).2).d).At,(((q7 (⟨tn,hf,bt,wt,decide pd,(⟨la,ta,fr,lf,decide po⟩:Rk)⟩:Lr) hh th by_).2).d).a0D,(((q7 (⟨tn,hf,bt,wt,decide pd,(⟨la,ta,fr,lf,decide po⟩:Rk)⟩:Lr) hh th by_).2).d).Left,(((q7 (⟨tn,hf,bt,wt,decide pd,(⟨la,ta,fr,lf,decide po⟩:Rk)⟩:Lr) hh th by_).2).d).Off,()),()),())
def frw:FC U:=⟨[],[],fun a its=>match a,its with | [.ref 0 0,.int .i64 hh,.int .i64 th,.str by_],[(0,.own 50 [.ref 1 0,.int .i64 tn,.int .i64 hf,.str bt,.acc 5,.bl pd dd]),(1,.own 58 [.acc 2,.acc 3,.acc 4,.int .i64 lf,.bl po dq]),(2,.ac 9 la),(3,.ac 3 ta),(4,.ac 9 fr),(5,.ac 9 wt)]=>some (e7o tn hf bt wt pd dd la ta fr lf po dq hh th by_) | _,_=>none⟩
theorem e0u (args:List (SV U)) (its:a7 U) (r:FR U) (h:frw.C args its=some r) (ho:n6 r.ob):r6 Tryz.prog U eT Gl 72 args its (2 * its.length) (fun k=>n6 r.hy->k r.v r.its r.n):=by
 unfold frw at h
 simp only at h
 split at h
 . rename_i hh th by_ tn hf bt pd dd lf po dq la ta fr wt
   cases h
   exact G8 (an:=e30 72) b9v (l5 b9v M9 e30 3) Tryz.func72 (n:=1) rfl (vs:=[.slot 0 (.int .i64),.tree [] [.own (some 200) 50 [.to 1,.v (.int .i64),.v (.int .i64),.v (.str),.v (.acc 9),.v (.bool)],.own (some 201) 58 [.v (.acc 9),.v (.acc 3),.v (.acc 9),.v (.int .i64),.v (.bool)]]]) (X:=((q7 (⟨tn,hf,bt,wt,decide pd,(⟨la,ta,fr,lf,decide po⟩:Rk)⟩:Lr) hh th by_).1,((((q7 (⟨tn,hf,bt,wt,decide pd,(⟨la,ta,fr,lf,decide po⟩:Rk)⟩:Lr) hh th by_).2).turn,((q7 (⟨tn,hf,bt,wt,decide pd,(⟨la,ta,fr,lf,decide po⟩:Rk)⟩:Lr) hh th by_).2).half,((q7 (⟨tn,hf,bt,wt,decide pd,(⟨la,ta,fr,lf,decide po⟩:Rk)⟩:Lr) hh th by_).2).bytes,((q7 (⟨tn,hf,bt,wt,decide pd,(⟨la,ta,fr,lf,decide po⟩:Rk)⟩:Lr) hh th by_).2).wait,((q7 (⟨tn,hf,bt,wt,decide pd,(⟨la,ta,fr,lf,decide po⟩:Rk)⟩:Lr) hh th by_).2).dead,()),((((q7 (⟨tn,hf,bt,wt,decide pd,(⟨la,ta,fr,lf,decide po⟩:Rk)⟩:Lr) hh th by_).2).d).a0C,(((q7 (⟨tn,hf,bt,wt,decide pd,(⟨la,ta,fr,lf,decide po⟩:Rk)⟩:Lr) hh th by_).2).d).At,(((q7 (⟨tn,hf,bt,wt,decide pd,(⟨la,ta,fr,lf,decide po⟩:Rk)⟩:Lr) hh th by_).2).d).a0D,(((q7 (⟨tn,hf,bt,wt,decide pd,(⟨la,ta,fr,lf,decide po⟩:Rk)⟩:Lr) hh th by_).2).d).Left,(((q7 (⟨tn,hf,bt,wt,decide pd,(⟨la,ta,fr,lf,decide po⟩:Rk)⟩:Lr) hh th by_).2).d).Off,()),()),())) rfl (kc (prw tn hf bt wt pd dd la ta fr lf po dq hh th by_ ho.1 ho.2.1 ho.2.2.1 ho.2.2.2.1 ho.2.2.2.2.1 ho.2.2.2.2.2.1 ho.2.2.2.2.2.2.1 ho.2.2.2.2.2.2.2.1 ho.2.2.2.2.2.2.2.2.1 ho.2.2.2.2.2.2.2.2.2.1) (by kernel_rfl))
 . cases h
def Nrw:Env:=(Nra.a0K 72 Tryz.f72).a0N 72 frw
theorem b8r:l7 Nrw:=(b9v.a0K Tryz.call72 Tryz.func72).a0N Tryz.call72 e0u
def e54:Nat->Ann:=fun | 41=>⟨40,nn,nn⟩ | _=>⟨0,nn,nn⟩
def a47 (bt:Str) (wt:List Str):=bt++(l6 wt).fst
def Vry (tn:Int) (hf:Int) (bt:Str) (wt:List Str) (pd:Prop) (dd:Decidable pd) (la:List Str) (ta:List Int) (fr:List Str) (lf:Int) (po:Prop) (dq:Decidable po) (Q:Int->Int->Int->Str->List Str->Bool->List Str->List Int->List Str->Int->Bool->Prop):Prop :=
(pd->Q (9:Int) tn hf bt wt (decide pd) la ta fr lf (decide po))/\(¬pd->((↑wt.length:Int)=0->Q (0:Int) tn hf bt wt (decide pd) la ta fr lf (decide po))/\(¬(↑wt.length:Int)=0->SmL wt/\List.length bt+List.length (l6 wt).fst<=9223372036854775807/\((Rk.mk la ta fr lf (decide po)).Ok/\(0:Int)<=hf/\hf<=1/\(0:Int)<=(↑(List.length bt):Int)/\(↑(List.length bt):Int)<=(↑(List.length (a47 bt wt)):Int)/\List.length (a47 bt wt)<=1100000/\(0:Int)<=tn/\tn<=8000000000000000000/\ta.length+20000<=1000000/\(6:Nat)<=la.length)/\Q (q7 (Lr.mk tn hf bt wt (decide pd) (Rk.mk la ta fr lf (decide po))) hf (↑(List.length bt):Int) (a47 bt wt)).fst (q7 (Lr.mk tn hf bt wt (decide pd) (Rk.mk la ta fr lf (decide po))) hf (↑(List.length bt):Int) (a47 bt wt)).snd.turn (q7 (Lr.mk tn hf bt wt (decide pd) (Rk.mk la ta fr lf (decide po))) hf (↑(List.length bt):Int) (a47 bt wt)).snd.half (q7 (Lr.mk tn hf bt wt (decide pd) (Rk.mk la ta fr lf (decide po))) hf (↑(List.length bt):Int) (a47 bt wt)).snd.bytes (q7 (Lr.mk tn hf bt wt (decide pd) (Rk.mk la ta fr lf (decide po))) hf (↑(List.length bt):Int) (a47 bt wt)).snd.wait (decide ((q7 (Lr.mk tn hf bt wt (decide pd) (Rk.mk la ta fr lf (decide po))) hf (↑(List.length bt):Int) (a47 bt wt)).snd.dead=true)) (q7 (Lr.mk tn hf bt wt (decide pd) (Rk.mk la ta fr lf (decide po))) hf (↑(List.length bt):Int) (a47 bt wt)).snd.d.a0C (q7 (Lr.mk tn hf bt wt (decide pd) (Rk.mk la ta fr lf (decide po))) hf (↑(List.length bt):Int) (a47 bt wt)).snd.d.At (q7 (Lr.mk tn hf bt wt (decide pd) (Rk.mk la ta fr lf (decide po))) hf (↑(List.length bt):Int) (a47 bt wt)).snd.d.a0D (q7 (Lr.mk tn hf bt wt (decide pd) (Rk.mk la ta fr lf (decide po))) hf (↑(List.length bt):Int) (a47 bt wt)).snd.d.Left (decide ((q7 (Lr.mk tn hf bt wt (decide pd) (Rk.mk la ta fr lf (decide po))) hf (↑(List.length bt):Int) (a47 bt wt)).snd.d.Off=true))))
theorem pry (tn:Int) (hf:Int) (bt:Str) (wt:List Str) (pd:Prop) (dd:Decidable pd) (la:List Str) (ta:List Int) (fr:List Str) (lf:Int) (po:Prop) (dq:Decidable po) (ok:Rk.Ok (⟨la,ta,fr,lf,decide po⟩:Rk)) (h0:0<=hf) (hf1:hf<=1) (n0:0<=tn) (n1:tn<=8000000000000000000) (hc:ta.length+20000<=1000000) (h6:6<=la.length) (hw:SmL wt) (hb:bt.length+(l6 wt).1.length<=1100000):Vry tn hf bt wt pd dd la ta fr lf po dq (fun y0 y1 y2 y3 y4 y5 y6 y7 y8 y9 y10=>y0=(w4 (⟨tn,hf,bt,wt,decide pd,(⟨la,ta,fr,lf,decide po⟩:Rk)⟩:Lr)).1/\y1=((w4 (⟨tn,hf,bt,wt,decide pd,(⟨la,ta,fr,lf,decide po⟩:Rk)⟩:Lr)).2).turn/\y2=((w4 (⟨tn,hf,bt,wt,decide pd,(⟨la,ta,fr,lf,decide po⟩:Rk)⟩:Lr)).2).half/\y3=((w4 (⟨tn,hf,bt,wt,decide pd,(⟨la,ta,fr,lf,decide po⟩:Rk)⟩:Lr)).2).bytes/\y4=((w4 (⟨tn,hf,bt,wt,decide pd,(⟨la,ta,fr,lf,decide po⟩:Rk)⟩:Lr)).2).wait/\y5=((w4 (⟨tn,hf,bt,wt,decide pd,(⟨la,ta,fr,lf,decide po⟩:Rk)⟩:Lr)).2).dead/\y6=(((w4 (⟨tn,hf,bt,wt,decide pd,(⟨la,ta,fr,lf,decide po⟩:Rk)⟩:Lr)).2).d).a0C/\y7=(((w4 (⟨tn,hf,bt,wt,decide pd,(⟨la,ta,fr,lf,decide po⟩:Rk)⟩:Lr)).2).d).At/\y8=(((w4 (⟨tn,hf,bt,wt,decide pd,(⟨la,ta,fr,lf,decide po⟩:Rk)⟩:Lr)).2).d).a0D/\y9=(((w4 (⟨tn,hf,bt,wt,decide pd,(⟨la,ta,fr,lf,decide po⟩:Rk)⟩:Lr)).2).d).Left/\y10=(((w4 (⟨tn,hf,bt,wt,decide pd,(⟨la,ta,fr,lf,decide po⟩:Rk)⟩:Lr)).2).d).Off):=by
 unfold Vry a47 w4
 simp only [b4J]
 refine ⟨fun h1=>?_,fun h1=>⟨fun h2=>?_,fun h2=>⟨hw,by omega,⟨ok,h0,hf1,by omega,by rw [b3P]; omega,by rw [b3P]; exact hb,n0,n1,hc,h6⟩,?_⟩⟩⟩
 . rw [if_pos (b4R h1)]; simp
 . rw [if_neg (fun h=>h1 (b3V h)),if_pos (show wt.length=0 by omega)]; simp
 . rw [if_neg (fun h=>h1 (b3V h)),if_neg (show ¬ wt.length=0 by omega)]; simp
def e72 (tn:Int) (hf:Int) (bt:Str) (wt:List Str) (pd:Prop) (dd:Decidable pd) (la:List Str) (ta:List Int) (fr:List Str) (lf:Int) (po:Prop) (dq:Decidable po):FR U:=K8 Nrw [Rk.Ok (⟨la,ta,fr,lf,decide po⟩:Rk),0<=hf,hf<=1,0<=tn,tn<=8000000000000000000,List.length (α:=Int) ta+20000<=1000000,6<=List.length (α:=Str) la,SmL wt,List.length (α:=UInt8) bt+List.length (α:=UInt8) (l6 wt).1<=1100000] [(0,.own 50 [.ref 1 0,.int .i64 tn,.int .i64 hf,.str bt,.acc 5,.bl pd dd]),(1,.own 58 [.acc 2,.acc 3,.acc 4,.int .i64 lf,.bl po dq]),(2,.ac (N:=U) 9 la),(3,.ac (N:=U) 3 ta),(4,.ac (N:=U) 9 fr),(5,.ac (N:=U) 9 wt)] 12 1 [.slot 0 (.int .i64),.tree [] [.own (some 200) 50 [.to 1,.v (.int .i64),.v (.int .i64),.v (.str),.v (.acc 9),.v (.bool)],.own (some 201) 58 [.v (.acc 9),.v (.acc 3),.v (.acc 9),.v (.int .i64),.v (.bool)]]] ((w4 (⟨tn,hf,bt,wt,decide pd,(⟨la,ta,fr,lf,decide po⟩:Rk)⟩:Lr)).1,((((w4 (⟨tn,hf,bt,wt,decide pd,(⟨la,ta,fr,lf,decide po⟩:Rk)⟩:Lr)).2).turn,((w4 (⟨tn,hf,bt,wt,decide pd,(⟨la,ta,fr,lf,decide po⟩:Rk)⟩:Lr)).2).half,((w4 (⟨tn,hf,bt,wt,decide pd,(⟨la,ta,fr,lf,decide po⟩:Rk)⟩:Lr)).2).bytes,((w4 (⟨tn,hf,bt,wt,decide pd,(⟨la,ta,fr,lf,decide po⟩:Rk)⟩:Lr)).2).wait,((w4 (⟨tn,hf,bt,wt,decide pd,(⟨la,ta,fr,lf,decide po⟩:Rk)⟩:Lr)).2).dead,()),((((w4 (⟨tn,hf,bt,wt,decide pd,(⟨la,ta,fr,lf,decide po⟩:Rk)⟩:Lr)).2).d).a0C,(((w4 (⟨tn,hf,bt,wt,decide pd,(⟨la,ta,fr,lf,decide po⟩:Rk)⟩:Lr)).2).d).At,(((w4 (⟨tn,hf,bt,wt,decide pd,(⟨la,ta,fr,lf,decide po⟩:Rk)⟩:Lr)).2).d).a0D,(((w4 (⟨tn,hf,bt,wt,decide pd,(⟨la,ta,fr,lf,decide po⟩:Rk)⟩:Lr)).2).d).Left,(((w4 (⟨tn,hf,bt,wt,decide pd,(⟨la,ta,fr,lf,decide po⟩:Rk)⟩:Lr)).2).d).Off,()),()),())
def fry:FC U:=⟨[],[],fun a its=>match a,its with | [.ref 0 0],[(0,.own 50 [.ref 1 0,.int .i64 tn,.int .i64 hf,.str bt,.acc 5,.bl pd dd]),(1,.own 58 [.acc 2,.acc 3,.acc 4,.int .i64 lf,.bl po dq]),(2,.ac 9 la),(3,.ac 3 ta),(4,.ac 9 fr),(5,.ac 9 wt)]=>some (e72 tn hf bt wt pd dd la ta fr lf po dq) | _,_=>none⟩
theorem e12 (args:List (SV U)) (its:a7 U) (r:FR U) (h:fry.C args its=some r) (ho:n6 r.ob):r6 Tryz.prog U eT Gl 41 args its (2 * its.length) (fun k=>n6 r.hy->k r.v r.its r.n):=by
 unfold fry at h
 simp only at h
 split at h
 . rename_i tn hf bt pd dd lf po dq la ta fr wt
   cases h
   exact G8 (an:=e54 41) b8r (l5 b8r M9 e54 3) Tryz.func41 (n:=1) rfl (vs:=[.slot 0 (.int .i64),.tree [] [.own (some 200) 50 [.to 1,.v (.int .i64),.v (.int .i64),.v (.str),.v (.acc 9),.v (.bool)],.own (some 201) 58 [.v (.acc 9),.v (.acc 3),.v (.acc 9),.v (.int .i64),.v (.bool)]]]) (X:=((w4 (⟨tn,hf,bt,wt,decide pd,(⟨la,ta,fr,lf,decide po⟩:Rk)⟩:Lr)).1,((((w4 (⟨tn,hf,bt,wt,decide pd,(⟨la,ta,fr,lf,decide po⟩:Rk)⟩:Lr)).2).turn,((w4 (⟨tn,hf,bt,wt,decide pd,(⟨la,ta,fr,lf,decide po⟩:Rk)⟩:Lr)).2).half,((w4 (⟨tn,hf,bt,wt,decide pd,(⟨la,ta,fr,lf,decide po⟩:Rk)⟩:Lr)).2).bytes,((w4 (⟨tn,hf,bt,wt,decide pd,(⟨la,ta,fr,lf,decide po⟩:Rk)⟩:Lr)).2).wait,((w4 (⟨tn,hf,bt,wt,decide pd,(⟨la,ta,fr,lf,decide po⟩:Rk)⟩:Lr)).2).dead,()),((((w4 (⟨tn,hf,bt,wt,decide pd,(⟨la,ta,fr,lf,decide po⟩:Rk)⟩:Lr)).2).d).a0C,(((w4 (⟨tn,hf,bt,wt,decide pd,(⟨la,ta,fr,lf,decide po⟩:Rk)⟩:Lr)).2).d).At,(((w4 (⟨tn,hf,bt,wt,decide pd,(⟨la,ta,fr,lf,decide po⟩:Rk)⟩:Lr)).2).d).a0D,(((w4 (⟨tn,hf,bt,wt,decide pd,(⟨la,ta,fr,lf,decide po⟩:Rk)⟩:Lr)).2).d).Left,(((w4 (⟨tn,hf,bt,wt,decide pd,(⟨la,ta,fr,lf,decide po⟩:Rk)⟩:Lr)).2).d).Off,()),()),())) rfl (kc (pry tn hf bt wt pd dd la ta fr lf po dq ho.1 ho.2.1 ho.2.2.1 ho.2.2.2.1 ho.2.2.2.2.1 ho.2.2.2.2.2.1 ho.2.2.2.2.2.2.1 ho.2.2.2.2.2.2.2.1 ho.2.2.2.2.2.2.2.2.1) (by kernel_rfl))
 . cases h
def Nry:Env:=(Nrw.a0K 41 Tryz.f41).a0N 41 fry
theorem b94:l7 Nry:=(b8r.a0K Tryz.call41 Tryz.func41).a0N Tryz.call41 e12
def e2p:Nat->Ann:=fun | 42=>⟨36,nn,nn⟩ | _=>⟨0,nn,nn⟩
def Vrc (tn:Int) (hf:Int) (bt:Str) (wt:List Str) (pd:Prop) (dd:Decidable pd) (la:List Str) (ta:List Int) (fr:List Str) (lf:Int) (po:Prop) (dq:Decidable po) (l:List Str) (Q:Int->Int->Int->Str->List Str->Bool->List Str->List Int->List Str->Int->Bool->Prop):Prop :=
(pd->Q (9:Int) tn hf bt wt (decide pd) la ta fr lf (decide po))/\(¬pd->SmL l/\(shN l≠0->Q (shN l) tn hf bt wt (decide pd) la ta fr lf (decide po))/\(¬shN l≠0->la.length<=100000/\i6 (((↑la.length:Int)-2).tdiv (2:Int) * 256)/\(((↑la.length:Int)-2).tdiv (2:Int) * 256<(↑(List.length (l6 l).fst):Int)->Q (6:Int) tn hf bt wt (decide pd) la ta fr lf (decide po))/\(¬((↑la.length:Int)-2).tdiv (2:Int) * 256<(↑(List.length (l6 l).fst):Int)->i6 ((1:Int)-hf)/\(Rk.mk la ta fr lf (decide po)).Ok/\(0:Int)<=(1:Int)-hf/\(1:Int)-hf<=1/\(0:Int)<=0/\(0:Int)<=(↑(List.length (l6 l).fst):Int)/\List.length (l6 l).fst<=1100000/\(0:Int)<=tn/\tn<=8000000000000000000/\ta.length+20000<=1000000/\(6:Nat)<=la.length/\Q (q7 (Lr.mk tn hf bt wt (decide pd) (Rk.mk la ta fr lf (decide po))) ((1:Int)-hf) (0:Int) (l6 l).fst).fst (q7 (Lr.mk tn hf bt wt (decide pd) (Rk.mk la ta fr lf (decide po))) ((1:Int)-hf) (0:Int) (l6 l).fst).snd.turn (q7 (Lr.mk tn hf bt wt (decide pd) (Rk.mk la ta fr lf (decide po))) ((1:Int)-hf) (0:Int) (l6 l).fst).snd.half (q7 (Lr.mk tn hf bt wt (decide pd) (Rk.mk la ta fr lf (decide po))) ((1:Int)-hf) (0:Int) (l6 l).fst).snd.bytes (q7 (Lr.mk tn hf bt wt (decide pd) (Rk.mk la ta fr lf (decide po))) ((1:Int)-hf) (0:Int) (l6 l).fst).snd.wait (decide ((q7 (Lr.mk tn hf bt wt (decide pd) (Rk.mk la ta fr lf (decide po))) ((1:Int)-hf) (0:Int) (l6 l).fst).snd.dead=true)) (q7 (Lr.mk tn hf bt wt (decide pd) (Rk.mk la ta fr lf (decide po))) ((1:Int)-hf) (0:Int) (l6 l).fst).snd.d.a0C (q7 (Lr.mk tn hf bt wt (decide pd) (Rk.mk la ta fr lf (decide po))) ((1:Int)-hf) (0:Int) (l6 l).fst).snd.d.At (q7 (Lr.mk tn hf bt wt (decide pd) (Rk.mk la ta fr lf (decide po))) ((1:Int)-hf) (0:Int) (l6 l).fst).snd.d.a0D (q7 (Lr.mk tn hf bt wt (decide pd) (Rk.mk la ta fr lf (decide po))) ((1:Int)-hf) (0:Int) (l6 l).fst).snd.d.Left (decide ((q7 (Lr.mk tn hf bt wt (decide pd) (Rk.mk la ta fr lf (decide po))) ((1:Int)-hf) (0:Int) (l6 l).fst).snd.d.Off=true)))))
theorem prc (tn:Int) (hf:Int) (bt:Str) (wt:List Str) (pd:Prop) (dd:Decidable pd) (la:List Str) (ta:List Int) (fr:List Str) (lf:Int) (po:Prop) (dq:Decidable po) (l:List Str) (ok:Rk.Ok (⟨la,ta,fr,lf,decide po⟩:Rk)) (h0:0<=hf) (hf1:hf<=1) (n0:0<=tn) (n1:tn<=8000000000000000000) (hc:ta.length+20000<=1000000) (h6:6<=la.length) (hw:SmL wt) (hl:SmL l):Vrc tn hf bt wt pd dd la ta fr lf po dq l (fun y0 y1 y2 y3 y4 y5 y6 y7 y8 y9 y10=>y0=(v8 (⟨tn,hf,bt,wt,decide pd,(⟨la,ta,fr,lf,decide po⟩:Rk)⟩:Lr) l).1/\y1=((v8 (⟨tn,hf,bt,wt,decide pd,(⟨la,ta,fr,lf,decide po⟩:Rk)⟩:Lr) l).2).turn/\y2=((v8 (⟨tn,hf,bt,wt,decide pd,(⟨la,ta,fr,lf,decide po⟩:Rk)⟩:Lr) l).2).half/\y3=((v8 (⟨tn,hf,bt,wt,decide pd,(⟨la,ta,fr,lf,decide po⟩:Rk)⟩:Lr) l).2).bytes/\y4=((v8 (⟨tn,hf,bt,wt,decide pd,(⟨la,ta,fr,lf,decide po⟩:Rk)⟩:Lr) l).2).wait/\y5=((v8 (⟨tn,hf,bt,wt,decide pd,(⟨la,ta,fr,lf,decide po⟩:Rk)⟩:Lr) l).2).dead/\y6=(((v8 (⟨tn,hf,bt,wt,decide pd,(⟨la,ta,fr,lf,decide po⟩:Rk)⟩:Lr) l).2).d).a0C/\y7=(((v8 (⟨tn,hf,bt,wt,decide pd,(⟨la,ta,fr,lf,decide po⟩:Rk)⟩:Lr) l).2).d).At/\y8=(((v8 (⟨tn,hf,bt,wt,decide pd,(⟨la,ta,fr,lf,decide po⟩:Rk)⟩:Lr) l).2).d).a0D/\y9=(((v8 (⟨tn,hf,bt,wt,decide pd,(⟨la,ta,fr,lf,decide po⟩:Rk)⟩:Lr) l).2).d).Left/\y10=(((v8 (⟨tn,hf,bt,wt,decide pd,(⟨la,ta,fr,lf,decide po⟩:Rk)⟩:Lr) l).2).d).Off):=by
 unfold Vrc v8
 simp only [b4J]
 obtain ⟨g1,g2,_⟩:=a4m ok
 have hm:la.length<=8192:=ok.max
 have e:((la.length:Int)-2).tdiv 2=B3 ⟨la,ta,fr,lf,decide po⟩:=rfl
 rw [e]
 refine ⟨fun h1=>?_,fun h1=>⟨hl,fun h2=>?_,fun h2=>⟨by omega,⟨by omega,by omega⟩,fun h3=>?_,fun h3=>⟨⟨by omega,by omega⟩,ok,by omega,by omega,by omega,by omega,by omega,n0,n1,hc,h6,?_⟩⟩⟩⟩
 . rw [if_pos (b4R h1)]; simp
 . rw [if_neg (fun h=>h1 (b3V h)),if_pos h2]; simp
 . rw [if_neg (fun h=>h1 (b3V h)),if_neg h2,if_pos h3]; simp
 . rw [if_neg (fun h=>h1 (b3V h)),if_neg h2,if_neg h3]; simp
def e6q (tn:Int) (hf:Int) (bt:Str) (wt:List Str) (pd:Prop) (dd:Decidable pd) (la:List Str) (ta:List Int) (fr:List Str) (lf:Int) (po:Prop) (dq:Decidable po) (l:List Str):FR U:=K8 Nry [Rk.Ok (⟨la,ta,fr,lf,decide po⟩:Rk),0<=hf,hf<=1,0<=tn,tn<=8000000000000000000,List.length (α:=Int) ta+20000<=1000000,6<=List.length (α:=Str) la,SmL wt,SmL l] [(0,.own 50 [.ref 1 0,.int .i64 tn,.int .i64 hf,.str bt,.acc 5,.bl pd dd]),(1,.own 58 [.acc 2,.acc 3,.acc 4,.int .i64 lf,.bl po dq]),(2,.ac (N:=U) 9 la),(3,.ac (N:=U) 3 ta),(4,.ac (N:=U) 9 fr),(5,.ac (N:=U) 9 wt)] 12 1 [.slot 0 (.int .i64),.tree [] [.own (some 200) 50 [.to 1,.v (.int .i64),.v (.int .i64),.v (.str),.v (.acc 9),.v (.bool)],.own (some 201) 58 [.v (.acc 9),.v (.acc 3),.v (.acc 9),.v (.int .i64),.v (.bool)]]] ((v8 (⟨tn,hf,bt,wt,decide pd,(⟨la,ta,fr,lf,decide po⟩:Rk)⟩:Lr) l).1,((((v8 (⟨tn,hf,bt,wt,decide pd,(⟨la,ta,fr,lf,decide po⟩:Rk)⟩:Lr) l).2).turn,((v8 (⟨tn,hf,bt,wt,decide pd,(⟨la,ta,fr,lf,decide po⟩:Rk)⟩:Lr) l).2).half,((v8 (⟨tn,hf,bt,wt,decide pd,(⟨la,ta,fr,lf,decide po⟩:Rk)⟩:Lr) l).2).bytes,((v8 (⟨tn,hf,bt,wt,decide pd,(⟨la,ta,fr,lf,decide po⟩:Rk)⟩:Lr) l).2).wait,((v8 (⟨tn,hf,bt,wt,decide pd,(⟨la,ta,fr,lf,decide po⟩:Rk)⟩:Lr) l).2).dead,()),((((v8 (⟨tn,hf,bt,wt,decide pd,(⟨la,ta,fr,lf,decide po⟩:Rk)⟩:Lr) l).2).d).a0C,(((v8 (⟨tn,hf,bt,wt,decide pd,(⟨la,ta,fr,lf,decide po⟩:Rk)⟩:Lr) l).2).d).At,(((v8 (⟨tn,hf,bt,wt,decide pd,(⟨la,ta,fr,lf,decide po⟩:Rk)⟩:Lr) l).2).d).a0D,(((v8 (⟨tn,hf,bt,wt,decide pd,(⟨la,ta,fr,lf,decide po⟩:Rk)⟩:Lr) l).2).d).Left,(((v8 (⟨tn,hf,bt,wt,decide pd,(⟨la,ta,fr,lf,decide po⟩:Rk)⟩:Lr) l).2).d).Off,()),()),())
def frc:FC U:=⟨[1],[],fun a its=>match a,its with | [.ref 0 0,.sl 9 l],[(0,.own 50 [.ref 1 0,.int .i64 tn,.int .i64 hf,.str bt,.acc 5,.bl pd dd]),(1,.own 58 [.acc 2,.acc 3,.acc 4,.int .i64 lf,.bl po dq]),(2,.ac 9 la),(3,.ac 3 ta),(4,.ac 9 fr),(5,.ac 9 wt)]=>some (e6q tn hf bt wt pd dd la ta fr lf po dq l) | _,_=>none⟩
theorem d9x (args:List (SV U)) (its:a7 U) (r:FR U) (h:frc.C args its=some r) (ho:n6 r.ob):r6 Tryz.prog U eT Gl 42 args its (2 * its.length) (fun k=>n6 r.hy->k r.v r.its r.n):=by
 unfold frc at h
 simp only at h
 split at h
 . rename_i l tn hf bt pd dd lf po dq la ta fr wt
   cases h
   exact G8 (an:=e2p 42) b94 (l5 b94 M9 e2p 3) Tryz.func42 (n:=1) rfl (vs:=[.slot 0 (.int .i64),.tree [] [.own (some 200) 50 [.to 1,.v (.int .i64),.v (.int .i64),.v (.str),.v (.acc 9),.v (.bool)],.own (some 201) 58 [.v (.acc 9),.v (.acc 3),.v (.acc 9),.v (.int .i64),.v (.bool)]]]) (X:=((v8 (⟨tn,hf,bt,wt,decide pd,(⟨la,ta,fr,lf,decide po⟩:Rk)⟩:Lr) l).1,((((v8 (⟨tn,hf,bt,wt,decide pd,(⟨la,ta,fr,lf,decide po⟩:Rk)⟩:Lr) l).2).turn,((v8 (⟨tn,hf,bt,wt,decide pd,(⟨la,ta,fr,lf,decide po⟩:Rk)⟩:Lr) l).2).half,((v8 (⟨tn,hf,bt,wt,decide pd,(⟨la,ta,fr,lf,decide po⟩:Rk)⟩:Lr) l).2).bytes,((v8 (⟨tn,hf,bt,wt,decide pd,(⟨la,ta,fr,lf,decide po⟩:Rk)⟩:Lr) l).2).wait,((v8 (⟨tn,hf,bt,wt,decide pd,(⟨la,ta,fr,lf,decide po⟩:Rk)⟩:Lr) l).2).dead,()),((((v8 (⟨tn,hf,bt,wt,decide pd,(⟨la,ta,fr,lf,decide po⟩:Rk)⟩:Lr) l).2).d).a0C,(((v8 (⟨tn,hf,bt,wt,decide pd,(⟨la,ta,fr,lf,decide po⟩:Rk)⟩:Lr) l).2).d).At,(((v8 (⟨tn,hf,bt,wt,decide pd,(⟨la,ta,fr,lf,decide po⟩:Rk)⟩:Lr) l).2).d).a0D,(((v8 (⟨tn,hf,bt,wt,decide pd,(⟨la,ta,fr,lf,decide po⟩:Rk)⟩:Lr) l).2).d).Left,(((v8 (⟨tn,hf,bt,wt,decide pd,(⟨la,ta,fr,lf,decide po⟩:Rk)⟩:Lr) l).2).d).Off,()),()),())) rfl (kc (prc tn hf bt wt pd dd la ta fr lf po dq l ho.1 ho.2.1 ho.2.2.1 ho.2.2.2.1 ho.2.2.2.2.1 ho.2.2.2.2.2.1 ho.2.2.2.2.2.2.1 ho.2.2.2.2.2.2.2.1 ho.2.2.2.2.2.2.2.2.1) (by kernel_rfl))
 . cases h
def Nrc:Env:=(Nry.a0K 42 Tryz.f42).a0N 42 frc
theorem b9p:l7 Nrc:=(b94.a0K Tryz.call42 Tryz.func42).a0N Tryz.call42 d9x
end Go.Proofs.YtckpdliipjekgaaGreat
end
section
namespace Go.Proofs.YtckpdliipjekgaaGreat
open Go Go.Wk Go.Wl Go.Rx Go.Wa Go.Wa
theorem c01:∀ (a b:Str),leN (a++b)=leN a+256 ^ a.length * leN b
 | [],b=>by show leN b=0+1 * leN b; omega
 | c::r,b=>by
  show (c.toNat:Int)+256 * leN (r++b)=(c.toNat:Int)+256 * leN r+256 ^ (r.length+1) * leN b
  rw [c01 r b,c0E,Int.mul_add,Int.mul_comm (256 ^ r.length) 256,Int.mul_assoc]
  omega
theorem e3t {b:Str} (hl:b.length=256):b.take 8=b.take 6++[ix b 6,ix b 7]:=by
 have e6:b.drop 6=ix b 6::b.drop 7:=H5 (l:=b) (i:=6) (by decide) (by omega)
 have e7:b.drop 7=ix b 7::b.drop 8:=H5 (l:=b) (i:=7) (by decide) (by omega)
 rw [show (8:Nat)=6+2 from rfl,List.take_add,e6,e7]
 rfl
theorem d6j {b:Str} (hl:b.length=256):∃ L,0<=L/\L<281474976710656/\leN (b.take 8)=L+281474976710656 * ((ix b 6).toNat+256 * (ix b 7).toNat):=by
 have h6:(b.take 6).length=6:=by rw [b3U]; omega
 have hlt:=a5y (b.take 6)
 rw [h6] at hlt
 refine ⟨leN (b.take 6),Y5 _,hlt,?_⟩
 rw [e3t hl,c01,h6]
 show _+(256:Int) ^ 6 * (((ix b 6).toNat:Int)+256 * (((ix b 7).toNat:Int)+256 * 0))=_
 rw [show (256:Int) ^ 6=281474976710656 by decide]
 omega
theorem d5o {c:UInt8} (h:c≠0):0<c.toNat:=by
 rcases b6Q c.toNat with e | e
 . exact absurd (b8I.1 e) h
 . exact e
theorem e33 {b:Str} (hl:b.length=256) (h:ix b 7≠0 ∨ ix b 6≠0) (a:Int):hdT b a=(0,0,0):=by
 obtain ⟨L,l0,l1,e⟩:=d6j hl
 have c6:(ix b 6).toNat<256:=(ix b 6).toNat_lt
 have c7:(ix b 7).toNat<256:=(ix b 7).toNat_lt
 have hp:0<(ix b 6).toNat ∨ 0<(ix b 7).toNat:=h.symm.imp d5o d5o
 have hg:D2 (b.take 8)<1 ∨ 1099511627776<D2 (b.take 8):=by
  unfold D2
  rw [I0,e]; omega
 unfold hdT
 rw [if_pos (hg.imp_right .inl)]
theorem b32 {b:Str} (h:leN b<9000000000000000000):D2 b=leN b:=by
 have:=Y5 b
 unfold D2
 rw [I0]; omega
theorem d8c {b:Str} (hl:b.length=256) (h7:ix b 7=0) (h6:ix b 6=0) (a:Int) :
  (leN (b.take 8)<=9000000000000000000/\leN ((b.take 13).drop 9)<4294967296)/\hdT b a=if ((1<=leN (b.take 8)/\leN (b.take 8)<=1099511627776)/\(leN (b.take 8)).tmod 2=a)/\((ix b 8).toNat:Int)<=1/\b=q5 (leN (b.take 8)) (ix b 8).toNat (leN ((b.take 13).drop 9)) then (leN (b.take 8),((ix b 8).toNat:Int),leN ((b.take 13).drop 9)) else (0,0,0):=by
 obtain ⟨L,l0,l1,e⟩:=d6j hl
 rw [h6,h7] at e
 have e:leN (b.take 8)=L:=by rw [e]; show L+281474976710656 * (((0:Nat):Int)+256 * ((0:Nat):Int))=L; omega
 have g1:D2 (b.take 8)=leN (b.take 8):=b32 (by omega)
 have e8:(b.take 9).drop 8=[ix b 8]:=by
  have e:b.drop 8=ix b 8::b.drop 9:=H5 (l:=b) (i:=8) (by decide) (by omega)
  rw [b6T,e]; rfl
 have g2:D2 ((b.take 9).drop 8)=(ix b 8).toNat:=by
  have c8:(ix b 8).toNat<256:=(ix b 8).toNat_lt
  have:leN [ix b 8]=(ix b 8).toNat:=by show ((ix b 8).toNat:Int)+256 * 0=_; omega
  rw [e8,b32 (by omega),this]
 have hm:leN ((b.take 13).drop 9)<4294967296:=by
  have h:=a5y ((b.take 13).drop 9)
  have hl4:((b.take 13).drop 9).length=4:=by rw [b3W,b3U]; omega
  rw [hl4] at h
  exact h
 have g3:D2 ((b.take 13).drop 9)=leN ((b.take 13).drop 9):=b32 (by omega)
 refine ⟨⟨by omega,hm⟩,?_⟩
 unfold hdT
 rw [g1,g2,g3]
 split
 . rename_i h
   rw [if_neg]
   rintro ⟨⟨⟨h1,h2⟩,h3⟩,h4,h5⟩
   rcases h with h | h | h | h | h
   . omega
   . omega
   . exact h h3
   . omega
   . exact h h5
 . rename_i h
   rw [if_pos]
   refine ⟨⟨⟨?_,?_⟩,?_⟩,?_,?_⟩
   . exact b4V fun hn=>h (.inl (by omega))
   . exact b4V fun hn=>h (.inr (.inl (by omega)))
   . exact b4V fun hn=>h (.inr (.inr (.inl hn)))
   . exact b4V fun hn=>h (.inr (.inr (.inr (.inl (by omega)))))
   . exact b4V fun hn=>h (.inr (.inr (.inr (.inr hn))))
theorem b0s {y:Rk} (ok:y.Ok) {a:Int} (h:(y.read a).2=0):(y.read a).1.length=256:=by
 unfold Rk.read at h ⊢
 split at h
 . simp at h
 . rename_i hb
   rw [if_neg hb]
   split at h
   . simp at h
   . rename_i ho
     rw [if_neg ho]
     cases e:y.now a with
     | none=>exact ok.a7N _ (Q4 (by omega) (by omega))
     | some s=>exact (b3v ok e).2.2
theorem d0n {p:Int×Int×Int} (h:0<=p.1):a1a p (0,0,0)=p:=by
 unfold a1a; rw [if_neg (show ¬ p.1<0 by omega)]
end Go.Proofs.YtckpdliipjekgaaGreat
end
section
namespace Go.Proofs.YtckpdliipjekgaaGreat
open Go Go.Wk Go.Wl Go.Rx Go.Wa 
attribute [local irreducible] o9
def c60:Nat->Ann:=fun | 32=>⟨154,fun | 23=>some ⟨[0,4,5],[.slot 12 .str,.slot 13 (.int .i64),.own 0 [.acc 9,.acc 3,.acc 9,.int .i64,.bool]]⟩ | 6=>some ⟨[0,4],[.slot 5 (.int .i64),.slot 6 (.int .i64),.tree [] [.own (some 4) 50 [.to 1,.v (.int .i64),.v (.int .i64),.v .str,.v (.acc 9),.v .bool],.own (some 0) 58 [.v (.acc 9),.v (.acc 3),.v (.acc 9),.v (.int .i64),.v .bool]]]⟩ | _=>none,nn⟩ | _=>⟨0,nn,nn⟩
def a0i  := Int.toNat (8:Int)
def b5l (x_3:Int) (x_14:List (List UInt8)) (x_13:Int):=(2:Int)+x_3 * ((↑x_14.length:Int)-2).tdiv (2:Int)+x_13
def b3s  := Int.toNat (13:Int)
def b20  := Int.toNat (9:Int)
def Vro (la:List Str) (ta:List Int) (fr:List Str) (lf:Int) (po:Prop) (dq:Decidable po) (Q0:Unit->Int->List Str->List Int->List Str->Int->Bool->Prop) (Q1:Int->Int->Str->List Str->Bool->List Str->List Int->List Str->Int->Bool->Int->Prop):Prop :=
((↑la.length:Int)<6->Q0 () (2:Int) la ta fr lf (decide po))/\(¬(↑la.length:Int)<6->∃ (I:Int->Int->Int->Int->List UInt8->List (List UInt8)->Bool->List (List UInt8)->List Int->List (List UInt8)->Int->Bool->Prop),∃ (m:Int->Int->Int->Int->List UInt8->List (List UInt8)->Bool->List (List UInt8)->List Int->List (List UInt8)->Int->Bool->Nat),I (0:Int) (0:Int) (0:Int) (0:Int) [] [] false la ta fr lf (decide po)/\∀ (x x_1 x_2 x_3:Int) (x_4:List UInt8) (x_5:List (List UInt8)) (x_6:Bool) (x_7:List (List UInt8)) (x_8:List Int) (x_9:List (List UInt8)) (x_10:Int) (x_11:Bool),I x x_1 x_2 x_3 x_4 x_5 x_6 x_7 x_8 x_9 x_10 x_11->(x_1<2->(Rk.mk x_7 x_8 x_9 x_10 (decide (x_11=true))).Ok/\(((Rk.mk x_7 x_8 x_9 x_10 (decide (x_11=true))).read x_1).snd≠0->Q0 () ((Rk.mk x_7 x_8 x_9 x_10 (decide (x_11=true))).read x_1).snd x_7 x_8 x_9 x_10 (decide (decide (x_11=true)=true)))/\(¬((Rk.mk x_7 x_8 x_9 x_10 (decide (x_11=true))).read x_1).snd≠0->(0:Int)<=7/\(7:Int)<(↑(List.length ((Rk.mk x_7 x_8 x_9 x_10 (decide (x_11=true))).read x_1).fst):Int)/\(¬ix ((Rk.mk x_7 x_8 x_9 x_10 (decide (x_11=true))).read x_1).fst (7:Int)≠0->(0:Int)<=6)/\(¬ix ((Rk.mk x_7 x_8 x_9 x_10 (decide (x_11=true))).read x_1).fst (7:Int)≠0->(6:Int)<(↑(List.length ((Rk.mk x_7 x_8 x_9 x_10 (decide (x_11=true))).read x_1).fst):Int))/\(ix ((Rk.mk x_7 x_8 x_9 x_10 (decide (x_11=true))).read x_1).fst (7:Int)≠0 ∨ ix ((Rk.mk x_7 x_8 x_9 x_10 (decide (x_11=true))).read x_1).fst (6:Int)≠0->i6 (x_1+1)/\I x (x_1+1) x_2 x_3 x_4 x_5 (decide (x_6=true)) x_7 x_8 x_9 x_10 (decide (decide (x_11=true)=true))/\m x (x_1+1) x_2 x_3 x_4 x_5 (decide (x_6=true)) x_7 x_8 x_9 x_10 (decide (decide (x_11=true)=true))<m x x_1 x_2 x_3 x_4 x_5 x_6 x_7 x_8 x_9 x_10 x_11)/\(¬(ix ((Rk.mk x_7 x_8 x_9 x_10 (decide (x_11=true))).read x_1).fst (7:Int)≠0 ∨ ix ((Rk.mk x_7 x_8 x_9 x_10 (decide (x_11=true))).read x_1).fst (6:Int)≠0)->(0:Int)<=8/\(8:Int)<=(↑(List.length ((Rk.mk x_7 x_8 x_9 x_10 (decide (x_11=true))).read x_1).fst):Int)/\(List.take a0i ((Rk.mk x_7 x_8 x_9 x_10 (decide (x_11=true))).read x_1).fst).length<=100000000/\leN (List.take a0i ((Rk.mk x_7 x_8 x_9 x_10 (decide (x_11=true))).read x_1).fst)<=9000000000000000000/\(0:Int)<=8/\(8:Int)<(↑(List.length ((Rk.mk x_7 x_8 x_9 x_10 (decide (x_11=true))).read x_1).fst):Int)/\(0:Int)<=9/\(9:Int)<=13/\(13:Int)<=(↑(List.length ((Rk.mk x_7 x_8 x_9 x_10 (decide (x_11=true))).read x_1).fst):Int)/\(List.drop b20 (List.take b3s ((Rk.mk x_7 x_8 x_9 x_10 (decide (x_11=true))).read x_1).fst)).length<=100000000/\leN (List.drop b20 (List.take b3s ((Rk.mk x_7 x_8 x_9 x_10 (decide (x_11=true))).read x_1).fst))<=9000000000000000000/\((1:Int)<=leN (List.take a0i ((Rk.mk x_7 x_8 x_9 x_10 (decide (x_11=true))).read x_1).fst)/\leN (List.take a0i ((Rk.mk x_7 x_8 x_9 x_10 (decide (x_11=true))).read x_1).fst)<=1099511627776->(2:Int)≠0)/\((((1:Int)<=leN (List.take a0i ((Rk.mk x_7 x_8 x_9 x_10 (decide (x_11=true))).read x_1).fst)/\leN (List.take a0i ((Rk.mk x_7 x_8 x_9 x_10 (decide (x_11=true))).read x_1).fst)<=1099511627776)/\(leN (List.take a0i ((Rk.mk x_7 x_8 x_9 x_10 (decide (x_11=true))).read x_1).fst)).tmod (2:Int)=x_1)/\(↑(ix ((Rk.mk x_7 x_8 x_9 x_10 (decide (x_11=true))).read x_1).fst (8:Int)).toNat:Int)<=1->(0:Int)<=leN (List.take a0i ((Rk.mk x_7 x_8 x_9 x_10 (decide (x_11=true))).read x_1).fst)/\leN (List.take a0i ((Rk.mk x_7 x_8 x_9 x_10 (decide (x_11=true))).read x_1).fst)<=9000000000000000000/\(0:Int)<=(↑(ix ((Rk.mk x_7 x_8 x_9 x_10 (decide (x_11=true))).read x_1).fst (8:Int)).toNat:Int)/\(↑(ix ((Rk.mk x_7 x_8 x_9 x_10 (decide (x_11=true))).read x_1).fst (8:Int)).toNat:Int)<=255/\(0:Int)<=leN (List.drop b20 (List.take b3s ((Rk.mk x_7 x_8 x_9 x_10 (decide (x_11=true))).read x_1).fst))/\leN (List.drop b20 (List.take b3s ((Rk.mk x_7 x_8 x_9 x_10 (decide (x_11=true))).read x_1).fst))<=9000000000000000000/\(((Rk.mk x_7 x_8 x_9 x_10 (decide (x_11=true))).read x_1).fst=q5 (leN (List.take a0i ((Rk.mk x_7 x_8 x_9 x_10 (decide (x_11=true))).read x_1).fst)) (↑(ix ((Rk.mk x_7 x_8 x_9 x_10 (decide (x_11=true))).read x_1).fst (8:Int)).toNat:Int) (leN (List.drop b20 (List.take b3s ((Rk.mk x_7 x_8 x_9 x_10 (decide (x_11=true))).read x_1).fst)))/\x_2<leN (List.take a0i ((Rk.mk x_7 x_8 x_9 x_10 (decide (x_11=true))).read x_1).fst)->i6 (x_1+1)/\I (leN (List.drop b20 (List.take b3s ((Rk.mk x_7 x_8 x_9 x_10 (decide (x_11=true))).read x_1).fst))) (x_1+1) (leN (List.take a0i ((Rk.mk x_7 x_8 x_9 x_10 (decide (x_11=true))).read x_1).fst)) (↑(ix ((Rk.mk x_7 x_8 x_9 x_10 (decide (x_11=true))).read x_1).fst (8:Int)).toNat:Int) x_4 x_5 (decide (x_6=true)) x_7 x_8 x_9 x_10 (decide (decide (x_11=true)=true))/\m (leN (List.drop b20 (List.take b3s ((Rk.mk x_7 x_8 x_9 x_10 (decide (x_11=true))).read x_1).fst))) (x_1+1) (leN (List.take a0i ((Rk.mk x_7 x_8 x_9 x_10 (decide (x_11=true))).read x_1).fst)) (↑(ix ((Rk.mk x_7 x_8 x_9 x_10 (decide (x_11=true))).read x_1).fst (8:Int)).toNat:Int) x_4 x_5 (decide (x_6=true)) x_7 x_8 x_9 x_10 (decide (decide (x_11=true)=true))<m x x_1 x_2 x_3 x_4 x_5 x_6 x_7 x_8 x_9 x_10 x_11)/\(¬(((Rk.mk x_7 x_8 x_9 x_10 (decide (x_11=true))).read x_1).fst=q5 (leN (List.take a0i ((Rk.mk x_7 x_8 x_9 x_10 (decide (x_11=true))).read x_1).fst)) (↑(ix ((Rk.mk x_7 x_8 x_9 x_10 (decide (x_11=true))).read x_1).fst (8:Int)).toNat:Int) (leN (List.drop b20 (List.take b3s ((Rk.mk x_7 x_8 x_9 x_10 (decide (x_11=true))).read x_1).fst)))/\x_2<leN (List.take a0i ((Rk.mk x_7 x_8 x_9 x_10 (decide (x_11=true))).read x_1).fst))->i6 (x_1+1)/\I x (x_1+1) x_2 x_3 x_4 x_5 (decide (x_6=true)) x_7 x_8 x_9 x_10 (decide (decide (x_11=true)=true))/\m x (x_1+1) x_2 x_3 x_4 x_5 (decide (x_6=true)) x_7 x_8 x_9 x_10 (decide (decide (x_11=true)=true))<m x x_1 x_2 x_3 x_4 x_5 x_6 x_7 x_8 x_9 x_10 x_11))/\(¬((((1:Int)<=leN (List.take a0i ((Rk.mk x_7 x_8 x_9 x_10 (decide (x_11=true))).read x_1).fst)/\leN (List.take a0i ((Rk.mk x_7 x_8 x_9 x_10 (decide (x_11=true))).read x_1).fst)<=1099511627776)/\(leN (List.take a0i ((Rk.mk x_7 x_8 x_9 x_10 (decide (x_11=true))).read x_1).fst)).tmod (2:Int)=x_1)/\(↑(ix ((Rk.mk x_7 x_8 x_9 x_10 (decide (x_11=true))).read x_1).fst (8:Int)).toNat:Int)<=1)->i6 (x_1+1)/\I x (x_1+1) x_2 x_3 x_4 x_5 (decide (x_6=true)) x_7 x_8 x_9 x_10 (decide (decide (x_11=true)=true))/\m x (x_1+1) x_2 x_3 x_4 x_5 (decide (x_6=true)) x_7 x_8 x_9 x_10 (decide (decide (x_11=true)=true))<m x x_1 x_2 x_3 x_4 x_5 x_6 x_7 x_8 x_9 x_10 x_11))))/\(¬x_1<2->(x_2=0->Q0 () (10:Int) x_7 x_8 x_9 x_10 (decide (x_11=true)))/\(¬x_2=0->x_7.length<=100000/\i6 (((↑x_7.length:Int)-2).tdiv (2:Int) * 256)/\(((↑x_7.length:Int)-2).tdiv (2:Int) * 256<x->Q0 () (10:Int) x_7 x_8 x_9 x_10 (decide (x_11=true)))/\(¬((↑x_7.length:Int)-2).tdiv (2:Int) * 256<x->∃ (I:List UInt8->Int->List (List UInt8)->List Int->List (List UInt8)->Int->Bool->Prop),∃ (m:List UInt8->Int->List (List UInt8)->List Int->List (List UInt8)->Int->Bool->Nat),I [] (0:Int) x_7 x_8 x_9 x_10 (decide (x_11=true))/\∀ (x_12:List UInt8) (x_13:Int) (x_14:List (List UInt8)) (x_15:List Int) (x_16:List (List UInt8)) (x_17:Int) (x_18:Bool),I x_12 x_13 x_14 x_15 x_16 x_17 x_18->((↑x_12.length:Int)<x->x_14.length<=100000/\i6 (x_3 * ((↑x_14.length:Int)-2).tdiv (2:Int))/\i6 ((2:Int)+x_3 * ((↑x_14.length:Int)-2).tdiv (2:Int))/\i6 (b5l x_3 x_14 x_13)/\(Rk.mk x_14 x_15 x_16 x_17 (decide (x_18=true))).Ok/\(((Rk.mk x_14 x_15 x_16 x_17 (decide (x_18=true))).read (b5l x_3 x_14 x_13)).snd≠0->Q0 () ((Rk.mk x_14 x_15 x_16 x_17 (decide (x_18=true))).read (b5l x_3 x_14 x_13)).snd x_14 x_15 x_16 x_17 (decide (decide (x_18=true)=true)))/\(¬((Rk.mk x_14 x_15 x_16 x_17 (decide (x_18=true))).read (b5l x_3 x_14 x_13)).snd≠0->x_12.length+List.length ((Rk.mk x_14 x_15 x_16 x_17 (decide (x_18=true))).read (b5l x_3 x_14 x_13)).fst<=9223372036854775807/\i6 (x_13+1)/\I (x_12++((Rk.mk x_14 x_15 x_16 x_17 (decide (x_18=true))).read (b5l x_3 x_14 x_13)).fst) (x_13+1) x_14 x_15 x_16 x_17 (decide (decide (x_18=true)=true))/\m (x_12++((Rk.mk x_14 x_15 x_16 x_17 (decide (x_18=true))).read (b5l x_3 x_14 x_13)).fst) (x_13+1) x_14 x_15 x_16 x_17 (decide (decide (x_18=true)=true))<m x_12 x_13 x_14 x_15 x_16 x_17 x_18))/\(¬(↑x_12.length:Int)<x->(0:Int)<=x/\x<=(↑x_12.length:Int)/\(List.take x.toNat x_12).length<=100000000/\((↑(List.take x.toNat x_12).length:Int)-(↑(List.length (D8 (List.take x.toNat x_12))):Int)≠x->Q0 () (10:Int) x_14 x_15 x_16 x_17 (decide (x_18=true)))/\(¬(↑(List.take x.toNat x_12).length:Int)-(↑(List.length (D8 (List.take x.toNat x_12))):Int)≠x->(0:Int)<=x/\x<=(↑x_12.length:Int)/\Q1 x_2 x_3 (List.take x.toNat x_12) x_5 (decide (x_6=true)) x_14 x_15 x_16 x_17 (decide (x_18=true)) (0:Int)))))))
theorem d8z {la:List Str} {ta:List Int} {fr:List Str} {lf:Int} {po:Prop} {dq:Decidable po} {Q0:Unit->Int->List Str->List Int->List Str->Int->Bool->Prop} {Q1:Int->Int->Str->List Str->Bool->List Str->List Int->List Str->Int->Bool->Int->Prop}:@Eq Prop (Vro la ta fr lf po dq Q0 Q1) (o9 (E:=Nrc) (Z4 Nrc HdK c60 3) (c60 32) Tryz.f32 [.ref 0 0] [(0,.own 58 [.acc 1,.acc 2,.acc 3,.int .i64 lf,.bl po dq]),(1,.ac (N:=U) 9 la),(2,.ac (N:=U) 3 ta),(3,.ac (N:=U) 9 fr)] [] 8 (a4c Nrc [(0,.own 58 [.acc 1,.acc 2,.acc 3,.int .i64 lf,.bl po dq]),(1,.ac (N:=U) 9 la),(2,.ac (N:=U) 3 ta),(3,.ac (N:=U) 9 fr)] 8 2 [[.slot 0 (.a0U),.slot 1 (.int .i64),.tree [] [.own (some 200) 58 [.v (.acc 9),.v (.acc 3),.v (.acc 9),.v (.int .i64),.v (.bool)]]],[.tree [(0,0)] [.own none 50 [.to 1,.v (.int .i64),.v (.int .i64),.v (.str),.v (.acc 9),.v (.bool)],.own (some 200) 58 [.v (.acc 9),.v (.acc 3),.v (.acc 9),.v (.int .i64),.v (.bool)]],.slot 1 (.int .i64)]] ((Q0,fun _ _ _ _ _ _ _=>(0:Nat)),((Q1,fun _ _ _ _ _ _ _ _ _ _ _=>(0:Nat)),())))):=by kernel_rfl
theorem e0y {la:List Str} {ta:List Int} {fr:List Str} {lf:Int} {po:Prop} {dq:Decidable po} {Q0:Unit->Int->List Str->List Int->List Str->Int->Bool->Prop} {Q1:Int->Int->Str->List Str->Bool->List Str->List Int->List Str->Int->Bool->Int->Prop} (h:Vro la ta fr lf po dq Q0 Q1):o9 (E:=Nrc) (Z4 Nrc HdK c60 3) (c60 32) Tryz.f32 [.ref 0 0] [(0,.own 58 [.acc 1,.acc 2,.acc 3,.int .i64 lf,.bl po dq]),(1,.ac (N:=U) 9 la),(2,.ac (N:=U) 3 ta),(3,.ac (N:=U) 9 fr)] [] 8 (a4c Nrc [(0,.own 58 [.acc 1,.acc 2,.acc 3,.int .i64 lf,.bl po dq]),(1,.ac (N:=U) 9 la),(2,.ac (N:=U) 3 ta),(3,.ac (N:=U) 9 fr)] 8 2 [[.slot 0 (.a0U),.slot 1 (.int .i64),.tree [] [.own (some 200) 58 [.v (.acc 9),.v (.acc 3),.v (.acc 9),.v (.int .i64),.v (.bool)]]],[.tree [(0,0)] [.own none 50 [.to 1,.v (.int .i64),.v (.int .i64),.v (.str),.v (.acc 9),.v (.bool)],.own (some 200) 58 [.v (.acc 9),.v (.acc 3),.v (.acc 9),.v (.int .i64),.v (.bool)]],.slot 1 (.int .i64)]] ((Q0,fun _ _ _ _ _ _ _=>(0:Nat)),((Q1,fun _ _ _ _ _ _ _ _ _ _ _=>(0:Nat)),()))):=by rw [<- d8z]; exact h
set_option maxHeartbeats 1000000 in
theorem pro (la:List Str) (ta:List Int) (fr:List Str) (lf:Int) (po:Prop) (dq:Decidable po) (ok:Rk.Ok (⟨la,ta,fr,lf,decide po⟩:Rk)):Vro la ta fr lf po dq (fun y0 y1 y2 y3 y4 y5 y6=>(r5 (⟨la,ta,fr,lf,decide po⟩:Rk)).1≠0/\y0=()/\y1=(r5 (⟨la,ta,fr,lf,decide po⟩:Rk)).1/\y2=((⟨la,ta,fr,lf,decide po⟩:Rk)).a0C/\y3=((⟨la,ta,fr,lf,decide po⟩:Rk)).At/\y4=((⟨la,ta,fr,lf,decide po⟩:Rk)).a0D/\y5=((⟨la,ta,fr,lf,decide po⟩:Rk)).Left/\y6=((⟨la,ta,fr,lf,decide po⟩:Rk)).Off) (fun y0 y1 y2 y3 y4 y5 y6 y7 y8 y9 y10=>(r5 (⟨la,ta,fr,lf,decide po⟩:Rk)).1=0/\y0=(r5 (⟨la,ta,fr,lf,decide po⟩:Rk)).2.1/\y1=(r5 (⟨la,ta,fr,lf,decide po⟩:Rk)).2.2.1/\y2=(r5 (⟨la,ta,fr,lf,decide po⟩:Rk)).2.2.2/\y3=([]:List Str)/\y4=false/\y5=((⟨la,ta,fr,lf,decide po⟩:Rk)).a0C/\y6=((⟨la,ta,fr,lf,decide po⟩:Rk)).At/\y7=((⟨la,ta,fr,lf,decide po⟩:Rk)).a0D/\y8=((⟨la,ta,fr,lf,decide po⟩:Rk)).Left/\y9=((⟨la,ta,fr,lf,decide po⟩:Rk)).Off/\y10=(0:Int)):=by
 unfold Vro b20 b3s b5l a0i
 have hm:la.length<=8192:=ok.max
 obtain ⟨f1,f2,f3⟩:=a4m ok
 refine ⟨fun h=>?_,fun h=>?_⟩
 . have e:r5 ⟨la,ta,fr,lf,decide po⟩=(2,0,0,[]):=by
     unfold r5; rw [if_pos (show la.length<6 by omega)]
   rw [e]; exact ⟨by simp,rfl,rfl,rfl,rfl,rfl,rfl,rfl⟩
 have f3:0<=B3 ⟨la,ta,fr,lf,decide po⟩:=f3 (show 2<=la.length by omega)
 have eO:r5 ⟨la,ta,fr,lf,decide po⟩=if (R9 ⟨la,ta,fr,lf,decide po⟩ 2 0 (0,0,0)).1≠0 then ((R9 ⟨la,ta,fr,lf,decide po⟩ 2 0 (0,0,0)).1,0,0,[]) else c0i ⟨la,ta,fr,lf,decide po⟩ (R9 ⟨la,ta,fr,lf,decide po⟩ 2 0 (0,0,0)).2:=by
  unfold r5; rw [if_neg (show ¬ la.length<6 by omega)]
 rw [eO]
 clear eO
 simp only [b4J]
 refine ⟨fun n a t hh b wt dd l0 a0 r0 n0 o0=>la=l0/\ta=a0/\fr=r0/\lf=n0/\decide po=o0/\b=[]/\wt=[]/\dd=false/\0<=a/\a<=2/\0<=hh/\hh<=1/\0<=n/\n<4294967296/\0<=t/\R9 ⟨la,ta,fr,lf,decide po⟩ (2-a).toNat a (t,hh,n)=R9 ⟨la,ta,fr,lf,decide po⟩ 2 0 (0,0,0),
  fun _ a _ _ _ _ _ _ _ _ _ _=>(2-a).toNat,⟨rfl,rfl,rfl,rfl,rfl,rfl,rfl,rfl,by omega,by omega,by omega,by omega,by omega,by omega,by omega,rfl⟩,?_⟩
 rintro n a t hh b wt dd l0 a0 r0 n0 o0 ⟨rfl,rfl,rfl,rfl,rfl,rfl,rfl,rfl,a0,a1,h0,h1,n0,n1,t0,hi⟩
 generalize hy:(⟨la,ta,fr,lf,decide po⟩:Rk)=y at ok f1 f2 f3 hi ⊢
 refine ⟨fun h2=>⟨ok,fun he=>?_,fun he=>?_⟩,fun h2=>?_⟩
 . rw [show (2-a).toNat=(2-(a+1)).toNat+1 by omega,R9,if_pos he] at hi
   rw [<- hi]
   simp only [if_pos he]
   subst hy
   refine ⟨he,?_⟩
   simp
 . have hz:(y.read a).2=0:=b4N.1 he
   rw [show (2-a).toNat=(2-(a+1)).toNat+1 by omega,R9,if_neg he] at hi
   have hl:=b0s ok hz
   generalize (y.read a).1=c at hi hl ⊢
   have hno:∀ d,hdT c a=d->d=(0,0,0)->R9 y (2-(a+1)).toNat (a+1) (t,hh,n)=R9 y 2 0 (0,0,0):=fun d e1 e2=>by
    rw [e1,e2,d0n t0] at hi; exact hi
   refine ⟨by decide,by omega,fun _=>by decide,fun _=>by omega,fun h3=>?_,fun h3=>?_⟩
   . exact ⟨⟨by omega,by omega⟩,⟨rfl,rfl,rfl,rfl,rfl,rfl,rfl,rfl,by omega,by omega,h0,h1,n0,n1,t0,hno _ rfl (e33 hl h3 a)⟩,by dsimp only; omega⟩
   have h7:ix c 7=0:=b4N.1 fun e=>h3 (.inl e)
   have h6:ix c 6=0:=b4N.1 fun e=>h3 (.inr e)
   obtain ⟨⟨q1,q2⟩,hy2⟩:=d8c hl h7 h6 a
   have c8:(ix c 8).toNat<256:=(ix c 8).toNat_lt
   have p1:=Y5 (c.take 8)
   have p2:=Y5 ((c.take 13).drop 9)
   have e8:Int.toNat 8=8:=rfl
   have e9:Int.toNat 9=9:=rfl
   have e13:Int.toNat 13=13:=rfl
   rw [e8,e9,e13]
   refine ⟨by decide,by omega,by rw [b3U]; omega,q1,by decide,by omega,by decide,by decide,by omega,by rw [b3W,b3U]; omega,by omega,fun _=>by decide,fun h4=>⟨p1,q1,by omega,by omega,p2,by omega,fun h5=>?_,fun h5=>?_⟩,fun h4=>?_⟩
   . refine ⟨⟨by omega,by omega⟩,⟨rfl,rfl,rfl,rfl,rfl,rfl,rfl,rfl,by omega,by omega,by omega,h4.2,p2,q2,p1,?_⟩,by dsimp only; omega⟩
     rw [hy2,if_pos ⟨h4.1,h4.2,h5.1⟩,a1a,if_pos h5.2] at hi
     exact hi
   . refine ⟨⟨by omega,by omega⟩,⟨rfl,rfl,rfl,rfl,rfl,rfl,rfl,rfl,by omega,by omega,h0,h1,n0,n1,t0,?_⟩,by dsimp only; omega⟩
     rw [hy2] at hi
     by_cases hq:c=q5 (leN (c.take 8)) (ix c 8).toNat (leN ((c.take 13).drop 9))
     . rw [if_pos ⟨h4.1,h4.2,hq⟩,a1a,if_neg (fun h=>h5 ⟨hq,h⟩)] at hi
       exact hi
     . rw [if_neg (fun h=>hq h.2.2),d0n t0] at hi
       exact hi
   . exact ⟨⟨by omega,by omega⟩,⟨rfl,rfl,rfl,rfl,rfl,rfl,rfl,rfl,by omega,by omega,h0,h1,n0,n1,t0,hno _ hy2 (if_neg fun h=>h4 ⟨h.1,h.2.1⟩)⟩,by dsimp only; omega⟩
 rw [show (2-a).toNat=0 by omega,R9] at hi
 rw [<- hi]
 simp only [ne_eq,b8U,if_false]
 clear hi h2 a0 a1
 have eh:((la.length:Int)-2).tdiv 2=B3 y:=by rw [<- hy]; rfl
 rw [eh]
 have hmul:0<=hh * B3 y/\hh * B3 y<=4095:=by
  have:hh=0 ∨ hh=1:=by omega
  rcases this with e | e <;> rw [e]
  . rw [b8B]; exact ⟨by decide,by decide⟩
  . rw [b8G]; exact ⟨f3,f2⟩
 unfold c0i
 dsimp only
 refine ⟨fun h3=>?_,fun h3=>⟨by omega,⟨by omega,by omega⟩,fun h4=>?_,fun h4=>?_⟩⟩
 . rw [if_pos (.inl h3)]; subst hy; simp
 . rw [if_pos (.inr h4)]; subst hy; simp
 rw [if_neg (fun h=>h.elim h3 h4)]
 generalize hF:(2+hh * B3 y)=F
 have F0:0<=F/\F<=4097:=by omega
 generalize hR:O5 y (A0 n) F []=R
 refine ⟨fun b i l0 a0 r0 n0 o0=>la=l0/\ta=a0/\fr=r0/\lf=n0/\decide po=o0/\∃ j:Nat,j<=A0 n/\b.length=256 * j/\i=(j:Int)/\O5 y (A0 n-j) (F+j) b=R,fun b _ _ _ _ _ _=>(n-b.length).toNat,
  ⟨rfl,rfl,rfl,rfl,rfl,0,by omega,rfl,rfl,by rw [c0A]; show O5 y (A0 n) (F+0) []=R; rw [Int.add_zero]; exact hR⟩,?_⟩
 rintro b i l0 a0 r0 n0' o0 ⟨rfl,rfl,rfl,rfl,rfl,j,j0,hb,rfl,hr⟩
 rw [hy,eh,hF]
 have hmn:=c25 n0 hb
 have hk:A0 n<=4096:=by unfold A0; omega
 refine ⟨fun h5=>⟨by omega,⟨by omega,by omega⟩,⟨by omega,by omega⟩,⟨by omega,by omega⟩,ok,fun h6=>?_,fun h6=>?_⟩,fun h5=>?_⟩
 . rw [show A0 n-j=(A0 n-(j+1))+1 by omega,O5,if_neg h6] at hr
   rw [<- hr,if_pos h6]; subst hy; refine ⟨h6,?_⟩; simp
 . have hz:(y.read (F+j)).2=0:=b4N.1 h6
   rw [show A0 n-j=(A0 n-(j+1))+1 by omega,O5,if_pos hz] at hr
   have hl:=b0s ok hz
   refine ⟨by rw [hl]; omega,⟨by omega,by omega⟩,⟨rfl,rfl,rfl,rfl,rfl,j+1,by omega,by rw [b3P,hl]; omega,by omega,?_⟩,by dsimp only; rw [b3P,hl]; omega⟩
   rw [<- hr,Int.add_assoc]; rfl
 . rw [show A0 n-j=0 by omega,O5] at hr
   rw [<- hr]
   have ht:(b.take n.toNat).length=n.toNat:=by rw [b3U]; omega
   refine ⟨n0,by omega,by omega,fun h6=>?_,fun h6=>?_⟩
   . rw [if_neg (by simp),if_pos h6]; subst hy; simp
   . rw [if_neg (by simp),if_neg h6]; subst hy; simp; omega
def e6y (la:List Str) (ta:List Int) (fr:List Str) (lf:Int) (po:Prop) (dq:Decidable po):PT U:=fun k=>cj [Rk.Ok (⟨la,ta,fr,lf,decide po⟩:Rk)] (a3r Nrc [(0,.own 58 [.acc 1,.acc 2,.acc 3,.int .i64 lf,.bl po dq]),(1,.ac (N:=U) 9 la),(2,.ac (N:=U) 3 ta),(3,.ac (N:=U) 9 fr)] 8 2 [[.slot 0 (.a0U),.slot 1 (.int .i64),.tree [] [.own (some 200) 58 [.v (.acc 9),.v (.acc 3),.v (.acc 9),.v (.int .i64),.v (.bool)]]],[.tree [(0,0)] [.own none 50 [.to 1,.v (.int .i64),.v (.int .i64),.v (.str),.v (.acc 9),.v (.bool)],.own (some 200) 58 [.v (.acc 9),.v (.acc 3),.v (.acc 9),.v (.int .i64),.v (.bool)]],.slot 1 (.int .i64)]] (([(r5 (⟨la,ta,fr,lf,decide po⟩:Rk)).1≠0],((),(r5 (⟨la,ta,fr,lf,decide po⟩:Rk)).1,((((⟨la,ta,fr,lf,decide po⟩:Rk)).a0C,((⟨la,ta,fr,lf,decide po⟩:Rk)).At,((⟨la,ta,fr,lf,decide po⟩:Rk)).a0D,((⟨la,ta,fr,lf,decide po⟩:Rk)).Left,((⟨la,ta,fr,lf,decide po⟩:Rk)).Off,()),()),())),(([(r5 (⟨la,ta,fr,lf,decide po⟩:Rk)).1=0],((((r5 (⟨la,ta,fr,lf,decide po⟩:Rk)).2.1,(r5 (⟨la,ta,fr,lf,decide po⟩:Rk)).2.2.1,(r5 (⟨la,ta,fr,lf,decide po⟩:Rk)).2.2.2,([]:List Str),false,()),(((⟨la,ta,fr,lf,decide po⟩:Rk)).a0C,((⟨la,ta,fr,lf,decide po⟩:Rk)).At,((⟨la,ta,fr,lf,decide po⟩:Rk)).a0D,((⟨la,ta,fr,lf,decide po⟩:Rk)).Left,((⟨la,ta,fr,lf,decide po⟩:Rk)).Off,()),()),(0:Int),())),())) k)
def gro:GD U:=⟨[],[],fun a its=>match a,its with | [.ref 0 0],[(0,.own 58 [.acc 1,.acc 2,.acc 3,.int .i64 lf,.bl po dq]),(1,.ac 9 la),(2,.ac 3 ta),(3,.ac 9 fr)]=>some (e6y la ta fr lf po dq) | _,_=>none⟩
set_option maxHeartbeats 1000000 in
theorem e0v (args:List (SV U)) (its:a7 U) (S:PT U) (h:gro.C args its=some S):r6 Tryz.prog U eT Gl 32 args its (2 * its.length) S:=by
 unfold gro at h
 simp only at h
 split at h
 . rename_i lf po dq la ta fr
   cases h
   exact a44 b9p (l5 b9p M9 c60 3) Tryz.func32 (n:=2) rfl (ss:=[[.slot 0 (.a0U),.slot 1 (.int .i64),.tree [] [.own (some 200) 58 [.v (.acc 9),.v (.acc 3),.v (.acc 9),.v (.int .i64),.v (.bool)]]],[.tree [(0,0)] [.own none 50 [.to 1,.v (.int .i64),.v (.int .i64),.v (.str),.v (.acc 9),.v (.bool)],.own (some 200) 58 [.v (.acc 9),.v (.acc 3),.v (.acc 9),.v (.int .i64),.v (.bool)]],.slot 1 (.int .i64)]]) (R:=(([(r5 (⟨la,ta,fr,lf,decide po⟩:Rk)).1≠0],((),(r5 (⟨la,ta,fr,lf,decide po⟩:Rk)).1,((((⟨la,ta,fr,lf,decide po⟩:Rk)).a0C,((⟨la,ta,fr,lf,decide po⟩:Rk)).At,((⟨la,ta,fr,lf,decide po⟩:Rk)).a0D,((⟨la,ta,fr,lf,decide po⟩:Rk)).Left,((⟨la,ta,fr,lf,decide po⟩:Rk)).Off,()),()),())),(([(r5 (⟨la,ta,fr,lf,decide po⟩:Rk)).1=0],((((r5 (⟨la,ta,fr,lf,decide po⟩:Rk)).2.1,(r5 (⟨la,ta,fr,lf,decide po⟩:Rk)).2.2.1,(r5 (⟨la,ta,fr,lf,decide po⟩:Rk)).2.2.2,([]:List Str),false,()),(((⟨la,ta,fr,lf,decide po⟩:Rk)).a0C,((⟨la,ta,fr,lf,decide po⟩:Rk)).At,((⟨la,ta,fr,lf,decide po⟩:Rk)).a0D,((⟨la,ta,fr,lf,decide po⟩:Rk)).Left,((⟨la,ta,fr,lf,decide po⟩:Rk)).Off,()),()),(0:Int),())),()))) (obs:=[Rk.Ok (⟨la,ta,fr,lf,decide po⟩:Rk)]) rfl (fun ho=>e0y (pro la ta fr lf po dq ho.1))
 . cases h
def Nro:Env:=Nrc.a0K 32 Tryz.f32
theorem d7w:l7 Nro:=b9p.a0K Tryz.call32 Tryz.func32
def Hro:Nat->Option (GD U):=S7 32 gro HdK
theorem c74:∀ K o args its S,Hro K=some o->o.C args its=some S->r6 Tryz.prog U eT Gl K args its (2 * its.length) S:=I8 e0v M9
def NB:Env:=(((Nro.a0N 22 fap).a0N 23 fsy).a0N 24 fco)
theorem d0d:l7 NB:=(((d7w.a0N Tryz.call22 c6v).a0N Tryz.call23 c70).a0N Tryz.call24 d07)
end Go.Proofs.YtckpdliipjekgaaGreat
end
section
namespace Go.Proofs.YtckpdliipjekgaaGreat
open Go Go.Wk Go.Wl Go.Rx Go.Wa Go.Wa
structure Cd (e:Err) (c:Int):Prop where
 nr:e.nr=c
 z:e=.nil↔c=0
 p:Err.is e 9↔c=9
theorem a3j:Cd .nil 0:=⟨rfl,⟨fun _=>rfl,fun _=>rfl⟩,⟨fun h=>by simp [Err.is,Err.num] at h,fun h=>by omega⟩⟩
theorem a3b {c:Int} (h0:1<=c) (h1:c<=16):Cd (.no c) c:=⟨e3d h0 h1,⟨fun h=>by simp at h,fun h=>by omega⟩,by simp [Err.is,Err.num]⟩
theorem c27 {w:Str} {c:Int} (h0:0<=c) (h1:c<=16):Cd (inE w (erN c)) c:=by
 by_cases e:c=0
 . subst e
   exact a3j
 . have e1:erN c=.no c:=by unfold erN; rw [if_neg e]
   have e2:∃ t,inE w (.no c)=.p t w c:=by
    unfold inE; rw [if_neg (by simp)]; exact ⟨_,rfl⟩
   obtain ⟨t,e2⟩:=e2
   rw [e1,e2]
   refine ⟨?_,⟨fun h=>by simp at h,fun h=>absurd h e⟩,by simp [Err.is,Err.num]⟩
   show (if 1<=c/\c<=16 then c else -1)=c
   rw [if_pos ⟨by omega,h1⟩]
theorem Cd.ne {e:Err} {c:Int} (h:Cd e c):e≠.nil↔c≠0:=not_congr h.z
theorem Z6:∀ (l:List Str) {x:Dk} {y:Rk} {a:Int},x.Ok->y.Ok->Rel x y->y.At.length+l.length<1000000->Cd (a8 x a l).1 (l9 y a l).1/\Rel (a8 x a l).2 (l9 y a l).2
 | [],x,y,a,ok,ok',r,_=>by
  obtain ⟨e,r'⟩:=c2b ok ok' r
  have:=a6e (x:=x)
  unfold a8 l9
  rw [<- e]
  exact ⟨c27 this.1 this.2,r'⟩
 | b::l,x,y,a,ok,ok',r,h=>by
  rw [b4F] at h
  obtain ⟨e,r'⟩:=b1k ok ok' r a b
  have hr:=a61 (x:=x) a b
  have hc:=a0t (y:=y) a b
  unfold a8 l9
  rw [<- e]
  by_cases h0:(x.write a b).1=0
  . rw [if_pos h0,if_pos h0]
    exact Z6 l (a01 ok _ _) (a2m ok' (by omega) _ _) r' (by omega)
  . rw [if_neg h0,if_neg h0]
    exact ⟨by rw [<- e]; exact c27 hr.1 hr.2,r'⟩
theorem a0d {x:Dk} {y:Rk} (r:Rel x y):c9 x=B3 y:=by unfold c9 B3; rw [r.a0B]
theorem c26 {x:Dk} {y:Rk} (r:Rel x y):∀ (k:Nat) (a:Int) (p:Int×Int×Int),Cd (a6i x k a p).1 (R9 y k a p).1/\((R9 y k a p).1=0->(a6i x k a p).2=(R9 y k a p).2)
 | 0,_,_=>⟨a3j,fun _=>rfl⟩
 | k+1,a,p=>by
  have e:=b6c r a
  have hr:=a3q (x:=x) a
  unfold a6i R9
  rw [<- e]
  by_cases h:(x.read a).2=0
  . have eA:hdA x a=((hdT (x.read a).1 a).1,(hdT (x.read a).1 a).2.1,(hdT (x.read a).1 a).2.2,.nil):=by unfold hdA; rw [if_pos h]
    rw [eA,if_neg (fun hn=>hn rfl),if_neg (fun hn=>hn h)]
    exact c26 r k (a+1) _
  . have eA:hdA x a=(0,0,0,inE sHd (erN (x.read a).2)):=by unfold hdA; rw [if_neg h]
    have c:=c27 (w:=sHd) hr.1 hr.2
    rw [eA,if_pos (c.ne.2 h),if_pos h]
    exact ⟨c,fun h'=>absurd h' h⟩
theorem b0q {x:Dk} {y:Rk} (r:Rel x y):∀ (k:Nat) (i:Int) (b:Str),Cd (I9 x k i b).2 (O5 y k i b).2/\(I9 x k i b).1=(O5 y k i b).1
 | 0,_,_=>⟨a3j,rfl⟩
 | k+1,i,b=>by
  have e:=b6c r i
  have hr:=a3q (x:=x) i
  unfold I9 O5
  rw [<- e]
  by_cases h:(x.read i).2=0
  . rw [if_pos h,if_pos h]; exact b0q r k _ _
  . rw [if_neg h,if_neg h]; exact ⟨c27 hr.1 hr.2,rfl⟩
theorem e2d (b:Str) (a:Int):0<=(hdT b a).1/\(hdT b a).1<=1099511627776/\0<=(hdT b a).2.1/\(hdT b a).2.1<=1/\0<=(hdT b a).2.2:=by
 unfold hdT
 split
 . exact ⟨by decide,by decide,by decide,by decide,by decide⟩
 . rename_i h
   have g1:=b22 (b:=(b.take 9).drop 8) (by rw [b3W,b3U]; omega)
   have g2:=b22 (b:=(b.take 13).drop 9) (by rw [b3W,b3U]; omega)
   dsimp only
   refine ⟨?_,?_,g1.1,?_,g2.1⟩
   . exact b4V fun hn=>h (.inl (by omega))
   . exact b4V fun hn=>h (.inr (.inl (by omega)))
   . exact b4V fun hn=>h (.inr (.inr (.inr (.inl (by omega)))))
theorem c0x {y:Rk}:∀ (k:Nat) (a:Int) (p:Int×Int×Int),(0<=p.1/\p.1<=1099511627776/\0<=p.2.1/\p.2.1<=1/\0<=p.2.2) ->
  0<=(R9 y k a p).2.1/\(R9 y k a p).2.1<=1099511627776/\0<=(R9 y k a p).2.2.1/\(R9 y k a p).2.2.1<=1/\0<=(R9 y k a p).2.2.2
 | 0,_,_,h=>h
 | k+1,a,p,h=>by
  unfold R9
  split
  . exact ⟨b5G 0,by show (0:Int)<=_; decide,b5G 0,by show (0:Int)<=1; decide,b5G 0⟩
  . refine c0x k _ _ ?_
    unfold a1a
    split
    . exact e2d _ _
    . exact h
theorem      a82 {x : Dk} {y : Rk} (ok : x.Ok) (r : Rel x y) : Cd (  s8 x).1 (  r5 y).1 /\ ((  r5 y).1 = 0 -> (  s8 x).2.1 = (  r5 y).2.1 /\ (  s8 x).2.2.1 = (  r5 y).2.2.1 /\ (  s8 x).2.2.2.1 = (  r5 y).2.2.2 /\ (  s8 x).2.2.2.2 =    o4 (  r5 y).2.2.2 /\    D8 (  r5 y).2.2.2 = [] /\
      0<=(r5 y).2.1/\(r5 y).2.1<=1099511627776/\0<=(r5 y).2.2.1/\(r5 y).2.2.1<=1/\((r5 y).2.2.2.length:Int)<=B3 y * 256/\6<=y.a0C.length):=by
 have hp:=ok.pos
 rw [r.a0B] at hp
 unfold s8 r5
 by_cases h6:y.a0C.length<6
 . rw [if_pos h6,b2p ok.pos (by rw [r.a0B]; exact h6),if_pos (by simp)]
   exact ⟨a3b (by decide) (by decide),fun h=>absurd h (by decide)⟩
 rw [if_neg h6,a5b (by rw [r.a0B]; omega),if_neg (fun h=>h rfl)]
 unfold b6a
 obtain ⟨c,hq⟩:=c26 r 2 0 (0,0,0)
 have hg:=c0x (y:=y) 2 0 (0,0,0) ⟨by decide,by decide,by decide,by decide,by decide⟩
 by_cases h0:(R9 y 2 0 (0,0,0)).1=0
 rotate_left
 . rw [if_pos (c.ne.2 h0),if_pos h0]
   exact ⟨c,fun h=>absurd h h0⟩
 rw [if_neg (fun h=>c.ne.1 h h0),if_neg (fun h=>h h0),hq h0]
 generalize (R9 y 2 0 (0,0,0)).2=p at hg ⊢
 obtain ⟨t,hh,n⟩:=p
 obtain ⟨t0,t1,h0',h1',n0⟩:=hg
 unfold a6h c0i
 rw [a0d r]
 dsimp only at t0 t1 h0' h1' n0 ⊢
 have c10:Cd (.no 10) 10:=a3b (by decide) (by decide)
 by_cases ht:t=0
 . rw [if_pos ht,if_pos (.inl ht)]; exact ⟨c10,fun h=>absurd h (by decide)⟩
 rw [if_neg ht]
 by_cases hb:B3 y * 256<n
 . rw [if_pos hb,if_pos (.inr hb)]; exact ⟨c10,fun h=>absurd h (by decide)⟩
 rw [if_neg hb,if_neg (show ¬ (t=0 ∨ B3 y * 256<n) from fun h=>h.elim ht hb)]
 obtain ⟨c2,e2⟩:=b0q r (A0 n) (2+hh * B3 y) []
 rw [e2]
 generalize (O5 y (A0 n) (2+hh * B3 y) []).1=B
 by_cases hz:(O5 y (A0 n) (2+hh * B3 y) []).2=0
 rotate_left
 . rw [if_pos (c2.ne.2 hz),if_pos hz]; exact ⟨c2,fun h=>absurd h hz⟩
 rw [if_neg (fun h=>c2.ne.1 h hz),if_neg (show ¬ (O5 y (A0 n) (2+hh * B3 y) []).2≠0 from fun h=>h hz)]
 by_cases hs:((B.take n.toNat).length:Int)-((D8 (B.take n.toNat)).length:Int)≠n
 . rw [if_pos hs,if_pos hs]; exact ⟨c10,fun h=>absurd h (by decide)⟩
 . rw [if_neg hs,if_neg hs]
   have hl:(B.take n.toNat).length<=n.toNat:=by rw [b3U]; omega
   refine ⟨a3j,fun _=>⟨rfl,rfl,rfl,rfl,b4O (by dsimp only; omega),t0,t1,h0',h1',by dsimp only; omega,by omega⟩⟩
theorem c1g:∀ (n:Nat) (b:Str),b.length<=n->7 * (o4 b).length+(D8 b).length<=b.length
 | 0,b,h=>by
  have e:b=[]:=b4O (by omega)
  subst e
  have hn:(C4 []).2.2≠.nil:=by rw [b3g]; simp
  rw [P2 hn,U2 hn]; decide
 | n+1,b,h=>by
  by_cases h1:(C4 b).2.2=.nil
  . have hl:=a48 h1
    have ih:=c1g n (C4 b).2.1 (by omega)
    rw [U0 h1,U3 h1,b4F]; omega
  . rw [P2 h1,U2 h1,b5R]; omega
theorem b47 {l:List Str} (hl:ShL l):∀ (n:Nat) (b:Str),b.length<=n->D8 b=[]->o4 (b++i7 l)=o4 b++l/\D8 (b++i7 l)=[]
 | 0,b,hn,h=>by
  have e:b=[]:=b4O (by omega)
  subst e
  have hn:(C4 []).2.2≠.nil:=by rw [b3g]; simp
  obtain ⟨g1,g2⟩:=R4 l hl
  rw [P2 hn]
  exact ⟨g1,g2⟩
 | n+1,b,hn,h=>by
  by_cases h1:(C4 b).2.2=.nil
  . have hc:¬ ((b.length:Int)<7 ∨ (C7 b<0 ∨ 30000<C7 b) ∨ (b.length:Int)<7+C7 b):=fun hc=>b7n hc h1
    have g0:0<=C7 b:=b4V fun e=>hc (.inr (.inl (.inl (by omega))))
    have g1:C7 b<=30000:=b4V fun e=>hc (.inr (.inl (.inr (by omega))))
    have g2:7+C7 b<=b.length:=b4V fun e=>hc (.inr (.inr (by omega)))
    have hf:=(c0c g0 g1 g2).2 h1
    have e1:=c5w h1
    have hlt:=a48 h1
    have hb:b=B4 ((b.take (7+C7 b).toNat).drop 7)++b.drop (7+C7 b).toNat:=by
     rw [<- hf,b6I]
    rw [U3 h1,e1] at h
    rw [e1] at hlt
    have ih:=b47 hl n (b.drop (7+C7 b).toNat) (by have:=hlt.1; dsimp only at this; omega) h
    have h2:=b0x (r:=(b.take (7+C7 b).toNat).drop 7) (t:=b.drop (7+C7 b).toNat++i7 l) hlt.2.1
    have e2:b++i7 l=B4 ((b.take (7+C7 b).toNat).drop 7)++(b.drop (7+C7 b).toNat++i7 l):=by
     rw [<- b4L,<- hb]
    have h3:(C4 (b++i7 l)).2.2=.nil:=by rw [e2,h2]
    rw [U0 h1,U0 h3,U3 h3,e1]
    rw [e2,h2]
    exact ⟨by rw [ih.1]; rfl,ih.2⟩
  . rw [U2 h1] at h
    subst h
    obtain ⟨g1,g2⟩:=R4 l hl
    rw [P2 h1]
    exact ⟨g1,g2⟩
structure In2 (i:Int) (g:Lg) (r:Lr):Prop where
 turn:g.turn=r.turn
 half:g.half=r.half
 bytes:g.bytes=r.bytes
 wait:g.wait=r.wait
 dead:g.dead=r.dead
 d:Rel g.d r.d
 a0Y:g.a0Y=o4 r.bytes
 okx:g.d.Ok
 oky:r.d.Ok
 big:6<=r.d.a0C.length
 h0:0<=r.half
 h1:r.half<=1
 t0:0<=r.turn
 t1:r.turn<=1099511627776+i
 sh:ShL r.wait
 sc:D8 r.bytes=[]
 room:(r.bytes.length:Int)+((i7 r.wait).length:Int)<=B3 r.d * 256
 cnt:(r.d.At.length:Int)<=10000 * (i+1)
theorem In2.b0H {i:Int} {g:Lg} {r:Lr} (I:In2 i g r):0<=B3 r.d/\B3 r.d<=4095:=by
 obtain ⟨g1,g2,g3⟩:=a4m I.oky
 have:=I.big
 exact ⟨g3 (by omega),g2⟩
theorem In2.lens {i:Int} {g:Lg} {r:Lr} (I:In2 i g r):r.bytes.length+(i7 r.wait).length<=1048320:=by
 have:=I.room
 have:=I.b0H
 omega
theorem In2.smW {i:Int} {g:Lg} {r:Lr} (I:In2 i g r):SmL r.wait:=Run.small I.sh (by have:=I.lens; omega)
theorem In2.pw {i:Int} {g:Lg} {r:Lr} (I:In2 i g r):l6 r.wait=(i7 r.wait,.nil):=T6 I.sh
theorem In2.b0A {i:Int} {g:Lg} {r:Lr} (I:In2 i g r):7 * (o4 r.bytes).length+7 * r.wait.length<=1048320:=by
 have:=c1g _ r.bytes (b4H _)
 have:=K3 r.wait
 have:=I.lens
 omega
theorem In2.lgB {i:Int} {g:Lg} {r:Lr} (I:In2 i g r) (hi:i<=100000):LgB g:=by
 have a:=I.lens
 have b:=I.b0A
 refine ⟨I.okx,by rw [I.half]; exact I.h0,by rw [I.half]; exact I.h1,by rw [I.bytes]; omega,by rw [I.turn]; exact I.t0,by rw [I.turn]; have:=I.t1; omega,by rw [I.a0Y,I.wait]; omega,by rw [I.wait]; exact I.smW,by rw [I.wait,I.pw]; show (i7 r.wait).length<=_; omega⟩
theorem In2.mono {i j:Int} {g:Lg} {r:Lr} (I:In2 i g r) (h:i<=j):In2 j g r :=
 { I with t1:=by have:=I.t1; omega,cnt:=by have:=I.cnt; omega }
theorem In2.app {i:Int} {g:Lg} {r:Lr} (I:In2 i g r) (l:List Str):Cd (B5 g l).1 (C8 r l).1/\In2 i (B5 g l).2 (C8 r l).2:=by
 unfold B5 C8
 by_cases hd:r.dead=true
 . rw [if_pos (show g.dead=true from I.dead.trans hd),if_pos hd]; exact ⟨a3b (by decide) (by decide),I⟩
 rw [if_neg (show ¬ g.dead=true from fun h=>hd (I.dead.symm.trans h)),if_neg hd]
 by_cases hs:ShL l
 rotate_left
 . have e:shN l=4:=by unfold shN; rw [if_neg hs]
   rw [a6p hs,e,if_pos (by simp),if_pos (by decide)]
   exact ⟨a3b (by decide) (by decide),I⟩
 have e:shN l=0:=by unfold shN; rw [if_pos hs]
 rw [T6 hs,e,if_neg (show ¬ ((.nil:Err)≠.nil) from fun h=>h rfl),if_neg (show ¬ ((0:Int)≠0) from fun h=>h rfl)]
 have er:a1W g=D9 r:=by
  unfold a1W F8 D9
  rw [a0d I.d,I.bytes,I.wait,X2 I.sh,I.pw]
 rw [er]
 by_cases hr:D9 r<((i7 l).length:Int)
 . rw [if_pos hr,if_pos hr]; exact ⟨a3b (by decide) (by decide),I⟩
 rw [if_neg hr,if_neg hr]
 refine ⟨a3j,{ I with wait:=?_,sh:=I.sh.app hs,room:=?_ }⟩
 . show g.wait++l=r.wait++l
   rw [I.wait]
 . show (r.bytes.length:Int)+((i7 (r.wait++l)).length:Int)<=B3 r.d * 256
   unfold D9 at hr
   rw [I.pw] at hr
   rw [a3l,b3P]
   dsimp only at hr
   omega
theorem In2.off {i:Int} {g:Lg} {r:Lr} (I:In2 i g r) {x:Dk} {y:Rk} {e:Err} {c:Int} (k:Cd e c) (rl:Rel x y) (okx:x.Ok) (oky:y.Ok) (hl:y.a0C.length=r.d.a0C.length) (hc:(y.At.length:Int)<=10000 * (i+2)) :
  In2 (i+1) (a63 { g with d:=x } e) { r with dead:=if c=9 then true else r.dead,d:=y }:=by
 refine ⟨I.turn,I.half,I.bytes,I.wait,?_,rl,I.a0Y,okx,oky,by show 6<=y.a0C.length; rw [hl]; exact I.big,I.h0,I.h1,I.t0,by have:=I.t1; show r.turn<=_; omega,I.sh,I.sc,?_,by show (y.At.length:Int)<=_; omega⟩
 . show (g.dead || decide (Err.is e 9))=if c=9 then true else r.dead
   rw [I.dead]
   by_cases h:c=9
   . rw [if_pos h,b4R (k.p.2 h),Bool.or_true]
   . rw [if_neg h,b5K (fun hh=>h (k.p.1 hh)),b8F]
 . show (r.bytes.length:Int)+((i7 r.wait).length:Int)<=B3 y * 256
   have:B3 y=B3 r.d:=by unfold B3; rw [hl]
   rw [this]; exact I.room
theorem In2.write {i:Int} {g:Lg} {r:Lr} (I:In2 i g r) (hi0:0<=i) (hi:i<=90) {hh th:Int} {by_:Str} (h0:0<=hh) (h1:hh<=1) (t0:0<=th) (t1:th<by_.length) (hb:(by_.length:Int)<=B3 r.d * 256) (hs:D8 by_=[]) :
  Cd (o3 g hh th by_ (o4 by_)).1 (q7 r hh th by_).1/\In2 (i+1) (o3 g hh th by_ (o4 by_)).2 (q7 r hh th by_).2:=by
 have hK:=I.b0H
 have hcn:=I.cnt
 unfold o3 q7
 rw [if_neg (by omega)]
 have eA:rwA r.d hh th by_=l9 r.d (2+hh * c9 g.d+th.tdiv 256) (o8 (by_.drop (th.tdiv 256 * 256).toNat)):=by
  rw [a0d I.d]; rfl
 rw [eA]
 have hsl:(o8 (by_.drop (th.tdiv 256 * 256).toNat)).length<=4097:=by rw [H8,b3W]; omega
 obtain ⟨c1,r1⟩:=Z6 (o8 (by_.drop (th.tdiv 256 * 256).toNat)) (a:=2+hh * c9 g.d+th.tdiv 256) I.okx I.oky I.d (by omega)
 have ok1:=V0 (o8 (by_.drop (th.tdiv 256 * 256).toNat)) (2+hh * c9 g.d+th.tdiv 256) I.okx
 obtain ⟨k1,k2,k3⟩:=P5 (o8 (by_.drop (th.tdiv 256 * 256).toNat)) (a:=2+hh * c9 g.d+th.tdiv 256) I.oky (by omega)
 generalize a8 g.d (2+hh * c9 g.d+th.tdiv 256) (o8 (by_.drop (th.tdiv 256 * 256).toNat))=SA at c1 r1 ok1 ⊢
 generalize l9 r.d (2+hh * c9 g.d+th.tdiv 256) (o8 (by_.drop (th.tdiv 256 * 256).toNat))=SB at c1 r1 k1 k2 k3 ⊢
 by_cases hz:SB.1=0
 rotate_left
 . rw [if_pos (c1.ne.2 hz),if_neg hz]
   exact ⟨c1,I.off c1 r1 ok1 k1 k2 (by omega)⟩
 rw [if_neg (fun h=>c1.ne.1 h hz),if_pos hz]
 unfold V4 c7o
 have eB:∀ y,rwB y r.turn hh by_=l9 y ((g.turn+1).tmod 2) (o8 (q5 (g.turn+1) hh (by_.length:Int))):=fun y=>by rw [I.turn]; rfl
 dsimp only
 rw [eB,a2d]
 have t0':=I.t0
 obtain ⟨c2,r2⟩:=Z6 [q5 (g.turn+1) hh (by_.length:Int)] (a:=(g.turn+1).tmod 2) ok1 k1 r1 (by rw [b4Y]; omega)
 have ok2:=V0 [q5 (g.turn+1) hh (by_.length:Int)] ((g.turn+1).tmod 2) ok1
 obtain ⟨m1,m2,m3⟩:=P5 [q5 (g.turn+1) hh (by_.length:Int)] (a:=(g.turn+1).tmod 2) k1 (by rw [b4Y]; omega)
 rw [b4Y] at m3
 generalize a8 SA.2 ((g.turn+1).tmod 2) [q5 (g.turn+1) hh (by_.length:Int)]=TA at c2 r2 ok2 ⊢
 generalize l9 SB.2 ((g.turn+1).tmod 2) [q5 (g.turn+1) hh (by_.length:Int)]=TB at c2 r2 m1 m2 m3 ⊢
 have hl2:TB.2.a0C.length=r.d.a0C.length:=by rw [m2,k2]
 by_cases hy:TB.1=0
 rotate_left
 . rw [if_pos (c2.ne.2 hy),if_neg hy]
   exact ⟨c2,I.off c2 r2 ok2 m1 hl2 (by omega)⟩
 rw [if_neg (fun h=>c2.ne.1 h hy),if_pos hy]
 have hh':B3 TB.2=B3 r.d:=by unfold B3; rw [hl2]
 refine ⟨a3j,⟨by show g.turn+1=r.turn+1; rw [I.turn],rfl,rfl,rfl,I.dead,r2,rfl,ok2,m1,by show 6<=TB.2.a0C.length; rw [hl2]; exact I.big,h0,h1,by show 0<=r.turn+1; omega,by have:=I.t1; show r.turn+1<=_; omega,ShL.nil,hs,?_,by show (TB.2.At.length:Int)<=_; omega⟩⟩
 show (by_.length:Int)+((i7 []).length:Int)<=B3 TB.2 * 256
 rw [hh']
 have:(i7 []).length=0:=rfl
 omega
theorem In2.sync {i:Int} {g:Lg} {r:Lr} (I:In2 i g r) (hi0:0<=i) (hi:i<=90):Cd (u4 g).1 (w4 r).1/\In2 (i+1) (u4 g).2 (w4 r).2:=by
 unfold u4 w4
 rw [I.wait]
 by_cases hd:r.dead=true
 . rw [if_pos (show g.dead=true from I.dead.trans hd),if_pos hd]; exact ⟨a3b (by decide) (by decide),I.mono (by omega)⟩
 rw [if_neg (show ¬ g.dead=true from fun h=>hd (I.dead.symm.trans h)),if_neg hd]
 by_cases hw:r.wait.length=0
 . rw [if_pos hw,if_pos hw]; exact ⟨a3j,I.mono (by omega)⟩
 rw [if_neg hw,if_neg hw,I.pw,if_neg (show ¬ ((.nil:Err)≠.nil) from fun h=>h rfl)]
 have hf:=K3 r.wait
 obtain ⟨s1,s2⟩:=b47 I.sh _ r.bytes (b4H _) I.sc
 rw [I.half,I.bytes,I.a0Y]
 dsimp only
 rw [<- s1]
 exact I.write hi0 hi I.h0 I.h1 (by omega) (by rw [b3P]; omega) (by rw [b3P]; have:=I.room; omega) s2
theorem In2.comp {i:Int} {g:Lg} {r:Lr} (I:In2 i g r) (hi0:0<=i) (hi:i<=90) {l:List Str} (hn:l≠[]):Cd (s7 g l).1 (v8 r l).1/\In2 (i+1) (s7 g l).2 (v8 r l).2:=by
 unfold s7 v8
 by_cases hd:r.dead=true
 . rw [if_pos (show g.dead=true from I.dead.trans hd),if_pos hd]; exact ⟨a3b (by decide) (by decide),I.mono (by omega)⟩
 rw [if_neg (show ¬ g.dead=true from fun h=>hd (I.dead.symm.trans h)),if_neg hd]
 by_cases hs:ShL l
 rotate_left
 . have e:shN l=4:=by unfold shN; rw [if_neg hs]
   rw [a6p hs,e,if_pos (by simp),if_pos (by decide)]
   exact ⟨a3b (by decide) (by decide),I.mono (by omega)⟩
 have e:shN l=0:=by unfold shN; rw [if_pos hs]
 rw [T6 hs,e,if_neg (show ¬ ((.nil:Err)≠.nil) from fun h=>h rfl),if_neg (show ¬ ((0:Int)≠0) from fun h=>h rfl)]
 have ez:F8 g=B3 r.d * 256:=by unfold F8; rw [a0d I.d]
 rw [ez]
 by_cases hr:B3 r.d * 256<((i7 l).length:Int)
 . rw [if_pos hr,if_pos hr]; exact ⟨a3b (by decide) (by decide),I.mono (by omega)⟩
 rw [if_neg hr,if_neg hr,I.half]
 obtain ⟨g1,g2⟩:=R4 l hs
 have hf:=K3 l
 have hl:0<l.length:=List.length_pos_iff.2 hn
 have h0:=I.h0
 have h1:=I.h1
 have:=I.write hi0 hi (hh:=1-r.half) (th:=0) (by_:=i7 l) (by omega) (by omega) (by omega) (by omega) (by omega) g2
 rw [g1] at this
 exact this
theorem In2.limit {i:Int} {g:Lg} {r:Lr} (I:In2 i g r) {n:Int} (hn:InI n):In2 i { g with d:=g.d.limit n } { r with d:=r.d.limit n } :=
 { I with d:=b09 I.d n,okx:=b5j I.okx hn,oky:=b0z I.oky hn,big:=I.big,room:=I.room,cnt:=I.cnt }
structure Ds (i:Int) (x:Dk) (y:Rk):Prop where
 d:Rel x y
 okx:x.Ok
 oky:y.Ok
 cnt:(y.At.length:Int)<=10000 * (i+1)
theorem Ds.opened {i:Int} {x:Dk} {y:Rk} (D:Ds i x y) (hi:0<=i) (h:(r5 y).1=0) :
  In2 i ⟨(s8 x).2.1,(s8 x).2.2.1,(s8 x).2.2.2.1,(s8 x).2.2.2.2,[],false,x⟩ ⟨(r5 y).2.1,(r5 y).2.2.1,(r5 y).2.2.2,[],false,y⟩:=by
 obtain ⟨e1,e2,e3,e4,e5,e6,e7,e8,e9,e10,e11⟩:=(a82 D.okx D.d).2 h
 refine ⟨e1,e2,e3,rfl,rfl,D.d,e4,D.okx,D.oky,e11,e8,e9,e6,by show (r5 y).2.1<=_; omega,ShL.nil,e5,?_,D.cnt⟩
 have:(i7 []).length=0:=rfl
 show ((r5 y).2.2.2.length:Int)+((i7 []).length:Int)<=B3 y * 256
 omega
def SmA (a:Act):Prop:=(a.S.length<=1000000/\a.a0T.length<=1000/\∀ s∈a.a0T,s.length<=1000000)/\a.Kept.length<=9223372036854775807/\InI a.N/\InI a.Cut
theorem SmA.sm {a:Act} (h:SmA a):SmL (a.S::a.a0T):=by
 obtain ⟨⟨hS,hM,hMs⟩,_⟩:=h
 refine ⟨by rw [b4F]; omega,fun s hs=>?_⟩
 rcases b4D.1 hs with e | hs
 . subst e; exact hS
 . exact hMs s hs
theorem Ds.a0P {i:Int} {x:Dk} {y:Rk} (D:Ds i x y) (h0:0<=i) (t c:Int) (k:List Int):Ds (i+1) (x.a0P t c k) (y.a0P t c k) :=
 ⟨b0y D.d t c k,b53 D.okx t c k,c2o D.okx D.d t c k,by show ((([]:List Int).length:Nat):Int)<=_; rw [b5R]; omega⟩
theorem Ds.write {i:Int} {x:Dk} {y:Rk} (D:Ds i x y) (h0:0<=i) (h9:i<=90) (a:Int) (b:Str):Ds (i+1) (x.write a b).2 (y.write a b).2:=by
 have hc:=D.cnt
 have h1:=a0t (y:=y) a b
 exact ⟨(b1k D.okx D.oky D.d a b).2,a01 D.okx a b,a2m D.oky (by omega) a b,by omega⟩
theorem Ds.limit {i:Int} {x:Dk} {y:Rk} (D:Ds i x y) {n:Int} (hn:InI n):Ds (i+1) (x.limit n) (y.limit n) :=
 ⟨b09 D.d n,b5j D.okx hn,b0z D.oky hn,by have:=D.cnt; show (y.At.length:Int)<=_; omega⟩
theorem Ds.mono {i:Int} {x:Dk} {y:Rk} (D:Ds i x y):Ds (i+1) x y:={ D with cnt:=by have:=D.cnt; omega }
theorem In2.ds {i:Int} {g:Lg} {r:Lr} (I:In2 i g r):Ds i g.d r.d:=⟨I.d,I.okx,I.oky,I.cnt⟩
end Go.Proofs.YtckpdliipjekgaaGreat
end
section
namespace Go.Proofs.YtckpdliipjekgaaGreat
open Go Go.Wk Go.Wl Go.Rx Go.Wa 
attribute [local irreducible] o9
def c8w:Nat->Ann:=fun | 11=>⟨42,nn,nn⟩ | _=>⟨0,nn,nn⟩
def Vbo (x:Dk) (la:List Str) (ta:List Int) (fr:List Str) (lf:Int) (po:Prop) (dq:Decidable po) (Q0:Bool->Dk->List Str->List Int->List Str->Int->Bool->Prop) (Q1:Bool->Dk->Int->Int->Str->List Str->List Str->Bool->List Str->List Int->List Str->Int->Bool->Int->Int->Str->List Str->Bool->Prop):Prop :=
x.Ok/\(((s8 x).fst=Err.nil->False)->(Rk.mk la ta fr lf (decide po)).Ok/\(((r5 (Rk.mk la ta fr lf (decide po))).fst=0->False)->Q0 (decide ((s8 x).fst.nr=(r5 (Rk.mk la ta fr lf (decide po))).fst/\(True↔True))) x la ta fr lf (decide (decide po=true)))/\((r5 (Rk.mk la ta fr lf (decide po))).fst=0->False))/\((s8 x).fst=Err.nil->(Rk.mk la ta fr lf (decide po)).Ok/\(((r5 (Rk.mk la ta fr lf (decide po))).fst=0->False)->False)/\((r5 (Rk.mk la ta fr lf (decide po))).fst=0->Q1 (decide (Err.nil.nr=0/\(False↔False))) x (s8 x).snd.fst (s8 x).snd.snd.fst (s8 x).snd.snd.snd.fst (s8 x).snd.snd.snd.snd [] (decide (false=true)) la ta fr lf (decide (decide po=true)) (r5 (Rk.mk la ta fr lf (decide po))).snd.fst (r5 (Rk.mk la ta fr lf (decide po))).snd.snd.fst (r5 (Rk.mk la ta fr lf (decide po))).snd.snd.snd [] (decide (false=true))))
theorem e0r {x:Dk} {la:List Str} {ta:List Int} {fr:List Str} {lf:Int} {po:Prop} {dq:Decidable po} {Q0:Bool->Dk->List Str->List Int->List Str->Int->Bool->Prop} {Q1:Bool->Dk->Int->Int->Str->List Str->List Str->Bool->List Str->List Int->List Str->Int->Bool->Int->Int->Str->List Str->Bool->Prop}:@Eq Prop (Vbo x la ta fr lf po dq Q0 Q1) (o9 (E:=NB) (Z4 NB Hro c8w 3) (c8w 11) Tryz.f11 [.ref 0 0] [(0,.own 40 [.ref 1 0,.un,.ref 2 0,.un]),(1,.ob (N:=U) 0 7 x),(2,.own 58 [.acc 3,.acc 4,.acc 5,.int .i64 lf,.bl po dq]),(3,.ac (N:=U) 9 la),(4,.ac (N:=U) 3 ta),(5,.ac (N:=U) 9 fr)] [] 12 (a4c NB [(0,.own 40 [.ref 1 0,.un,.ref 2 0,.un]),(1,.ob (N:=U) 0 7 x),(2,.own 58 [.acc 3,.acc 4,.acc 5,.int .i64 lf,.bl po dq]),(3,.ac (N:=U) 9 la),(4,.ac (N:=U) 3 ta),(5,.ac (N:=U) 9 fr)] 12 1 [[.slot 0 (.bool),.tree [] [.own (some 200) 40 [.to 1,.a0U,.to 2,.a0U],.ob (some 201) 0,.own (some 202) 58 [.v (.acc 9),.v (.acc 3),.v (.acc 9),.v (.int .i64),.v (.bool)]]],[.slot 0 (.bool),.tree [] [.own (some 200) 40 [.to 1,.to 2,.to 3,.to 4],.ob (some 201) 0,.own none 82 [.to 1,.v (.int .i64),.v (.int .i64),.v (.str),.v (.acc 9),.v (.acc 9),.v (.bool)],.own (some 202) 58 [.v (.acc 9),.v (.acc 3),.v (.acc 9),.v (.int .i64),.v (.bool)],.own none 50 [.to 3,.v (.int .i64),.v (.int .i64),.v (.str),.v (.acc 9),.v (.bool)]]]] ((Q0,fun _ _ _ _ _ _ _=>(0:Nat)),((Q1,fun _ _ _ _ _ _ _ _ _ _ _ _ _ _ _ _ _ _=>(0:Nat)),())))):=by kernel_rfl
theorem e1a {x:Dk} {la:List Str} {ta:List Int} {fr:List Str} {lf:Int} {po:Prop} {dq:Decidable po} {Q0:Bool->Dk->List Str->List Int->List Str->Int->Bool->Prop} {Q1:Bool->Dk->Int->Int->Str->List Str->List Str->Bool->List Str->List Int->List Str->Int->Bool->Int->Int->Str->List Str->Bool->Prop} (h:Vbo x la ta fr lf po dq Q0 Q1):o9 (E:=NB) (Z4 NB Hro c8w 3) (c8w 11) Tryz.f11 [.ref 0 0] [(0,.own 40 [.ref 1 0,.un,.ref 2 0,.un]),(1,.ob (N:=U) 0 7 x),(2,.own 58 [.acc 3,.acc 4,.acc 5,.int .i64 lf,.bl po dq]),(3,.ac (N:=U) 9 la),(4,.ac (N:=U) 3 ta),(5,.ac (N:=U) 9 fr)] [] 12 (a4c NB [(0,.own 40 [.ref 1 0,.un,.ref 2 0,.un]),(1,.ob (N:=U) 0 7 x),(2,.own 58 [.acc 3,.acc 4,.acc 5,.int .i64 lf,.bl po dq]),(3,.ac (N:=U) 9 la),(4,.ac (N:=U) 3 ta),(5,.ac (N:=U) 9 fr)] 12 1 [[.slot 0 (.bool),.tree [] [.own (some 200) 40 [.to 1,.a0U,.to 2,.a0U],.ob (some 201) 0,.own (some 202) 58 [.v (.acc 9),.v (.acc 3),.v (.acc 9),.v (.int .i64),.v (.bool)]]],[.slot 0 (.bool),.tree [] [.own (some 200) 40 [.to 1,.to 2,.to 3,.to 4],.ob (some 201) 0,.own none 82 [.to 1,.v (.int .i64),.v (.int .i64),.v (.str),.v (.acc 9),.v (.acc 9),.v (.bool)],.own (some 202) 58 [.v (.acc 9),.v (.acc 3),.v (.acc 9),.v (.int .i64),.v (.bool)],.own none 50 [.to 3,.v (.int .i64),.v (.int .i64),.v (.str),.v (.acc 9),.v (.bool)]]]] ((Q0,fun _ _ _ _ _ _ _=>(0:Nat)),((Q1,fun _ _ _ _ _ _ _ _ _ _ _ _ _ _ _ _ _ _=>(0:Nat)),()))):=by rw [<- e0r]; exact h
set_option maxHeartbeats 4000000 in
theorem pbo (x:Dk) (la:List Str) (ta:List Int) (fr:List Str) (lf:Int) (po:Prop) (dq:Decidable po) (okx:x.Ok) (ok:Rk.Ok (⟨la,ta,fr,lf,decide po⟩:Rk)) (rl:Rel x (⟨la,ta,fr,lf,decide po⟩:Rk)):Vbo x la ta fr lf po dq (fun y0 y1 y2 y3 y4 y5 y6=>(r5 (⟨la,ta,fr,lf,decide po⟩:Rk)).1≠0/\y0=true/\y1=x/\y2=((⟨la,ta,fr,lf,decide po⟩:Rk)).a0C/\y3=((⟨la,ta,fr,lf,decide po⟩:Rk)).At/\y4=((⟨la,ta,fr,lf,decide po⟩:Rk)).a0D/\y5=((⟨la,ta,fr,lf,decide po⟩:Rk)).Left/\y6=((⟨la,ta,fr,lf,decide po⟩:Rk)).Off) (fun y0 y1 y2 y3 y4 y5 y6 y7 y8 y9 y10 y11 y12 y13 y14 y15 y16 y17=>(r5 (⟨la,ta,fr,lf,decide po⟩:Rk)).1=0/\y0=true/\y1=x/\y2=(s8 x).2.1/\y3=(s8 x).2.2.1/\y4=(s8 x).2.2.2.1/\y5=(s8 x).2.2.2.2/\y6=([]:List Str)/\y7=false/\y8=((⟨la,ta,fr,lf,decide po⟩:Rk)).a0C/\y9=((⟨la,ta,fr,lf,decide po⟩:Rk)).At/\y10=((⟨la,ta,fr,lf,decide po⟩:Rk)).a0D/\y11=((⟨la,ta,fr,lf,decide po⟩:Rk)).Left/\y12=((⟨la,ta,fr,lf,decide po⟩:Rk)).Off/\y13=(r5 (⟨la,ta,fr,lf,decide po⟩:Rk)).2.1/\y14=(r5 (⟨la,ta,fr,lf,decide po⟩:Rk)).2.2.1/\y15=(r5 (⟨la,ta,fr,lf,decide po⟩:Rk)).2.2.2/\y16=([]:List Str)/\y17=false):=by
 unfold Vbo
 obtain ⟨c,_⟩:=a82 okx rl
 simp only [b4J]
 refine ⟨okx,fun h=>⟨ok,fun h2=>?_,fun h2=>h (c.z.2 h2)⟩,fun h=>⟨ok,fun h2=>h2 (c.z.1 h),fun h2=>?_⟩⟩
 . refine ⟨h2,?_⟩
   rw [c.nr]; simp
 . refine ⟨h2,?_⟩
   simp [a8x]
def e6n (x:Dk) (la:List Str) (ta:List Int) (fr:List Str) (lf:Int) (po:Prop) (dq:Decidable po):PT U:=fun k=>cj [Dk.Ok x,Rk.Ok (⟨la,ta,fr,lf,decide po⟩:Rk),Rel x (⟨la,ta,fr,lf,decide po⟩:Rk)] (a3r NB [(0,.own 40 [.ref 1 0,.un,.ref 2 0,.un]),(1,.ob (N:=U) 0 7 x),(2,.own 58 [.acc 3,.acc 4,.acc 5,.int .i64 lf,.bl po dq]),(3,.ac (N:=U) 9 la),(4,.ac (N:=U) 3 ta),(5,.ac (N:=U) 9 fr)] 12 1 [[.slot 0 (.bool),.tree [] [.own (some 200) 40 [.to 1,.a0U,.to 2,.a0U],.ob (some 201) 0,.own (some 202) 58 [.v (.acc 9),.v (.acc 3),.v (.acc 9),.v (.int .i64),.v (.bool)]]],[.slot 0 (.bool),.tree [] [.own (some 200) 40 [.to 1,.to 2,.to 3,.to 4],.ob (some 201) 0,.own none 82 [.to 1,.v (.int .i64),.v (.int .i64),.v (.str),.v (.acc 9),.v (.acc 9),.v (.bool)],.own (some 202) 58 [.v (.acc 9),.v (.acc 3),.v (.acc 9),.v (.int .i64),.v (.bool)],.own none 50 [.to 3,.v (.int .i64),.v (.int .i64),.v (.str),.v (.acc 9),.v (.bool)]]]] (([(r5 (⟨la,ta,fr,lf,decide po⟩:Rk)).1≠0],(true,((()),x,(((⟨la,ta,fr,lf,decide po⟩:Rk)).a0C,((⟨la,ta,fr,lf,decide po⟩:Rk)).At,((⟨la,ta,fr,lf,decide po⟩:Rk)).a0D,((⟨la,ta,fr,lf,decide po⟩:Rk)).Left,((⟨la,ta,fr,lf,decide po⟩:Rk)).Off,()),()),())),(([(r5 (⟨la,ta,fr,lf,decide po⟩:Rk)).1=0],(true,((()),x,((s8 x).2.1,(s8 x).2.2.1,(s8 x).2.2.2.1,(s8 x).2.2.2.2,([]:List Str),false,()),(((⟨la,ta,fr,lf,decide po⟩:Rk)).a0C,((⟨la,ta,fr,lf,decide po⟩:Rk)).At,((⟨la,ta,fr,lf,decide po⟩:Rk)).a0D,((⟨la,ta,fr,lf,decide po⟩:Rk)).Left,((⟨la,ta,fr,lf,decide po⟩:Rk)).Off,()),((r5 (⟨la,ta,fr,lf,decide po⟩:Rk)).2.1,(r5 (⟨la,ta,fr,lf,decide po⟩:Rk)).2.2.1,(r5 (⟨la,ta,fr,lf,decide po⟩:Rk)).2.2.2,([]:List Str),false,()),()),())),())) k)
def gbo:GD U:=⟨[],[],fun a its=>match a,its with | [.ref 0 0],[(0,.own 40 [.ref 1 0,.un,.ref 2 0,.un]),(1,.ob 0 7 x),(2,.own 58 [.acc 3,.acc 4,.acc 5,.int .i64 lf,.bl po dq]),(3,.ac 9 la),(4,.ac 3 ta),(5,.ac 9 fr)]=>some (e6n x la ta fr lf po dq) | _,_=>none⟩
set_option maxHeartbeats 4000000 in
theorem c8p (args:List (SV U)) (its:a7 U) (S:PT U) (h:gbo.C args its=some S):r6 Tryz.prog U eT Gl 11 args its (2 * its.length) S:=by
 unfold gbo at h
 simp only at h
 split at h
 . rename_i x lf po dq la ta fr
   cases h
   exact a44 d0d (l5 d0d c74 c8w 3) Tryz.func11 (n:=1) rfl (ss:=[[.slot 0 (.bool),.tree [] [.own (some 200) 40 [.to 1,.a0U,.to 2,.a0U],.ob (some 201) 0,.own (some 202) 58 [.v (.acc 9),.v (.acc 3),.v (.acc 9),.v (.int .i64),.v (.bool)]]],[.slot 0 (.bool),.tree [] [.own (some 200) 40 [.to 1,.to 2,.to 3,.to 4],.ob (some 201) 0,.own none 82 [.to 1,.v (.int .i64),.v (.int .i64),.v (.str),.v (.acc 9),.v (.acc 9),.v (.bool)],.own (some 202) 58 [.v (.acc 9),.v (.acc 3),.v (.acc 9),.v (.int .i64),.v (.bool)],.own none 50 [.to 3,.v (.int .i64),.v (.int .i64),.v (.str),.v (.acc 9),.v (.bool)]]]]) (R:=(([(r5 (⟨la,ta,fr,lf,decide po⟩:Rk)).1≠0],(true,((()),x,(((⟨la,ta,fr,lf,decide po⟩:Rk)).a0C,((⟨la,ta,fr,lf,decide po⟩:Rk)).At,((⟨la,ta,fr,lf,decide po⟩:Rk)).a0D,((⟨la,ta,fr,lf,decide po⟩:Rk)).Left,((⟨la,ta,fr,lf,decide po⟩:Rk)).Off,()),()),())),(([(r5 (⟨la,ta,fr,lf,decide po⟩:Rk)).1=0],(true,((()),x,((s8 x).2.1,(s8 x).2.2.1,(s8 x).2.2.2.1,(s8 x).2.2.2.2,([]:List Str),false,()),(((⟨la,ta,fr,lf,decide po⟩:Rk)).a0C,((⟨la,ta,fr,lf,decide po⟩:Rk)).At,((⟨la,ta,fr,lf,decide po⟩:Rk)).a0D,((⟨la,ta,fr,lf,decide po⟩:Rk)).Left,((⟨la,ta,fr,lf,decide po⟩:Rk)).Off,()),((r5 (⟨la,ta,fr,lf,decide po⟩:Rk)).2.1,(r5 (⟨la,ta,fr,lf,decide po⟩:Rk)).2.2.1,(r5 (⟨la,ta,fr,lf,decide po⟩:Rk)).2.2.2,([]:List Str),false,()),()),())),()))) (obs:=[Dk.Ok x,Rk.Ok (⟨la,ta,fr,lf,decide po⟩:Rk),Rel x (⟨la,ta,fr,lf,decide po⟩:Rk)]) rfl (fun ho=>e1a (pbo x la ta fr lf po dq ho.1 ho.2.1 ho.2.2.1))
 . cases h
def Nbo:Env:=NB.a0K 11 Tryz.f11
theorem b71:l7 Nbo:=d0d.a0K Tryz.call11 Tryz.func11
def Hbo:Nat->Option (GD U):=S7 11 gbo Hro
theorem c8l:∀ K o args its S,Hbo K=some o->o.C args its=some S->r6 Tryz.prog U eT Gl K args its (2 * its.length) S:=I8 c8p c74
def e4t:Nat->Ann:=fun | 12=>⟨141,nn,fun | 8=>some ⟨[0],[.tree [] [.own (some 0) 40 [.to 1,.any,.to 2,.any],.ob none 0,.own none 58 [.v (.acc 9),.v (.acc 3),.v (.acc 9),.v (.int .i64),.v .bool]]]⟩ | 14=>some ⟨[0],[.tree [] [.own (some 0) 40 [.to 1,.any,.to 2,.any],.ob none 0,.own none 58 [.v (.acc 9),.v (.acc 3),.v (.acc 9),.v (.int .i64),.v .bool]]]⟩ | _=>none⟩ | _=>⟨0,nn,nn⟩
def w9 (a:Act):=a.S::a.a0T
def b7k (a:Act):=(List.replicate (Int.toNat (256:Int)) (0:UInt8)).set (Int.toNat (0:Int)) (UInt8.ofInt a.Cut)
def Vda (tn:Int) (hf:Int) (bt:Str) (rs:List Str) (wt:List Str) (pd:Prop) (dd:Decidable pd) (x:Dk) (la:List Str) (ta:List Int) (fr:List Str) (lf:Int) (po:Prop) (dq:Decidable po) (t2:Int) (h2:Int) (b2:Str) (w2:List Str) (p2:Prop) (d2:Decidable p2) (a:Act) (Q0:Bool->Dk->Int->Int->Str->List Str->List Str->Bool->List Str->List Int->List Str->Int->Bool->Int->Int->Str->List Str->Bool->Prop) (Q1:Bool->Dk->List Str->List Int->List Str->Int->Bool->Prop):Prop :=
(a.Kind=4->x.Ok/\Q0 true (x.limit a.N) tn hf bt rs wt (decide pd) ((Rk.mk la ta fr lf (decide po)).limit a.N).a0C ((Rk.mk la ta fr lf (decide po)).limit a.N).At ((Rk.mk la ta fr lf (decide po)).limit a.N).a0D ((Rk.mk la ta fr lf (decide po)).limit a.N).Left (decide (((Rk.mk la ta fr lf (decide po)).limit a.N).Off=true)) t2 h2 b2 w2 (decide p2))/\(¬a.Kind=4->(a.Kind=5->∃ (J:Dk->List (List UInt8)->List Int->List (List UInt8)->Int->Bool->Prop),(x.Ok/\((Rk.mk la ta fr lf (decide po)).Ok/\a.Kept.length<=9223372036854775807)/\J (x.a0P a.N a.Cut a.Kept) ((Rk.mk la ta fr lf (decide po)).a0P a.N a.Cut a.Kept).a0C ((Rk.mk la ta fr lf (decide po)).a0P a.N a.Cut a.Kept).At ((Rk.mk la ta fr lf (decide po)).a0P a.N a.Cut a.Kept).a0D ((Rk.mk la ta fr lf (decide po)).a0P a.N a.Cut a.Kept).Left (decide (((Rk.mk la ta fr lf (decide po)).a0P a.N a.Cut a.Kept).Off=true)))/\∀ (x:Dk) (x_1:List (List UInt8)) (x_2:List Int) (x_3:List (List UInt8)) (x_4:Int) (x_5:Bool),J x x_1 x_2 x_3 x_4 x_5->x.Ok/\(Rk.mk x_1 x_2 x_3 x_4 (decide (x_5=true))).Ok/\Proofs.YtckpdliipjekgaaGreat.Rel x (Rk.mk x_1 x_2 x_3 x_4 (decide (x_5=true)))/\(((r5 (Rk.mk x_1 x_2 x_3 x_4 (decide (x_5=true)))).fst=0->False)->Q1 (decide (true=true)) x x_1 x_2 x_3 x_4 (decide (decide (x_5=true)=true)))/\((r5 (Rk.mk x_1 x_2 x_3 x_4 (decide (x_5=true)))).fst=0->Q0 (decide (true=true)) x (s8 x).snd.fst (s8 x).snd.snd.fst (s8 x).snd.snd.snd.fst (s8 x).snd.snd.snd.snd [] (decide (false=true)) x_1 x_2 x_3 x_4 (decide (decide (x_5=true)=true)) (r5 (Rk.mk x_1 x_2 x_3 x_4 (decide (x_5=true)))).snd.fst (r5 (Rk.mk x_1 x_2 x_3 x_4 (decide (x_5=true)))).snd.snd.fst (r5 (Rk.mk x_1 x_2 x_3 x_4 (decide (x_5=true)))).snd.snd.snd [] (decide (false=true))))/\(¬a.Kind=5->(a.Kind=6->(0:Int)<=256/\(256:Int)=256/\(↑((some (1:Nat)).getD (0:Nat)):Int) * 256<=140737488355328/\(0:Int)<=0/\(0:Int)<(↑(List.replicate (Int.toNat (256:Int)) (0:UInt8)).length:Int)/\x.Ok/\∃ (J:Dk->List (List UInt8)->List Int->List (List UInt8)->Int->Bool->Prop),((Rk.mk la ta fr lf (decide po)).Ok/\J (x.write a.N (b7k a)).snd ((Rk.mk la ta fr lf (decide po)).write a.N (b7k a)).snd.a0C ((Rk.mk la ta fr lf (decide po)).write a.N (b7k a)).snd.At ((Rk.mk la ta fr lf (decide po)).write a.N (b7k a)).snd.a0D ((Rk.mk la ta fr lf (decide po)).write a.N (b7k a)).snd.Left (decide (((Rk.mk la ta fr lf (decide po)).write a.N (b7k a)).snd.Off=true)))/\∀ (x:Dk) (x_1:List (List UInt8)) (x_2:List Int) (x_3:List (List UInt8)) (x_4:Int) (x_5:Bool),J x x_1 x_2 x_3 x_4 x_5->x.Ok/\(Rk.mk x_1 x_2 x_3 x_4 (decide (x_5=true))).Ok/\Proofs.YtckpdliipjekgaaGreat.Rel x (Rk.mk x_1 x_2 x_3 x_4 (decide (x_5=true)))/\(((r5 (Rk.mk x_1 x_2 x_3 x_4 (decide (x_5=true)))).fst=0->False)->Q1 (decide (true=true)) x x_1 x_2 x_3 x_4 (decide (decide (x_5=true)=true)))/\((r5 (Rk.mk x_1 x_2 x_3 x_4 (decide (x_5=true)))).fst=0->Q0 (decide (true=true)) x (s8 x).snd.fst (s8 x).snd.snd.fst (s8 x).snd.snd.snd.fst (s8 x).snd.snd.snd.snd [] (decide (false=true)) x_1 x_2 x_3 x_4 (decide (decide (x_5=true)=true)) (r5 (Rk.mk x_1 x_2 x_3 x_4 (decide (x_5=true)))).snd.fst (r5 (Rk.mk x_1 x_2 x_3 x_4 (decide (x_5=true)))).snd.snd.fst (r5 (Rk.mk x_1 x_2 x_3 x_4 (decide (x_5=true)))).snd.snd.snd [] (decide (false=true))))/\(¬a.Kind=6->(a.Kind=0->(a.Kind=0->a.a0T.length<=1000000/\(LgB (Lg.mk tn hf bt rs wt (decide pd) x)/\SmL (w9 a))/\a.a0T.length<=1000000/\((Rk.mk la ta fr lf (decide po)).Ok/\List.length b2<=2000000/\SmL w2/\List.length (l6 w2).fst<=2000000/\SmL (w9 a)/\w2.length+(w9 a).length<=1000000)/\Q0 (decide ((B5 (Lg.mk tn hf bt rs wt (decide pd) x) (w9 a)).fst.nr=(C8 (Lr.mk t2 h2 b2 w2 (decide p2) (Rk.mk la ta fr lf (decide po))) (w9 a)).fst)) (B5 (Lg.mk tn hf bt rs wt (decide pd) x) (w9 a)).snd.d (B5 (Lg.mk tn hf bt rs wt (decide pd) x) (w9 a)).snd.turn (B5 (Lg.mk tn hf bt rs wt (decide pd) x) (w9 a)).snd.half (B5 (Lg.mk tn hf bt rs wt (decide pd) x) (w9 a)).snd.bytes (B5 (Lg.mk tn hf bt rs wt (decide pd) x) (w9 a)).snd.a0Y (B5 (Lg.mk tn hf bt rs wt (decide pd) x) (w9 a)).snd.wait (decide ((B5 (Lg.mk tn hf bt rs wt (decide pd) x) (w9 a)).snd.dead=true)) (C8 (Lr.mk t2 h2 b2 w2 (decide p2) (Rk.mk la ta fr lf (decide po))) (w9 a)).snd.d.a0C (C8 (Lr.mk t2 h2 b2 w2 (decide p2) (Rk.mk la ta fr lf (decide po))) (w9 a)).snd.d.At (C8 (Lr.mk t2 h2 b2 w2 (decide p2) (Rk.mk la ta fr lf (decide po))) (w9 a)).snd.d.a0D (C8 (Lr.mk t2 h2 b2 w2 (decide p2) (Rk.mk la ta fr lf (decide po))) (w9 a)).snd.d.Left (decide ((C8 (Lr.mk t2 h2 b2 w2 (decide p2) (Rk.mk la ta fr lf (decide po))) (w9 a)).snd.d.Off=true)) (C8 (Lr.mk t2 h2 b2 w2 (decide p2) (Rk.mk la ta fr lf (decide po))) (w9 a)).snd.turn (C8 (Lr.mk t2 h2 b2 w2 (decide p2) (Rk.mk la ta fr lf (decide po))) (w9 a)).snd.half (C8 (Lr.mk t2 h2 b2 w2 (decide p2) (Rk.mk la ta fr lf (decide po))) (w9 a)).snd.bytes (C8 (Lr.mk t2 h2 b2 w2 (decide p2) (Rk.mk la ta fr lf (decide po))) (w9 a)).snd.wait (decide ((C8 (Lr.mk t2 h2 b2 w2 (decide p2) (Rk.mk la ta fr lf (decide po))) (w9 a)).snd.dead=true)))/\(¬a.Kind=0->(a.Kind=2->LgB (Lg.mk tn hf bt rs wt (decide pd) x)/\((Rk.mk la ta fr lf (decide po)).Ok/\(0:Int)<=h2/\h2<=1/\(0:Int)<=t2/\t2<=8000000000000000000/\ta.length+20000<=1000000/\(6:Nat)<=la.length/\SmL w2/\List.length b2+List.length (l6 w2).fst<=1100000)/\Q0 (decide ((u4 (Lg.mk tn hf bt rs wt (decide pd) x)).fst.nr=(w4 (Lr.mk t2 h2 b2 w2 (decide p2) (Rk.mk la ta fr lf (decide po)))).fst)) (u4 (Lg.mk tn hf bt rs wt (decide pd) x)).snd.d (u4 (Lg.mk tn hf bt rs wt (decide pd) x)).snd.turn (u4 (Lg.mk tn hf bt rs wt (decide pd) x)).snd.half (u4 (Lg.mk tn hf bt rs wt (decide pd) x)).snd.bytes (u4 (Lg.mk tn hf bt rs wt (decide pd) x)).snd.a0Y (u4 (Lg.mk tn hf bt rs wt (decide pd) x)).snd.wait (decide ((u4 (Lg.mk tn hf bt rs wt (decide pd) x)).snd.dead=true)) (w4 (Lr.mk t2 h2 b2 w2 (decide p2) (Rk.mk la ta fr lf (decide po)))).snd.d.a0C (w4 (Lr.mk t2 h2 b2 w2 (decide p2) (Rk.mk la ta fr lf (decide po)))).snd.d.At (w4 (Lr.mk t2 h2 b2 w2 (decide p2) (Rk.mk la ta fr lf (decide po)))).snd.d.a0D (w4 (Lr.mk t2 h2 b2 w2 (decide p2) (Rk.mk la ta fr lf (decide po)))).snd.d.Left (decide ((w4 (Lr.mk t2 h2 b2 w2 (decide p2) (Rk.mk la ta fr lf (decide po)))).snd.d.Off=true)) (w4 (Lr.mk t2 h2 b2 w2 (decide p2) (Rk.mk la ta fr lf (decide po)))).snd.turn (w4 (Lr.mk t2 h2 b2 w2 (decide p2) (Rk.mk la ta fr lf (decide po)))).snd.half (w4 (Lr.mk t2 h2 b2 w2 (decide p2) (Rk.mk la ta fr lf (decide po)))).snd.bytes (w4 (Lr.mk t2 h2 b2 w2 (decide p2) (Rk.mk la ta fr lf (decide po)))).snd.wait (decide ((w4 (Lr.mk t2 h2 b2 w2 (decide p2) (Rk.mk la ta fr lf (decide po)))).snd.dead=true)))/\(¬a.Kind=2->(a.Kind=3->a.a0T.length<=1000000/\(LgB (Lg.mk tn hf bt rs wt (decide pd) x)/\SmL (w9 a))/\a.a0T.length<=1000000/\((Rk.mk la ta fr lf (decide po)).Ok/\(0:Int)<=h2/\h2<=1/\(0:Int)<=t2/\t2<=8000000000000000000/\ta.length+20000<=1000000/\(6:Nat)<=la.length/\SmL w2/\SmL (w9 a))/\Q0 (decide ((s7 (Lg.mk tn hf bt rs wt (decide pd) x) (w9 a)).fst.nr=(v8 (Lr.mk t2 h2 b2 w2 (decide p2) (Rk.mk la ta fr lf (decide po))) (w9 a)).fst)) (s7 (Lg.mk tn hf bt rs wt (decide pd) x) (w9 a)).snd.d (s7 (Lg.mk tn hf bt rs wt (decide pd) x) (w9 a)).snd.turn (s7 (Lg.mk tn hf bt rs wt (decide pd) x) (w9 a)).snd.half (s7 (Lg.mk tn hf bt rs wt (decide pd) x) (w9 a)).snd.bytes (s7 (Lg.mk tn hf bt rs wt (decide pd) x) (w9 a)).snd.a0Y (s7 (Lg.mk tn hf bt rs wt (decide pd) x) (w9 a)).snd.wait (decide ((s7 (Lg.mk tn hf bt rs wt (decide pd) x) (w9 a)).snd.dead=true)) (v8 (Lr.mk t2 h2 b2 w2 (decide p2) (Rk.mk la ta fr lf (decide po))) (w9 a)).snd.d.a0C (v8 (Lr.mk t2 h2 b2 w2 (decide p2) (Rk.mk la ta fr lf (decide po))) (w9 a)).snd.d.At (v8 (Lr.mk t2 h2 b2 w2 (decide p2) (Rk.mk la ta fr lf (decide po))) (w9 a)).snd.d.a0D (v8 (Lr.mk t2 h2 b2 w2 (decide p2) (Rk.mk la ta fr lf (decide po))) (w9 a)).snd.d.Left (decide ((v8 (Lr.mk t2 h2 b2 w2 (decide p2) (Rk.mk la ta fr lf (decide po))) (w9 a)).snd.d.Off=true)) (v8 (Lr.mk t2 h2 b2 w2 (decide p2) (Rk.mk la ta fr lf (decide po))) (w9 a)).snd.turn (v8 (Lr.mk t2 h2 b2 w2 (decide p2) (Rk.mk la ta fr lf (decide po))) (w9 a)).snd.half (v8 (Lr.mk t2 h2 b2 w2 (decide p2) (Rk.mk la ta fr lf (decide po))) (w9 a)).snd.bytes (v8 (Lr.mk t2 h2 b2 w2 (decide p2) (Rk.mk la ta fr lf (decide po))) (w9 a)).snd.wait (decide ((v8 (Lr.mk t2 h2 b2 w2 (decide p2) (Rk.mk la ta fr lf (decide po))) (w9 a)).snd.dead=true)))/\(¬a.Kind=3->Q0 true x tn hf bt rs wt (decide pd) la ta fr lf (decide po) t2 h2 b2 w2 (decide p2)))))/\(¬a.Kind=0->(a.Kind=1->a.a0T.length<=1000000/\(LgB (Lg.mk tn hf bt rs wt (decide pd) x)/\SmL (w9 a))/\a.a0T.length<=1000000/\((Rk.mk la ta fr lf (decide po)).Ok/\List.length b2<=2000000/\SmL w2/\List.length (l6 w2).fst<=2000000/\SmL (w9 a)/\w2.length+(w9 a).length<=1000000)/\Q0 (decide ((B5 (Lg.mk tn hf bt rs wt (decide pd) x) (w9 a)).fst.nr=(C8 (Lr.mk t2 h2 b2 w2 (decide p2) (Rk.mk la ta fr lf (decide po))) (w9 a)).fst)) (B5 (Lg.mk tn hf bt rs wt (decide pd) x) (w9 a)).snd.d (B5 (Lg.mk tn hf bt rs wt (decide pd) x) (w9 a)).snd.turn (B5 (Lg.mk tn hf bt rs wt (decide pd) x) (w9 a)).snd.half (B5 (Lg.mk tn hf bt rs wt (decide pd) x) (w9 a)).snd.bytes (B5 (Lg.mk tn hf bt rs wt (decide pd) x) (w9 a)).snd.a0Y (B5 (Lg.mk tn hf bt rs wt (decide pd) x) (w9 a)).snd.wait (decide ((B5 (Lg.mk tn hf bt rs wt (decide pd) x) (w9 a)).snd.dead=true)) (C8 (Lr.mk t2 h2 b2 w2 (decide p2) (Rk.mk la ta fr lf (decide po))) (w9 a)).snd.d.a0C (C8 (Lr.mk t2 h2 b2 w2 (decide p2) (Rk.mk la ta fr lf (decide po))) (w9 a)).snd.d.At (C8 (Lr.mk t2 h2 b2 w2 (decide p2) (Rk.mk la ta fr lf (decide po))) (w9 a)).snd.d.a0D (C8 (Lr.mk t2 h2 b2 w2 (decide p2) (Rk.mk la ta fr lf (decide po))) (w9 a)).snd.d.Left (decide ((C8 (Lr.mk t2 h2 b2 w2 (decide p2) (Rk.mk la ta fr lf (decide po))) (w9 a)).snd.d.Off=true)) (C8 (Lr.mk t2 h2 b2 w2 (decide p2) (Rk.mk la ta fr lf (decide po))) (w9 a)).snd.turn (C8 (Lr.mk t2 h2 b2 w2 (decide p2) (Rk.mk la ta fr lf (decide po))) (w9 a)).snd.half (C8 (Lr.mk t2 h2 b2 w2 (decide p2) (Rk.mk la ta fr lf (decide po))) (w9 a)).snd.bytes (C8 (Lr.mk t2 h2 b2 w2 (decide p2) (Rk.mk la ta fr lf (decide po))) (w9 a)).snd.wait (decide ((C8 (Lr.mk t2 h2 b2 w2 (decide p2) (Rk.mk la ta fr lf (decide po))) (w9 a)).snd.dead=true)))/\(¬a.Kind=1->(a.Kind=2->LgB (Lg.mk tn hf bt rs wt (decide pd) x)/\((Rk.mk la ta fr lf (decide po)).Ok/\(0:Int)<=h2/\h2<=1/\(0:Int)<=t2/\t2<=8000000000000000000/\ta.length+20000<=1000000/\(6:Nat)<=la.length/\SmL w2/\List.length b2+List.length (l6 w2).fst<=1100000)/\Q0 (decide ((u4 (Lg.mk tn hf bt rs wt (decide pd) x)).fst.nr=(w4 (Lr.mk t2 h2 b2 w2 (decide p2) (Rk.mk la ta fr lf (decide po)))).fst)) (u4 (Lg.mk tn hf bt rs wt (decide pd) x)).snd.d (u4 (Lg.mk tn hf bt rs wt (decide pd) x)).snd.turn (u4 (Lg.mk tn hf bt rs wt (decide pd) x)).snd.half (u4 (Lg.mk tn hf bt rs wt (decide pd) x)).snd.bytes (u4 (Lg.mk tn hf bt rs wt (decide pd) x)).snd.a0Y (u4 (Lg.mk tn hf bt rs wt (decide pd) x)).snd.wait (decide ((u4 (Lg.mk tn hf bt rs wt (decide pd) x)).snd.dead=true)) (w4 (Lr.mk t2 h2 b2 w2 (decide p2) (Rk.mk la ta fr lf (decide po)))).snd.d.a0C (w4 (Lr.mk t2 h2 b2 w2 (decide p2) (Rk.mk la ta fr lf (decide po)))).snd.d.At (w4 (Lr.mk t2 h2 b2 w2 (decide p2) (Rk.mk la ta fr lf (decide po)))).snd.d.a0D (w4 (Lr.mk t2 h2 b2 w2 (decide p2) (Rk.mk la ta fr lf (decide po)))).snd.d.Left (decide ((w4 (Lr.mk t2 h2 b2 w2 (decide p2) (Rk.mk la ta fr lf (decide po)))).snd.d.Off=true)) (w4 (Lr.mk t2 h2 b2 w2 (decide p2) (Rk.mk la ta fr lf (decide po)))).snd.turn (w4 (Lr.mk t2 h2 b2 w2 (decide p2) (Rk.mk la ta fr lf (decide po)))).snd.half (w4 (Lr.mk t2 h2 b2 w2 (decide p2) (Rk.mk la ta fr lf (decide po)))).snd.bytes (w4 (Lr.mk t2 h2 b2 w2 (decide p2) (Rk.mk la ta fr lf (decide po)))).snd.wait (decide ((w4 (Lr.mk t2 h2 b2 w2 (decide p2) (Rk.mk la ta fr lf (decide po)))).snd.dead=true)))/\(¬a.Kind=2->(a.Kind=3->a.a0T.length<=1000000/\(LgB (Lg.mk tn hf bt rs wt (decide pd) x)/\SmL (w9 a))/\a.a0T.length<=1000000/\((Rk.mk la ta fr lf (decide po)).Ok/\(0:Int)<=h2/\h2<=1/\(0:Int)<=t2/\t2<=8000000000000000000/\ta.length+20000<=1000000/\(6:Nat)<=la.length/\SmL w2/\SmL (w9 a))/\Q0 (decide ((s7 (Lg.mk tn hf bt rs wt (decide pd) x) (w9 a)).fst.nr=(v8 (Lr.mk t2 h2 b2 w2 (decide p2) (Rk.mk la ta fr lf (decide po))) (w9 a)).fst)) (s7 (Lg.mk tn hf bt rs wt (decide pd) x) (w9 a)).snd.d (s7 (Lg.mk tn hf bt rs wt (decide pd) x) (w9 a)).snd.turn (s7 (Lg.mk tn hf bt rs wt (decide pd) x) (w9 a)).snd.half (s7 (Lg.mk tn hf bt rs wt (decide pd) x) (w9 a)).snd.bytes (s7 (Lg.mk tn hf bt rs wt (decide pd) x) (w9 a)).snd.a0Y (s7 (Lg.mk tn hf bt rs wt (decide pd) x) (w9 a)).snd.wait (decide ((s7 (Lg.mk tn hf bt rs wt (decide pd) x) (w9 a)).snd.dead=true)) (v8 (Lr.mk t2 h2 b2 w2 (decide p2) (Rk.mk la ta fr lf (decide po))) (w9 a)).snd.d.a0C (v8 (Lr.mk t2 h2 b2 w2 (decide p2) (Rk.mk la ta fr lf (decide po))) (w9 a)).snd.d.At (v8 (Lr.mk t2 h2 b2 w2 (decide p2) (Rk.mk la ta fr lf (decide po))) (w9 a)).snd.d.a0D (v8 (Lr.mk t2 h2 b2 w2 (decide p2) (Rk.mk la ta fr lf (decide po))) (w9 a)).snd.d.Left (decide ((v8 (Lr.mk t2 h2 b2 w2 (decide p2) (Rk.mk la ta fr lf (decide po))) (w9 a)).snd.d.Off=true)) (v8 (Lr.mk t2 h2 b2 w2 (decide p2) (Rk.mk la ta fr lf (decide po))) (w9 a)).snd.turn (v8 (Lr.mk t2 h2 b2 w2 (decide p2) (Rk.mk la ta fr lf (decide po))) (w9 a)).snd.half (v8 (Lr.mk t2 h2 b2 w2 (decide p2) (Rk.mk la ta fr lf (decide po))) (w9 a)).snd.bytes (v8 (Lr.mk t2 h2 b2 w2 (decide p2) (Rk.mk la ta fr lf (decide po))) (w9 a)).snd.wait (decide ((v8 (Lr.mk t2 h2 b2 w2 (decide p2) (Rk.mk la ta fr lf (decide po))) (w9 a)).snd.dead=true)))/\(¬a.Kind=3->Q0 true x tn hf bt rs wt (decide pd) la ta fr lf (decide po) t2 h2 b2 w2 (decide p2))))))))
set_option maxHeartbeats 4000000 in
theorem pda (tn:Int) (hf:Int) (bt:Str) (rs:List Str) (wt:List Str) (pd:Prop) (dd:Decidable pd) (x:Dk) (la:List Str) (ta:List Int) (fr:List Str) (lf:Int) (po:Prop) (dq:Decidable po) (t2:Int) (h2:Int) (b2:Str) (w2:List Str) (p2:Prop) (d2:Decidable p2) (a:Act) (hi:∃ i,0<=i/\i<=90/\In2 i (⟨tn,hf,bt,rs,wt,decide pd,x⟩:Lg) (⟨t2,h2,b2,w2,decide p2,(⟨la,ta,fr,lf,decide po⟩:Rk)⟩:Lr)) (ha:SmA a):Vda tn hf bt rs wt pd dd x la ta fr lf po dq t2 h2 b2 w2 p2 d2 a (fun (an_:Bool) (xk:Dk) (tg:Int) (hg:Int) (bg:Str) (rg:List Str) (wg:List Str) (dg:Bool) (lk:List Str) (ak:List Int) (fk:List Str) (nk:Int) (ok_:Bool) (tr:Int) (hr:Int) (br:Str) (wr:List Str) (dr:Bool)=>an_=true/\∀ i,0<=i->i<=90->In2 i (⟨tn,hf,bt,rs,wt,decide pd,x⟩:Lg) (⟨t2,h2,b2,w2,decide p2,(⟨la,ta,fr,lf,decide po⟩:Rk)⟩:Lr)->In2 (i+1) (⟨tg,hg,bg,rg,wg,dg,xk⟩:Lg) (⟨tr,hr,br,wr,dr,(⟨lk,ak,fk,nk,ok_⟩:Rk)⟩:Lr)) (fun (an_:Bool) (xk:Dk) (lk:List Str) (ak:List Int) (fk:List Str) (nk:Int) (ok_:Bool)=>an_=true/\∀ i,0<=i->i<=90->In2 i (⟨tn,hf,bt,rs,wt,decide pd,x⟩:Lg) (⟨t2,h2,b2,w2,decide p2,(⟨la,ta,fr,lf,decide po⟩:Rk)⟩:Lr)->Ds (i+1) xk (⟨lk,ak,fk,nk,ok_⟩:Rk)):=by
 unfold Vda b7k w9
 obtain ⟨i,i0,i9,I⟩:=hi
 have sl:=ha.sm
 obtain ⟨⟨hS,hM,hMs⟩,hK,hN,hC⟩:=ha
 have lb:=I.lgB (by omega)
 have h1:=I.lens
 have q2:7 * (o4 b2).length+7 * w2.length<=1048320:=I.b0A
 have h3:=I.smW
 have h4:(l6 w2).1.length=(i7 w2).length:=congrArg (fun p=>p.1.length) I.pw
 have okx:x.Ok:=I.okx
 have oky:Rk.Ok ⟨la,ta,fr,lf,decide po⟩:=I.oky
 have h5:(ta.length:Int)<=10000 * (i+1):=I.cnt
 have h6:6<=la.length:=I.big
 have h7:0<=h2:=I.h0
 have h8:h2<=1:=I.h1
 have h9:0<=t2:=I.t0
 have h10:t2<=1099511627776+i:=I.t1
 have h1:b2.length+(i7 w2).length<=1048320:=h1
 have h3:SmL w2:=h3
 have hw:w2.length+(a.S::a.a0T).length<=1000000:=by rw [b4F]; omega
 simp only [b4J]
 have F0:a.a0T.length<=1000000:=by omega
 refine ⟨fun k4=>⟨okx,by trivial,fun j j0 j9 J=>(J.limit hN).mono (by omega)⟩,fun k4=>⟨fun k5=>⟨fun x' l' a' f' n' o'=>x'=x.a0P a.N a.Cut a.Kept/\(⟨l',a',f',n',o'⟩:Rk)=Rk.a0P ⟨la,ta,fr,lf,decide po⟩ a.N a.Cut a.Kept,⟨okx,⟨oky,by omega⟩,rfl,rfl⟩,?_⟩,
  fun k5=>⟨fun k6=>⟨by decide,by trivial,by decide,by decide,by rw [b3X]; decide,okx,fun x' l' a' f' n' o'=>x'=(x.write a.N ((List.replicate (Int.toNat 256) 0).set (Int.toNat 0) (UInt8.ofInt a.Cut))).2/\(⟨l',a',f',n',o'⟩:Rk)=(Rk.write ⟨la,ta,fr,lf,decide po⟩ a.N ((List.replicate (Int.toNat 256) 0).set (Int.toNat 0) (UInt8.ofInt a.Cut))).2,⟨oky,rfl,rfl⟩,?_⟩,fun k6=>?_⟩⟩⟩
 . rintro x' l' a' f' n' o' ⟨rfl,hy⟩
   have D:∀ j,0<=j->In2 j ⟨tn,hf,bt,rs,wt,decide pd,x⟩ ⟨t2,h2,b2,w2,decide p2,⟨la,ta,fr,lf,decide po⟩⟩->Ds (j+1) (x.a0P a.N a.Cut a.Kept) (Rk.mk l' a' f' n' o'):=fun j j0 J=>by rw [hy]; exact J.ds.a0P j0 _ _ _
   have d0:=D i i0 I
   exact ⟨d0.okx,d0.oky,d0.d,fun h=>⟨by trivial,fun j j0 _ J=>D j j0 J⟩,fun h=>⟨by trivial,fun j j0 _ J=>(D j j0 J).opened (by omega) h⟩⟩
 . rintro x' l' a' f' n' o' ⟨rfl,hy⟩
   have D:∀ j,0<=j->j<=90->In2 j ⟨tn,hf,bt,rs,wt,decide pd,x⟩ ⟨t2,h2,b2,w2,decide p2,⟨la,ta,fr,lf,decide po⟩⟩->Ds (j+1) (x.write a.N ((List.replicate (Int.toNat 256) 0).set (Int.toNat 0) (UInt8.ofInt a.Cut))).2 (Rk.mk l' a' f' n' o'):=fun j j0 j9 J=>by rw [hy]; exact J.ds.write j0 j9 _ _
   have d0:=D i i0 i9 I
   exact ⟨d0.okx,d0.oky,d0.d,fun h=>⟨by trivial,fun j j0 j9 J=>D j j0 j9 J⟩,fun h=>⟨by trivial,fun j j0 j9 J=>(D j j0 j9 J).opened (by omega) h⟩⟩
 have PA:=I.app (a.S::a.a0T)
 have PS:=I.sync i0 i9
 have PC:=I.comp i0 i9 (l:=a.S::a.a0T) (by simp)
 have ry:ta.length+20000<=1000000:=by omega
 have rt:t2<=8000000000000000000:=by omega
 have rp:b2.length+(l6 w2).1.length<=1100000:=by omega
 have rq:(l6 w2).1.length<=2000000:=by omega
 have hA:∀ (P:Prop),P->(a.a0T.length<=1000000/\(LgB ⟨tn,hf,bt,rs,wt,decide pd,x⟩/\SmL (a.S::a.a0T))/\a.a0T.length<=1000000/\(Rk.Ok ⟨la,ta,fr,lf,decide po⟩/\List.length b2<=2000000/\SmL w2/\List.length (l6 w2).1<=2000000/\SmL (a.S::a.a0T)/\w2.length+(a.S::a.a0T).length<=1000000)/\P) :=
  fun P p=>⟨F0,⟨lb,sl⟩,F0,⟨oky,by omega,h3,rq,sl,hw⟩,p⟩
 have eA:=hA _ (⟨b4R PA.1.nr,fun j j0 j9 J=>(J.app (a.S::a.a0T)).2.mono (by omega)⟩:decide ((B5 ⟨tn,hf,bt,rs,wt,decide pd,x⟩ (a.S::a.a0T)).1.nr=(C8 ⟨t2,h2,b2,w2,decide p2,⟨la,ta,fr,lf,decide po⟩⟩ (a.S::a.a0T)).1)=true/\∀ j,0<=j->j<=90->In2 j ⟨tn,hf,bt,rs,wt,decide pd,x⟩ ⟨t2,h2,b2,w2,decide p2,⟨la,ta,fr,lf,decide po⟩⟩->In2 (j+1) (B5 ⟨tn,hf,bt,rs,wt,decide pd,x⟩ (a.S::a.a0T)).2 (C8 ⟨t2,h2,b2,w2,decide p2,⟨la,ta,fr,lf,decide po⟩⟩ (a.S::a.a0T)).2)
 refine ⟨fun k0=>⟨fun _=>eA,fun h=>absurd k0 h⟩,fun k0=>⟨fun k1=>eA,fun k1=>?_⟩⟩
 refine ⟨fun k2=>⟨lb,⟨oky,h7,h8,h9,rt,ry,h6,h3,rp⟩,b4R PS.1.nr,fun j j0 j9 J=>(J.sync j0 j9).2⟩,fun k2=>⟨fun k3=>⟨F0,⟨lb,sl⟩,F0,⟨oky,h7,h8,h9,rt,ry,h6,h3,sl⟩,b4R PC.1.nr,fun j j0 j9 J=>(J.comp j0 j9 (by simp)).2⟩,fun k3=>⟨by trivial,fun j j0 j9 J=>J.mono (by omega)⟩⟩⟩
def e7a (tn:Int) (hf:Int) (bt:Str) (rs:List Str) (wt:List Str) (pd:Prop) (dd:Decidable pd) (x:Dk) (la:List Str) (ta:List Int) (fr:List Str) (lf:Int) (po:Prop) (dq:Decidable po) (t2:Int) (h2:Int) (b2:Str) (w2:List Str) (p2:Prop) (d2:Decidable p2) (a:Act):PT U:=fun k=>cj [∃ i,0<=i/\i<=90/\In2 i (⟨tn,hf,bt,rs,wt,decide pd,x⟩:Lg) (⟨t2,h2,b2,w2,decide p2,(⟨la,ta,fr,lf,decide po⟩:Rk)⟩:Lr),SmA a] (b2u Nbo [] (st0 Nbo [(0,.own 40 [.ref 1 0,.ref 2 0,.ref 5 0,.ref 9 0]),(1,.ob (N:=U) 0 12 x),(2,.own 82 [.ref 1 0,.int .i64 tn,.int .i64 hf,.str bt,.acc 3,.acc 4,.bl pd dd]),(3,.ac (N:=U) 9 rs),(4,.ac (N:=U) 9 wt),(5,.own 58 [.acc 6,.acc 7,.acc 8,.int .i64 lf,.bl po dq]),(6,.ac (N:=U) 9 la),(7,.ac (N:=U) 3 ta),(8,.ac (N:=U) 9 fr),(9,.own 50 [.ref 5 0,.int .i64 t2,.int .i64 h2,.str b2,.acc 10,.bl p2 d2]),(10,.ac (N:=U) 9 w2)] 22) [[.slot 0 (.bool),.tree [] [.own (some 200) 40 [.to 1,.to 2,.to 3,.to 4],.ob none 0,.own none 82 [.to 1,.v (.int .i64),.v (.int .i64),.v (.str),.v (.acc 9),.v (.acc 9),.v (.bool)],.own none 58 [.v (.acc 9),.v (.acc 3),.v (.acc 9),.v (.int .i64),.v (.bool)],.own none 50 [.to 3,.v (.int .i64),.v (.int .i64),.v (.str),.v (.acc 9),.v (.bool)]]],[.slot 0 (.bool),.tree [] [.own (some 200) 40 [.to 1,.a0U,.to 2,.a0U],.ob none 0,.own none 58 [.v (.acc 9),.v (.acc 3),.v (.acc 9),.v (.int .i64),.v (.bool)]]]] (((fun (an_:Bool) (xk:Dk) (tg:Int) (hg:Int) (bg:Str) (rg:List Str) (wg:List Str) (dg:Bool) (lk:List Str) (ak:List Int) (fk:List Str) (nk:Int) (ok_:Bool) (tr:Int) (hr:Int) (br:Str) (wr:List Str) (dr:Bool)=>an_=true/\∀ i,0<=i->i<=90->In2 i (⟨tn,hf,bt,rs,wt,decide pd,x⟩:Lg) (⟨t2,h2,b2,w2,decide p2,(⟨la,ta,fr,lf,decide po⟩:Rk)⟩:Lr)->In2 (i+1) (⟨tg,hg,bg,rg,wg,dg,xk⟩:Lg) (⟨tr,hr,br,wr,dr,(⟨lk,ak,fk,nk,ok_⟩:Rk)⟩:Lr)),fun _ _ _ _ _ _ _ _ _ _ _ _ _ _ _ _ _ _=>(0:Nat)),(((fun (an_:Bool) (xk:Dk) (lk:List Str) (ak:List Int) (fk:List Str) (nk:Int) (ok_:Bool)=>an_=true/\∀ i,0<=i->i<=90->In2 i (⟨tn,hf,bt,rs,wt,decide pd,x⟩:Lg) (⟨t2,h2,b2,w2,decide p2,(⟨la,ta,fr,lf,decide po⟩:Rk)⟩:Lr)->Ds (i+1) xk (⟨lk,ak,fk,nk,ok_⟩:Rk)),fun _ _ _ _ _ _ _=>(0:Nat)),())) (fun im new=>im.1->k (X0 Nbo 1 new) new.items new.nx))
def gda:GD U:=⟨[],[],fun a its=>match a,its with | [.ref 0 0,.agg [.int .i64 a0,.str a1,.sl 9 a2,.int .i64 a3,.int .i64 a4,.sl 3 a5]],[(0,.own 40 [.ref 1 0,.ref 2 0,.ref 5 0,.ref 9 0]),(1,.ob 0 12 x),(2,.own 82 [.ref 1 0,.int .i64 tn,.int .i64 hf,.str bt,.acc 3,.acc 4,.bl pd dd]),(3,.ac 9 rs),(4,.ac 9 wt),(5,.own 58 [.acc 6,.acc 7,.acc 8,.int .i64 lf,.bl po dq]),(6,.ac 9 la),(7,.ac 3 ta),(8,.ac 9 fr),(9,.own 50 [.ref 5 0,.int .i64 t2,.int .i64 h2,.str b2,.acc 10,.bl p2 d2]),(10,.ac 9 w2)]=>some (e7a tn hf bt rs wt pd dd x la ta fr lf po dq t2 h2 b2 w2 p2 d2 (⟨a0,a1,a2,a3,a4,a5⟩)) | _,_=>none⟩
set_option maxHeartbeats 4000000 in
theorem c5g (args:List (SV U)) (its:a7 U) (S:PT U) (h:gda.C args its=some S):r6 Tryz.prog U eT Gl 12 args its (2 * its.length) S:=by
 unfold gda at h
 simp only at h
 split at h
 . rename_i a0 a1 a2 a3 a4 a5 x tn hf bt pd dd rs wt lf po dq la ta fr t2 h2 b2 p2 d2 w2
   cases h
   intro k hk
   obtain ⟨ho,hk⟩:=R2 hk
   exact b1r (an:=e4t 12) b71 (l5 b71 c8l e4t 3) Tryz.func12 (n:=1) rfl (ss:=[[.slot 0 (.bool),.tree [] [.own (some 200) 40 [.to 1,.to 2,.to 3,.to 4],.ob none 0,.own none 82 [.to 1,.v (.int .i64),.v (.int .i64),.v (.str),.v (.acc 9),.v (.acc 9),.v (.bool)],.own none 58 [.v (.acc 9),.v (.acc 3),.v (.acc 9),.v (.int .i64),.v (.bool)],.own none 50 [.to 3,.v (.int .i64),.v (.int .i64),.v (.str),.v (.acc 9),.v (.bool)]]],[.slot 0 (.bool),.tree [] [.own (some 200) 40 [.to 1,.a0U,.to 2,.a0U],.ob none 0,.own none 58 [.v (.acc 9),.v (.acc 3),.v (.acc 9),.v (.int .i64),.v (.bool)]]]]) (P:=(((fun (an_:Bool) (xk:Dk) (tg:Int) (hg:Int) (bg:Str) (rg:List Str) (wg:List Str) (dg:Bool) (lk:List Str) (ak:List Int) (fk:List Str) (nk:Int) (ok_:Bool) (tr:Int) (hr:Int) (br:Str) (wr:List Str) (dr:Bool)=>an_=true/\∀ i,0<=i->i<=90->In2 i (⟨tn,hf,bt,rs,wt,decide pd,x⟩:Lg) (⟨t2,h2,b2,w2,decide p2,(⟨la,ta,fr,lf,decide po⟩:Rk)⟩:Lr)->In2 (i+1) (⟨tg,hg,bg,rg,wg,dg,xk⟩:Lg) (⟨tr,hr,br,wr,dr,(⟨lk,ak,fk,nk,ok_⟩:Rk)⟩:Lr)),fun _ _ _ _ _ _ _ _ _ _ _ _ _ _ _ _ _ _=>(0:Nat)),(((fun (an_:Bool) (xk:Dk) (lk:List Str) (ak:List Int) (fk:List Str) (nk:Int) (ok_:Bool)=>an_=true/\∀ i,0<=i->i<=90->In2 i (⟨tn,hf,bt,rs,wt,decide pd,x⟩:Lg) (⟨t2,h2,b2,w2,decide p2,(⟨la,ta,fr,lf,decide po⟩:Rk)⟩:Lr)->Ds (i+1) xk (⟨lk,ak,fk,nk,ok_⟩:Rk)),fun _ _ _ _ _ _ _=>(0:Nat)),()))) (S:=fun k=>b2u Nbo [] (st0 Nbo [(0,.own 40 [.ref 1 0,.ref 2 0,.ref 5 0,.ref 9 0]),(1,.ob (N:=U) 0 12 x),(2,.own 82 [.ref 1 0,.int .i64 tn,.int .i64 hf,.str bt,.acc 3,.acc 4,.bl pd dd]),(3,.ac (N:=U) 9 rs),(4,.ac (N:=U) 9 wt),(5,.own 58 [.acc 6,.acc 7,.acc 8,.int .i64 lf,.bl po dq]),(6,.ac (N:=U) 9 la),(7,.ac (N:=U) 3 ta),(8,.ac (N:=U) 9 fr),(9,.own 50 [.ref 5 0,.int .i64 t2,.int .i64 h2,.str b2,.acc 10,.bl p2 d2]),(10,.ac (N:=U) 9 w2)] 22) [[.slot 0 (.bool),.tree [] [.own (some 200) 40 [.to 1,.to 2,.to 3,.to 4],.ob none 0,.own none 82 [.to 1,.v (.int .i64),.v (.int .i64),.v (.str),.v (.acc 9),.v (.acc 9),.v (.bool)],.own none 58 [.v (.acc 9),.v (.acc 3),.v (.acc 9),.v (.int .i64),.v (.bool)],.own none 50 [.to 3,.v (.int .i64),.v (.int .i64),.v (.str),.v (.acc 9),.v (.bool)]]],[.slot 0 (.bool),.tree [] [.own (some 200) 40 [.to 1,.a0U,.to 2,.a0U],.ob none 0,.own none 58 [.v (.acc 9),.v (.acc 3),.v (.acc 9),.v (.int .i64),.v (.bool)]]]] (((fun (an_:Bool) (xk:Dk) (tg:Int) (hg:Int) (bg:Str) (rg:List Str) (wg:List Str) (dg:Bool) (lk:List Str) (ak:List Int) (fk:List Str) (nk:Int) (ok_:Bool) (tr:Int) (hr:Int) (br:Str) (wr:List Str) (dr:Bool)=>an_=true/\∀ i,0<=i->i<=90->In2 i (⟨tn,hf,bt,rs,wt,decide pd,x⟩:Lg) (⟨t2,h2,b2,w2,decide p2,(⟨la,ta,fr,lf,decide po⟩:Rk)⟩:Lr)->In2 (i+1) (⟨tg,hg,bg,rg,wg,dg,xk⟩:Lg) (⟨tr,hr,br,wr,dr,(⟨lk,ak,fk,nk,ok_⟩:Rk)⟩:Lr)),fun _ _ _ _ _ _ _ _ _ _ _ _ _ _ _ _ _ _=>(0:Nat)),(((fun (an_:Bool) (xk:Dk) (lk:List Str) (ak:List Int) (fk:List Str) (nk:Int) (ok_:Bool)=>an_=true/\∀ i,0<=i->i<=90->In2 i (⟨tn,hf,bt,rs,wt,decide pd,x⟩:Lg) (⟨t2,h2,b2,w2,decide p2,(⟨la,ta,fr,lf,decide po⟩:Rk)⟩:Lr)->Ds (i+1) xk (⟨lk,ak,fk,nk,ok_⟩:Rk)),fun _ _ _ _ _ _ _=>(0:Nat)),())) (fun im new=>im.1->k (X0 Nbo 1 new) new.items new.nx)) (kc (pda tn hf bt rs wt pd dd x la ta fr lf po dq t2 h2 b2 w2 p2 d2 (⟨a0,a1,a2,a3,a4,a5⟩) ho.1 ho.2.1) (by kernel_rfl)) (fun _ h=>h) k hk
 . cases h
def Nda:Env:=Nbo.a0K 12 Tryz.f12
theorem b9w:l7 Nda:=b71.a0K Tryz.call12 Tryz.func12
def Hda:Nat->Option (GD U):=S7 12 gda Hbo
theorem c7q:∀ K o args its S,Hda K=some o->o.C args its=some S->r6 Tryz.prog U eT Gl K args its (2 * its.length) S:=I8 c5g c8l
def e5b:Nat->Ann:=fun | 12=>⟨141,nn,fun | 8=>some ⟨[0],[.tree [] [.own (some 0) 40 [.to 1,.any,.to 2,.any],.ob none 0,.own none 58 [.v (.acc 9),.v (.acc 3),.v (.acc 9),.v (.int .i64),.v .bool]]]⟩ | 14=>some ⟨[0],[.tree [] [.own (some 0) 40 [.to 1,.any,.to 2,.any],.ob none 0,.own none 58 [.v (.acc 9),.v (.acc 3),.v (.acc 9),.v (.int .i64),.v .bool]]]⟩ | _=>none⟩ | _=>⟨0,nn,nn⟩
def b6t (a:Act):=(List.replicate (Int.toNat (256:Int)) (0:UInt8)).set (Int.toNat (0:Int)) (UInt8.ofInt a.Cut)
def Vdb (x:Dk) (la:List Str) (ta:List Int) (fr:List Str) (lf:Int) (po:Prop) (dq:Decidable po) (a:Act) (Q0:Bool->Dk->Int->Int->Str->List Str->List Str->Bool->List Str->List Int->List Str->Int->Bool->Int->Int->Str->List Str->Bool->Prop) (Q1:Bool->Dk->List Str->List Int->List Str->Int->Bool->Prop):Prop :=
(a.Kind=4->x.Ok/\Q1 true (x.limit a.N) ((Rk.mk la ta fr lf (decide po)).limit a.N).a0C ((Rk.mk la ta fr lf (decide po)).limit a.N).At ((Rk.mk la ta fr lf (decide po)).limit a.N).a0D ((Rk.mk la ta fr lf (decide po)).limit a.N).Left (decide (((Rk.mk la ta fr lf (decide po)).limit a.N).Off=true)))/\(¬a.Kind=4->(a.Kind=5->∃ (J:Dk->List (List UInt8)->List Int->List (List UInt8)->Int->Bool->Prop),(x.Ok/\((Rk.mk la ta fr lf (decide po)).Ok/\a.Kept.length<=9223372036854775807)/\J (x.a0P a.N a.Cut a.Kept) ((Rk.mk la ta fr lf (decide po)).a0P a.N a.Cut a.Kept).a0C ((Rk.mk la ta fr lf (decide po)).a0P a.N a.Cut a.Kept).At ((Rk.mk la ta fr lf (decide po)).a0P a.N a.Cut a.Kept).a0D ((Rk.mk la ta fr lf (decide po)).a0P a.N a.Cut a.Kept).Left (decide (((Rk.mk la ta fr lf (decide po)).a0P a.N a.Cut a.Kept).Off=true)))/\∀ (x:Dk) (x_1:List (List UInt8)) (x_2:List Int) (x_3:List (List UInt8)) (x_4:Int) (x_5:Bool),J x x_1 x_2 x_3 x_4 x_5->x.Ok/\(Rk.mk x_1 x_2 x_3 x_4 (decide (x_5=true))).Ok/\Proofs.YtckpdliipjekgaaGreat.Rel x (Rk.mk x_1 x_2 x_3 x_4 (decide (x_5=true)))/\(((r5 (Rk.mk x_1 x_2 x_3 x_4 (decide (x_5=true)))).fst=0->False)->Q1 (decide (true=true)) x x_1 x_2 x_3 x_4 (decide (decide (x_5=true)=true)))/\((r5 (Rk.mk x_1 x_2 x_3 x_4 (decide (x_5=true)))).fst=0->Q0 (decide (true=true)) x (s8 x).snd.fst (s8 x).snd.snd.fst (s8 x).snd.snd.snd.fst (s8 x).snd.snd.snd.snd [] (decide (false=true)) x_1 x_2 x_3 x_4 (decide (decide (x_5=true)=true)) (r5 (Rk.mk x_1 x_2 x_3 x_4 (decide (x_5=true)))).snd.fst (r5 (Rk.mk x_1 x_2 x_3 x_4 (decide (x_5=true)))).snd.snd.fst (r5 (Rk.mk x_1 x_2 x_3 x_4 (decide (x_5=true)))).snd.snd.snd [] (decide (false=true))))/\(¬a.Kind=5->(a.Kind=6->(0:Int)<=256/\(256:Int)=256/\(↑((some (1:Nat)).getD (0:Nat)):Int) * 256<=140737488355328/\(0:Int)<=0/\(0:Int)<(↑(List.replicate (Int.toNat (256:Int)) (0:UInt8)).length:Int)/\x.Ok/\∃ (J:Dk->List (List UInt8)->List Int->List (List UInt8)->Int->Bool->Prop),((Rk.mk la ta fr lf (decide po)).Ok/\J (x.write a.N (b6t a)).snd ((Rk.mk la ta fr lf (decide po)).write a.N (b6t a)).snd.a0C ((Rk.mk la ta fr lf (decide po)).write a.N (b6t a)).snd.At ((Rk.mk la ta fr lf (decide po)).write a.N (b6t a)).snd.a0D ((Rk.mk la ta fr lf (decide po)).write a.N (b6t a)).snd.Left (decide (((Rk.mk la ta fr lf (decide po)).write a.N (b6t a)).snd.Off=true)))/\∀ (x:Dk) (x_1:List (List UInt8)) (x_2:List Int) (x_3:List (List UInt8)) (x_4:Int) (x_5:Bool),J x x_1 x_2 x_3 x_4 x_5->x.Ok/\(Rk.mk x_1 x_2 x_3 x_4 (decide (x_5=true))).Ok/\Proofs.YtckpdliipjekgaaGreat.Rel x (Rk.mk x_1 x_2 x_3 x_4 (decide (x_5=true)))/\(((r5 (Rk.mk x_1 x_2 x_3 x_4 (decide (x_5=true)))).fst=0->False)->Q1 (decide (true=true)) x x_1 x_2 x_3 x_4 (decide (decide (x_5=true)=true)))/\((r5 (Rk.mk x_1 x_2 x_3 x_4 (decide (x_5=true)))).fst=0->Q0 (decide (true=true)) x (s8 x).snd.fst (s8 x).snd.snd.fst (s8 x).snd.snd.snd.fst (s8 x).snd.snd.snd.snd [] (decide (false=true)) x_1 x_2 x_3 x_4 (decide (decide (x_5=true)=true)) (r5 (Rk.mk x_1 x_2 x_3 x_4 (decide (x_5=true)))).snd.fst (r5 (Rk.mk x_1 x_2 x_3 x_4 (decide (x_5=true)))).snd.snd.fst (r5 (Rk.mk x_1 x_2 x_3 x_4 (decide (x_5=true)))).snd.snd.snd [] (decide (false=true))))/\(¬a.Kind=6->Q1 true x la ta fr lf (decide po))))
set_option maxHeartbeats 4000000 in
theorem pdb (x:Dk) (la:List Str) (ta:List Int) (fr:List Str) (lf:Int) (po:Prop) (dq:Decidable po) (a:Act) (hi:∃ i,0<=i/\i<=90/\Ds i x (⟨la,ta,fr,lf,decide po⟩:Rk)) (ha:SmA a):Vdb x la ta fr lf po dq a (fun (an_:Bool) (xk:Dk) (tg:Int) (hg:Int) (bg:Str) (rg:List Str) (wg:List Str) (dg:Bool) (lk:List Str) (ak:List Int) (fk:List Str) (nk:Int) (ok_:Bool) (tr:Int) (hr:Int) (br:Str) (wr:List Str) (dr:Bool)=>an_=true/\∀ i,0<=i->i<=90->Ds i x (⟨la,ta,fr,lf,decide po⟩:Rk)->In2 (i+1) (⟨tg,hg,bg,rg,wg,dg,xk⟩:Lg) (⟨tr,hr,br,wr,dr,(⟨lk,ak,fk,nk,ok_⟩:Rk)⟩:Lr)) (fun (an_:Bool) (xk:Dk) (lk:List Str) (ak:List Int) (fk:List Str) (nk:Int) (ok_:Bool)=>an_=true/\∀ i,0<=i->i<=90->Ds i x (⟨la,ta,fr,lf,decide po⟩:Rk)->Ds (i+1) xk (⟨lk,ak,fk,nk,ok_⟩:Rk)):=by
 unfold Vdb b6t
 obtain ⟨i,i0,i9,I⟩:=hi
 obtain ⟨⟨hS,hM,hMs⟩,hK,hN,hC⟩:=ha
 have okx:x.Ok:=I.okx
 have oky:Rk.Ok ⟨la,ta,fr,lf,decide po⟩:=I.oky
 simp only [b4J]
 refine ⟨fun k4=>⟨okx,by trivial,fun j j0 j9 J=>J.limit hN⟩,fun k4=>⟨fun k5=>⟨fun x' l' a' f' n' o'=>x'=x.a0P a.N a.Cut a.Kept/\(⟨l',a',f',n',o'⟩:Rk)=Rk.a0P ⟨la,ta,fr,lf,decide po⟩ a.N a.Cut a.Kept,⟨okx,⟨oky,by omega⟩,rfl,rfl⟩,?_⟩,
  fun k5=>⟨fun k6=>⟨by decide,by trivial,by decide,by decide,by rw [b3X]; decide,okx,fun x' l' a' f' n' o'=>x'=(x.write a.N ((List.replicate (Int.toNat 256) 0).set (Int.toNat 0) (UInt8.ofInt a.Cut))).2/\(⟨l',a',f',n',o'⟩:Rk)=(Rk.write ⟨la,ta,fr,lf,decide po⟩ a.N ((List.replicate (Int.toNat 256) 0).set (Int.toNat 0) (UInt8.ofInt a.Cut))).2,⟨oky,rfl,rfl⟩,?_⟩,fun k6=>⟨by trivial,fun j j0 j9 J=>J.mono⟩⟩⟩⟩
 . rintro x' l' a' f' n' o' ⟨rfl,hy⟩
   have D:∀ j,0<=j->Ds j x ⟨la,ta,fr,lf,decide po⟩->Ds (j+1) (x.a0P a.N a.Cut a.Kept) (Rk.mk l' a' f' n' o'):=fun j j0 J=>by rw [hy]; exact J.a0P j0 _ _ _
   have d0:=D i i0 I
   exact ⟨d0.okx,d0.oky,d0.d,fun h=>⟨by trivial,fun j j0 _ J=>D j j0 J⟩,fun h=>⟨by trivial,fun j j0 _ J=>(D j j0 J).opened (by omega) h⟩⟩
 . rintro x' l' a' f' n' o' ⟨rfl,hy⟩
   have D:∀ j,0<=j->j<=90->Ds j x ⟨la,ta,fr,lf,decide po⟩->Ds (j+1) (x.write a.N ((List.replicate (Int.toNat 256) 0).set (Int.toNat 0) (UInt8.ofInt a.Cut))).2 (Rk.mk l' a' f' n' o'):=fun j j0 j9 J=>by rw [hy]; exact J.write j0 j9 _ _
   have d0:=D i i0 i9 I
   exact ⟨d0.okx,d0.oky,d0.d,fun h=>⟨by trivial,fun j j0 j9 J=>D j j0 j9 J⟩,fun h=>⟨by trivial,fun j j0 j9 J=>(D j j0 j9 J).opened (by omega) h⟩⟩
def e6v (x:Dk) (la:List Str) (ta:List Int) (fr:List Str) (lf:Int) (po:Prop) (dq:Decidable po) (a:Act):PT U:=fun k=>cj [∃ i,0<=i/\i<=90/\Ds i x (⟨la,ta,fr,lf,decide po⟩:Rk),SmA a] (b2u Nda [] (st0 Nda [(0,.own 40 [.ref 1 0,.con (.pointer none),.ref 2 0,.con (.pointer none)]),(1,.ob (N:=U) 0 7 x),(2,.own 58 [.acc 3,.acc 4,.acc 5,.int .i64 lf,.bl po dq]),(3,.ac (N:=U) 9 la),(4,.ac (N:=U) 3 ta),(5,.ac (N:=U) 9 fr)] 12) [[.slot 0 (.bool),.tree [] [.own (some 200) 40 [.to 1,.to 2,.to 3,.to 4],.ob none 0,.own none 82 [.to 1,.v (.int .i64),.v (.int .i64),.v (.str),.v (.acc 9),.v (.acc 9),.v (.bool)],.own none 58 [.v (.acc 9),.v (.acc 3),.v (.acc 9),.v (.int .i64),.v (.bool)],.own none 50 [.to 3,.v (.int .i64),.v (.int .i64),.v (.str),.v (.acc 9),.v (.bool)]]],[.slot 0 (.bool),.tree [] [.own (some 200) 40 [.to 1,.a0U,.to 2,.a0U],.ob none 0,.own none 58 [.v (.acc 9),.v (.acc 3),.v (.acc 9),.v (.int .i64),.v (.bool)]]]] (((fun (an_:Bool) (xk:Dk) (tg:Int) (hg:Int) (bg:Str) (rg:List Str) (wg:List Str) (dg:Bool) (lk:List Str) (ak:List Int) (fk:List Str) (nk:Int) (ok_:Bool) (tr:Int) (hr:Int) (br:Str) (wr:List Str) (dr:Bool)=>an_=true/\∀ i,0<=i->i<=90->Ds i x (⟨la,ta,fr,lf,decide po⟩:Rk)->In2 (i+1) (⟨tg,hg,bg,rg,wg,dg,xk⟩:Lg) (⟨tr,hr,br,wr,dr,(⟨lk,ak,fk,nk,ok_⟩:Rk)⟩:Lr)),fun _ _ _ _ _ _ _ _ _ _ _ _ _ _ _ _ _ _=>(0:Nat)),(((fun (an_:Bool) (xk:Dk) (lk:List Str) (ak:List Int) (fk:List Str) (nk:Int) (ok_:Bool)=>an_=true/\∀ i,0<=i->i<=90->Ds i x (⟨la,ta,fr,lf,decide po⟩:Rk)->Ds (i+1) xk (⟨lk,ak,fk,nk,ok_⟩:Rk)),fun _ _ _ _ _ _ _=>(0:Nat)),())) (fun im new=>im.1->k (X0 Nda 1 new) new.items new.nx))
def gdb:GD U:=⟨[],[],fun a its=>match a,its with | [.ref 0 0,.agg [.int .i64 a0,.str a1,.sl 9 a2,.int .i64 a3,.int .i64 a4,.sl 3 a5]],[(0,.own 40 [.ref 1 0,.con (.pointer none),.ref 2 0,.con (.pointer none)]),(1,.ob 0 7 x),(2,.own 58 [.acc 3,.acc 4,.acc 5,.int .i64 lf,.bl po dq]),(3,.ac 9 la),(4,.ac 3 ta),(5,.ac 9 fr)]=>some (e6v x la ta fr lf po dq (⟨a0,a1,a2,a3,a4,a5⟩)) | _,_=>none⟩
set_option maxHeartbeats 4000000 in
theorem c7w (args:List (SV U)) (its:a7 U) (S:PT U) (h:gdb.C args its=some S):r6 Tryz.prog U eT Gl 12 args its (2 * its.length) S:=by
 unfold gdb at h
 simp only at h
 split at h
 . rename_i a0 a1 a2 a3 a4 a5 x lf po dq la ta fr
   cases h
   intro k hk
   obtain ⟨ho,hk⟩:=R2 hk
   exact b1r (an:=e5b 12) b9w (l5 b9w c7q e5b 3) Tryz.func12 (n:=1) rfl (ss:=[[.slot 0 (.bool),.tree [] [.own (some 200) 40 [.to 1,.to 2,.to 3,.to 4],.ob none 0,.own none 82 [.to 1,.v (.int .i64),.v (.int .i64),.v (.str),.v (.acc 9),.v (.acc 9),.v (.bool)],.own none 58 [.v (.acc 9),.v (.acc 3),.v (.acc 9),.v (.int .i64),.v (.bool)],.own none 50 [.to 3,.v (.int .i64),.v (.int .i64),.v (.str),.v (.acc 9),.v (.bool)]]],[.slot 0 (.bool),.tree [] [.own (some 200) 40 [.to 1,.a0U,.to 2,.a0U],.ob none 0,.own none 58 [.v (.acc 9),.v (.acc 3),.v (.acc 9),.v (.int .i64),.v (.bool)]]]]) (P:=(((fun (an_:Bool) (xk:Dk) (tg:Int) (hg:Int) (bg:Str) (rg:List Str) (wg:List Str) (dg:Bool) (lk:List Str) (ak:List Int) (fk:List Str) (nk:Int) (ok_:Bool) (tr:Int) (hr:Int) (br:Str) (wr:List Str) (dr:Bool)=>an_=true/\∀ i,0<=i->i<=90->Ds i x (⟨la,ta,fr,lf,decide po⟩:Rk)->In2 (i+1) (⟨tg,hg,bg,rg,wg,dg,xk⟩:Lg) (⟨tr,hr,br,wr,dr,(⟨lk,ak,fk,nk,ok_⟩:Rk)⟩:Lr)),fun _ _ _ _ _ _ _ _ _ _ _ _ _ _ _ _ _ _=>(0:Nat)),(((fun (an_:Bool) (xk:Dk) (lk:List Str) (ak:List Int) (fk:List Str) (nk:Int) (ok_:Bool)=>an_=true/\∀ i,0<=i->i<=90->Ds i x (⟨la,ta,fr,lf,decide po⟩:Rk)->Ds (i+1) xk (⟨lk,ak,fk,nk,ok_⟩:Rk)),fun _ _ _ _ _ _ _=>(0:Nat)),()))) (S:=fun k=>b2u Nda [] (st0 Nda [(0,.own 40 [.ref 1 0,.con (.pointer none),.ref 2 0,.con (.pointer none)]),(1,.ob (N:=U) 0 7 x),(2,.own 58 [.acc 3,.acc 4,.acc 5,.int .i64 lf,.bl po dq]),(3,.ac (N:=U) 9 la),(4,.ac (N:=U) 3 ta),(5,.ac (N:=U) 9 fr)] 12) [[.slot 0 (.bool),.tree [] [.own (some 200) 40 [.to 1,.to 2,.to 3,.to 4],.ob none 0,.own none 82 [.to 1,.v (.int .i64),.v (.int .i64),.v (.str),.v (.acc 9),.v (.acc 9),.v (.bool)],.own none 58 [.v (.acc 9),.v (.acc 3),.v (.acc 9),.v (.int .i64),.v (.bool)],.own none 50 [.to 3,.v (.int .i64),.v (.int .i64),.v (.str),.v (.acc 9),.v (.bool)]]],[.slot 0 (.bool),.tree [] [.own (some 200) 40 [.to 1,.a0U,.to 2,.a0U],.ob none 0,.own none 58 [.v (.acc 9),.v (.acc 3),.v (.acc 9),.v (.int .i64),.v (.bool)]]]] (((fun (an_:Bool) (xk:Dk) (tg:Int) (hg:Int) (bg:Str) (rg:List Str) (wg:List Str) (dg:Bool) (lk:List Str) (ak:List Int) (fk:List Str) (nk:Int) (ok_:Bool) (tr:Int) (hr:Int) (br:Str) (wr:List Str) (dr:Bool)=>an_=true/\∀ i,0<=i->i<=90->Ds i x (⟨la,ta,fr,lf,decide po⟩:Rk)->In2 (i+1) (⟨tg,hg,bg,rg,wg,dg,xk⟩:Lg) (⟨tr,hr,br,wr,dr,(⟨lk,ak,fk,nk,ok_⟩:Rk)⟩:Lr)),fun _ _ _ _ _ _ _ _ _ _ _ _ _ _ _ _ _ _=>(0:Nat)),(((fun (an_:Bool) (xk:Dk) (lk:List Str) (ak:List Int) (fk:List Str) (nk:Int) (ok_:Bool)=>an_=true/\∀ i,0<=i->i<=90->Ds i x (⟨la,ta,fr,lf,decide po⟩:Rk)->Ds (i+1) xk (⟨lk,ak,fk,nk,ok_⟩:Rk)),fun _ _ _ _ _ _ _=>(0:Nat)),())) (fun im new=>im.1->k (X0 Nda 1 new) new.items new.nx)) (kc (pdb x la ta fr lf po dq (⟨a0,a1,a2,a3,a4,a5⟩) ho.1 ho.2.1) (by kernel_rfl)) (fun _ h=>h) k hk
 . cases h
def Ndb:Env:=Nda.a0K 12 Tryz.f12
theorem b7q:l7 Ndb:=b9w.a0K Tryz.call12 Tryz.func12
def Hdb:Nat->Option (GD U):=S7 12 gdb Hda
theorem e0h:∀ K o args its S,Hdb K=some o->o.C args its=some S->r6 Tryz.prog U eT Gl K args its (2 * its.length) S:=I8 c7w c7q
def gdc:GD U:=⟨[],[],fun a its=>match gda.C a its with | some S=>some S | none=>gdb.C a its⟩
theorem e1y (args:List (SV U)) (its:a7 U) (S:PT U) (h:gdc.C args its=some S):r6 Tryz.prog U eT Gl 12 args its (2 * its.length) S:=by
 have h:(match gda.C args its with | some S=>some S | none=>gdb.C args its)=some S:=h
 split at h
 . rename_i S' e
   cases h
   exact c5g args its S e
 . exact c7w args its S h
def Hdc:Nat->Option (GD U):=S7 12 gdc Hdb
theorem d0k:∀ K o args its S,Hdc K=some o->o.C args its=some S->r6 Tryz.prog U eT Gl K args its (2 * its.length) S:=I8 e1y e0h
def c4y:Nat->Ann:=fun | 11=>⟨42,nn,nn⟩ | _=>⟨0,nn,nn⟩
def Vbn (x:Dk) (la:List Str) (ta:List Int) (fr:List Str) (lf:Int) (po:Prop) (dq:Decidable po) (Q0:Bool->Dk->List Str->List Int->List Str->Int->Bool->Prop) (Q1:Bool->Dk->Int->Int->Str->List Str->List Str->Bool->List Str->List Int->List Str->Int->Bool->Int->Int->Str->List Str->Bool->Prop):Prop :=
x.Ok/\(((s8 x).fst=Err.nil->False)->(Rk.mk la ta fr lf (decide po)).Ok/\(((r5 (Rk.mk la ta fr lf (decide po))).fst=0->False)->Q0 (decide ((s8 x).fst.nr=(r5 (Rk.mk la ta fr lf (decide po))).fst/\(True↔True))) x la ta fr lf (decide (decide po=true)))/\((r5 (Rk.mk la ta fr lf (decide po))).fst=0->False))/\((s8 x).fst=Err.nil->(Rk.mk la ta fr lf (decide po)).Ok/\(((r5 (Rk.mk la ta fr lf (decide po))).fst=0->False)->False)/\((r5 (Rk.mk la ta fr lf (decide po))).fst=0->Q1 (decide (Err.nil.nr=0/\(False↔False))) x (s8 x).snd.fst (s8 x).snd.snd.fst (s8 x).snd.snd.snd.fst (s8 x).snd.snd.snd.snd [] (decide (false=true)) la ta fr lf (decide (decide po=true)) (r5 (Rk.mk la ta fr lf (decide po))).snd.fst (r5 (Rk.mk la ta fr lf (decide po))).snd.snd.fst (r5 (Rk.mk la ta fr lf (decide po))).snd.snd.snd [] (decide (false=true))))
theorem e24 {x:Dk} {la:List Str} {ta:List Int} {fr:List Str} {lf:Int} {po:Prop} {dq:Decidable po} {Q0:Bool->Dk->List Str->List Int->List Str->Int->Bool->Prop} {Q1:Bool->Dk->Int->Int->Str->List Str->List Str->Bool->List Str->List Int->List Str->Int->Bool->Int->Int->Str->List Str->Bool->Prop}:@Eq Prop (Vbn x la ta fr lf po dq Q0 Q1) (o9 (E:=Ndb) (Z4 Ndb Hdc c4y 3) (c4y 11) Tryz.f11 [.ref 0 0] [(0,.own 40 [.ref 1 0,.con (.pointer none),.ref 2 0,.con (.pointer none)]),(1,.ob (N:=U) 0 7 x),(2,.own 58 [.acc 3,.acc 4,.acc 5,.int .i64 lf,.bl po dq]),(3,.ac (N:=U) 9 la),(4,.ac (N:=U) 3 ta),(5,.ac (N:=U) 9 fr)] [] 12 (a4c Ndb [(0,.own 40 [.ref 1 0,.con (.pointer none),.ref 2 0,.con (.pointer none)]),(1,.ob (N:=U) 0 7 x),(2,.own 58 [.acc 3,.acc 4,.acc 5,.int .i64 lf,.bl po dq]),(3,.ac (N:=U) 9 la),(4,.ac (N:=U) 3 ta),(5,.ac (N:=U) 9 fr)] 12 1 [[.slot 0 (.bool),.tree [] [.own (some 200) 40 [.to 1,.a0U,.to 2,.a0U],.ob (some 201) 0,.own (some 202) 58 [.v (.acc 9),.v (.acc 3),.v (.acc 9),.v (.int .i64),.v (.bool)]]],[.slot 0 (.bool),.tree [] [.own (some 200) 40 [.to 1,.to 2,.to 3,.to 4],.ob (some 201) 0,.own none 82 [.to 1,.v (.int .i64),.v (.int .i64),.v (.str),.v (.acc 9),.v (.acc 9),.v (.bool)],.own (some 202) 58 [.v (.acc 9),.v (.acc 3),.v (.acc 9),.v (.int .i64),.v (.bool)],.own none 50 [.to 3,.v (.int .i64),.v (.int .i64),.v (.str),.v (.acc 9),.v (.bool)]]]] ((Q0,fun _ _ _ _ _ _ _=>(0:Nat)),((Q1,fun _ _ _ _ _ _ _ _ _ _ _ _ _ _ _ _ _ _=>(0:Nat)),())))):=by kernel_rfl
theorem e03 {x:Dk} {la:List Str} {ta:List Int} {fr:List Str} {lf:Int} {po:Prop} {dq:Decidable po} {Q0:Bool->Dk->List Str->List Int->List Str->Int->Bool->Prop} {Q1:Bool->Dk->Int->Int->Str->List Str->List Str->Bool->List Str->List Int->List Str->Int->Bool->Int->Int->Str->List Str->Bool->Prop} (h:Vbn x la ta fr lf po dq Q0 Q1):o9 (E:=Ndb) (Z4 Ndb Hdc c4y 3) (c4y 11) Tryz.f11 [.ref 0 0] [(0,.own 40 [.ref 1 0,.con (.pointer none),.ref 2 0,.con (.pointer none)]),(1,.ob (N:=U) 0 7 x),(2,.own 58 [.acc 3,.acc 4,.acc 5,.int .i64 lf,.bl po dq]),(3,.ac (N:=U) 9 la),(4,.ac (N:=U) 3 ta),(5,.ac (N:=U) 9 fr)] [] 12 (a4c Ndb [(0,.own 40 [.ref 1 0,.con (.pointer none),.ref 2 0,.con (.pointer none)]),(1,.ob (N:=U) 0 7 x),(2,.own 58 [.acc 3,.acc 4,.acc 5,.int .i64 lf,.bl po dq]),(3,.ac (N:=U) 9 la),(4,.ac (N:=U) 3 ta),(5,.ac (N:=U) 9 fr)] 12 1 [[.slot 0 (.bool),.tree [] [.own (some 200) 40 [.to 1,.a0U,.to 2,.a0U],.ob (some 201) 0,.own (some 202) 58 [.v (.acc 9),.v (.acc 3),.v (.acc 9),.v (.int .i64),.v (.bool)]]],[.slot 0 (.bool),.tree [] [.own (some 200) 40 [.to 1,.to 2,.to 3,.to 4],.ob (some 201) 0,.own none 82 [.to 1,.v (.int .i64),.v (.int .i64),.v (.str),.v (.acc 9),.v (.acc 9),.v (.bool)],.own (some 202) 58 [.v (.acc 9),.v (.acc 3),.v (.acc 9),.v (.int .i64),.v (.bool)],.own none 50 [.to 3,.v (.int .i64),.v (.int .i64),.v (.str),.v (.acc 9),.v (.bool)]]]] ((Q0,fun _ _ _ _ _ _ _=>(0:Nat)),((Q1,fun _ _ _ _ _ _ _ _ _ _ _ _ _ _ _ _ _ _=>(0:Nat)),()))):=by rw [<- e24]; exact h
set_option maxHeartbeats 4000000 in
theorem pbn (x:Dk) (la:List Str) (ta:List Int) (fr:List Str) (lf:Int) (po:Prop) (dq:Decidable po) (okx:x.Ok) (ok:Rk.Ok (⟨la,ta,fr,lf,decide po⟩:Rk)) (rl:Rel x (⟨la,ta,fr,lf,decide po⟩:Rk)):Vbn x la ta fr lf po dq (fun y0 y1 y2 y3 y4 y5 y6=>(r5 (⟨la,ta,fr,lf,decide po⟩:Rk)).1≠0/\y0=true/\y1=x/\y2=((⟨la,ta,fr,lf,decide po⟩:Rk)).a0C/\y3=((⟨la,ta,fr,lf,decide po⟩:Rk)).At/\y4=((⟨la,ta,fr,lf,decide po⟩:Rk)).a0D/\y5=((⟨la,ta,fr,lf,decide po⟩:Rk)).Left/\y6=((⟨la,ta,fr,lf,decide po⟩:Rk)).Off) (fun y0 y1 y2 y3 y4 y5 y6 y7 y8 y9 y10 y11 y12 y13 y14 y15 y16 y17=>(r5 (⟨la,ta,fr,lf,decide po⟩:Rk)).1=0/\y0=true/\y1=x/\y2=(s8 x).2.1/\y3=(s8 x).2.2.1/\y4=(s8 x).2.2.2.1/\y5=(s8 x).2.2.2.2/\y6=([]:List Str)/\y7=false/\y8=((⟨la,ta,fr,lf,decide po⟩:Rk)).a0C/\y9=((⟨la,ta,fr,lf,decide po⟩:Rk)).At/\y10=((⟨la,ta,fr,lf,decide po⟩:Rk)).a0D/\y11=((⟨la,ta,fr,lf,decide po⟩:Rk)).Left/\y12=((⟨la,ta,fr,lf,decide po⟩:Rk)).Off/\y13=(r5 (⟨la,ta,fr,lf,decide po⟩:Rk)).2.1/\y14=(r5 (⟨la,ta,fr,lf,decide po⟩:Rk)).2.2.1/\y15=(r5 (⟨la,ta,fr,lf,decide po⟩:Rk)).2.2.2/\y16=([]:List Str)/\y17=false):=by
 unfold Vbn
 obtain ⟨c,_⟩:=a82 okx rl
 simp only [b4J]
 refine ⟨okx,fun h=>⟨ok,fun h2=>?_,fun h2=>h (c.z.2 h2)⟩,fun h=>⟨ok,fun h2=>h2 (c.z.1 h),fun h2=>?_⟩⟩
 . refine ⟨h2,?_⟩
   rw [c.nr]; simp
 . refine ⟨h2,?_⟩
   simp [a8x]
def e6s (x:Dk) (la:List Str) (ta:List Int) (fr:List Str) (lf:Int) (po:Prop) (dq:Decidable po):PT U:=fun k=>cj [Dk.Ok x,Rk.Ok (⟨la,ta,fr,lf,decide po⟩:Rk),Rel x (⟨la,ta,fr,lf,decide po⟩:Rk)] (a3r Ndb [(0,.own 40 [.ref 1 0,.con (.pointer none),.ref 2 0,.con (.pointer none)]),(1,.ob (N:=U) 0 7 x),(2,.own 58 [.acc 3,.acc 4,.acc 5,.int .i64 lf,.bl po dq]),(3,.ac (N:=U) 9 la),(4,.ac (N:=U) 3 ta),(5,.ac (N:=U) 9 fr)] 12 1 [[.slot 0 (.bool),.tree [] [.own (some 200) 40 [.to 1,.a0U,.to 2,.a0U],.ob (some 201) 0,.own (some 202) 58 [.v (.acc 9),.v (.acc 3),.v (.acc 9),.v (.int .i64),.v (.bool)]]],[.slot 0 (.bool),.tree [] [.own (some 200) 40 [.to 1,.to 2,.to 3,.to 4],.ob (some 201) 0,.own none 82 [.to 1,.v (.int .i64),.v (.int .i64),.v (.str),.v (.acc 9),.v (.acc 9),.v (.bool)],.own (some 202) 58 [.v (.acc 9),.v (.acc 3),.v (.acc 9),.v (.int .i64),.v (.bool)],.own none 50 [.to 3,.v (.int .i64),.v (.int .i64),.v (.str),.v (.acc 9),.v (.bool)]]]] (([(r5 (⟨la,ta,fr,lf,decide po⟩:Rk)).1≠0],(true,((()),x,(((⟨la,ta,fr,lf,decide po⟩:Rk)).a0C,((⟨la,ta,fr,lf,decide po⟩:Rk)).At,((⟨la,ta,fr,lf,decide po⟩:Rk)).a0D,((⟨la,ta,fr,lf,decide po⟩:Rk)).Left,((⟨la,ta,fr,lf,decide po⟩:Rk)).Off,()),()),())),(([(r5 (⟨la,ta,fr,lf,decide po⟩:Rk)).1=0],(true,((()),x,((s8 x).2.1,(s8 x).2.2.1,(s8 x).2.2.2.1,(s8 x).2.2.2.2,([]:List Str),false,()),(((⟨la,ta,fr,lf,decide po⟩:Rk)).a0C,((⟨la,ta,fr,lf,decide po⟩:Rk)).At,((⟨la,ta,fr,lf,decide po⟩:Rk)).a0D,((⟨la,ta,fr,lf,decide po⟩:Rk)).Left,((⟨la,ta,fr,lf,decide po⟩:Rk)).Off,()),((r5 (⟨la,ta,fr,lf,decide po⟩:Rk)).2.1,(r5 (⟨la,ta,fr,lf,decide po⟩:Rk)).2.2.1,(r5 (⟨la,ta,fr,lf,decide po⟩:Rk)).2.2.2,([]:List Str),false,()),()),())),())) k)
def gbn:GD U:=⟨[],[],fun a its=>match a,its with | [.ref 0 0],[(0,.own 40 [.ref 1 0,.con (.pointer none),.ref 2 0,.con (.pointer none)]),(1,.ob 0 7 x),(2,.own 58 [.acc 3,.acc 4,.acc 5,.int .i64 lf,.bl po dq]),(3,.ac 9 la),(4,.ac 3 ta),(5,.ac 9 fr)]=>some (e6s x la ta fr lf po dq) | _,_=>none⟩
set_option maxHeartbeats 4000000 in
theorem c8d (args:List (SV U)) (its:a7 U) (S:PT U) (h:gbn.C args its=some S):r6 Tryz.prog U eT Gl 11 args its (2 * its.length) S:=by
 unfold gbn at h
 simp only at h
 split at h
 . rename_i x lf po dq la ta fr
   cases h
   exact a44 b7q (l5 b7q d0k c4y 3) Tryz.func11 (n:=1) rfl (ss:=[[.slot 0 (.bool),.tree [] [.own (some 200) 40 [.to 1,.a0U,.to 2,.a0U],.ob (some 201) 0,.own (some 202) 58 [.v (.acc 9),.v (.acc 3),.v (.acc 9),.v (.int .i64),.v (.bool)]]],[.slot 0 (.bool),.tree [] [.own (some 200) 40 [.to 1,.to 2,.to 3,.to 4],.ob (some 201) 0,.own none 82 [.to 1,.v (.int .i64),.v (.int .i64),.v (.str),.v (.acc 9),.v (.acc 9),.v (.bool)],.own (some 202) 58 [.v (.acc 9),.v (.acc 3),.v (.acc 9),.v (.int .i64),.v (.bool)],.own none 50 [.to 3,.v (.int .i64),.v (.int .i64),.v (.str),.v (.acc 9),.v (.bool)]]]]) (R:=(([(r5 (⟨la,ta,fr,lf,decide po⟩:Rk)).1≠0],(true,((()),x,(((⟨la,ta,fr,lf,decide po⟩:Rk)).a0C,((⟨la,ta,fr,lf,decide po⟩:Rk)).At,((⟨la,ta,fr,lf,decide po⟩:Rk)).a0D,((⟨la,ta,fr,lf,decide po⟩:Rk)).Left,((⟨la,ta,fr,lf,decide po⟩:Rk)).Off,()),()),())),(([(r5 (⟨la,ta,fr,lf,decide po⟩:Rk)).1=0],(true,((()),x,((s8 x).2.1,(s8 x).2.2.1,(s8 x).2.2.2.1,(s8 x).2.2.2.2,([]:List Str),false,()),(((⟨la,ta,fr,lf,decide po⟩:Rk)).a0C,((⟨la,ta,fr,lf,decide po⟩:Rk)).At,((⟨la,ta,fr,lf,decide po⟩:Rk)).a0D,((⟨la,ta,fr,lf,decide po⟩:Rk)).Left,((⟨la,ta,fr,lf,decide po⟩:Rk)).Off,()),((r5 (⟨la,ta,fr,lf,decide po⟩:Rk)).2.1,(r5 (⟨la,ta,fr,lf,decide po⟩:Rk)).2.2.1,(r5 (⟨la,ta,fr,lf,decide po⟩:Rk)).2.2.2,([]:List Str),false,()),()),())),()))) (obs:=[Dk.Ok x,Rk.Ok (⟨la,ta,fr,lf,decide po⟩:Rk),Rel x (⟨la,ta,fr,lf,decide po⟩:Rk)]) rfl (fun ho=>e03 (pbn x la ta fr lf po dq ho.1 ho.2.1 ho.2.2.1))
 . cases h
def Nbn:Env:=Ndb.a0K 11 Tryz.f11
theorem c5b:l7 Nbn:=b7q.a0K Tryz.call11 Tryz.func11
def Hbn:Nat->Option (GD U):=S7 11 gbn Hdc
theorem e2f:∀ K o args its S,Hbn K=some o->o.C args its=some S->r6 Tryz.prog U eT Gl K args its (2 * its.length) S:=I8 c8d d0k
def gbc:GD U:=⟨[],[],fun a its=>match gbo.C a its with | some S=>some S | none=>gbn.C a its⟩
theorem e1n (args:List (SV U)) (its:a7 U) (S:PT U) (h:gbc.C args its=some S):r6 Tryz.prog U eT Gl 11 args its (2 * its.length) S:=by
 have h:(match gbo.C args its with | some S=>some S | none=>gbn.C args its)=some S:=h
 split at h
 . rename_i S' e
   cases h
   exact c8p args its S e
 . exact c8d args its S h
def Hbc:Nat->Option (GD U):=S7 11 gbc Hbn
theorem e15:∀ K o args its S,Hbc K=some o->o.C args its=some S->r6 Tryz.prog U eT Gl K args its (2 * its.length) S:=I8 e1n e2f
end Go.Proofs.YtckpdliipjekgaaGreat
end
section
namespace Go.Proofs.YtckpdliipjekgaaGreat
open Go Go.Wk Go.Wl Go.Rx Go.Wa Go.Wa
theorem b4e:∀ (l:List Str) (n:Int),n<=a4d n l/\∀ s∈l,n+min (s.length:Int) 100000<=a4d n l
 | [],n=>⟨b5G n,fun _ h=>by cases h⟩
 | s::r,n=>by
  obtain ⟨h1,h2⟩:=b4e r (n+min (s.length:Int) 100000)
  rw [a4d]
  refine ⟨by omega,fun t ht=>?_⟩
  rcases b4D.1 ht with e | ht
  . rw [e]; exact h1
  . have:=h2 t ht; omega
theorem c0r:∀ (l:List Act) (n:Int),0<=n->b4n n l=true->∀ a∈l,a.S.length<=40000/\a.a0T.length<=50/\∀ s∈a.a0T,s.length<=40000
 | [],_,_,_,_,h=>by cases h
 | b::r,n,h0,h,a,ha=>by
  rw [b4n] at h
  split at h
  . cases h
  . rename_i hc
    have h1:b7f n b<=40000:=b9X.1 fun h=>hc (.inl h)
    have h2:(b.a0T.length:Int)<=50:=b9X.1 fun h=>hc (.inr h)
    obtain ⟨m1,m2⟩:=b4e (b.a0T.take 51) (n+min (b.S.length:Int) 100000+min (b.Kept.length:Int) 1000+min (b.a0T.length:Int) 1000)
    rw [b4Q (by omega)] at m1 m2
    unfold b7f at h1
    rw [b4Q (by omega)] at h1
    rcases b4D.1 ha with e | ha
    . rw [e]
      refine ⟨by omega,by omega,fun s hs=>?_⟩
      have:=m2 s hs
      omega
    . refine c0r r (b7f n b) ?_ h a ha
      unfold b7f
      rw [b4Q (by omega)]
      omega
theorem d4g {x:Dk} {y:Rk} (okx:x.Ok) (oky:y.Ok) (d:Rel x y) (hc:y.At.length<=100):Cd (J4 x).1 (C0 y).1/\Ds 0 (J4 x).2 (C0 y).2:=by
 unfold J4 C0
 have el:x.a0B.length=y.a0C.length:=by rw [d.a0B]
 have h1:=okx.pos
 by_cases h6:y.a0C.length<6
 . rw [b2p (by omega) (by omega),if_pos (by simp),if_pos h6]
   exact ⟨a3b (by decide) (by decide),d,okx,oky,by dsimp only; omega⟩
 rw [a5b (by omega),if_neg (fun h=>h rfl),if_neg h6]
 have s1:(o8 (List.replicate 512 0)).length=2:=by rw [H8,b3X]
 obtain ⟨c1,r1⟩:=Z6 (o8 (List.replicate 512 0)) (a:=0) okx oky d (by omega)
 have ok1:=V0 (o8 (List.replicate 512 0)) 0 okx
 obtain ⟨k1,k2,k3⟩:=P5 (o8 (List.replicate 512 0)) (a:=0) oky (by omega)
 generalize a8 x 0 (o8 (List.replicate 512 0))=SA at c1 r1 ok1 ⊢
 generalize l9 y 0 (o8 (List.replicate 512 0))=SB at c1 r1 k1 k2 k3 ⊢
 by_cases hz:SB.1=0
 rotate_left
 . rw [if_pos (c1.ne.2 hz),if_pos hz]; exact ⟨c1,r1,ok1,k1,by omega⟩
 rw [if_neg (fun h=>c1.ne.1 h hz),if_neg (fun h=>h hz)]
 have s2:(o8 (q5 1 0 0)).length=1:=by rw [a2d]; rfl
 obtain ⟨c2,r2⟩:=Z6 (o8 (q5 1 0 0)) (a:=1) ok1 k1 r1 (by omega)
 have ok2:=V0 (o8 (q5 1 0 0)) 1 ok1
 obtain ⟨j1,j2,j3⟩:=P5 (o8 (q5 1 0 0)) (a:=1) k1 (by omega)
 exact ⟨c2,r2,ok2,j1,by omega⟩
theorem d2r {n:Int} (h0:1<=n) (h1:n<=8192):(Rk.new n).Ok:=by
 have e:(Rk.new n).a0C.length=n.toNat:=b3X
 refine ⟨rfl,by rw [e]; omega,fun a h=>(by cases h),fun s hs=>?_,fun s h=>(by cases h),⟨by show (-9223372036854775808:Int)<=-1; omega,by show (-1:Int)<=9223372036854775807; omega⟩,b6N _⟩
 rw [List.eq_of_mem_replicate hs]; exact b3X
theorem d7y {l:List Act} (h:b3j l=true) (hq:∀ i:Int,0<=i->i<l.length->(ix l i).Kept.length<=9223372036854775807):l.length<=60/\∀ i:Int,0<=i->i<l.length->i6 (ix l i).N->i6 (ix l i).Cut->SmA (ix l i):=by
 unfold b3j at h
 split at h
 . rename_i h1
   have h2:=b3V h
   rw [b4Q (by omega)] at h1
   refine ⟨by omega,fun i i0 i1 hN hC=>?_⟩
   obtain ⟨a1,a2,a3⟩:=c0r l 0 (b5G 0) h1 _ (Q4 i0 i1)
   exact ⟨⟨by omega,by omega,fun s hs=>by have:=a3 s hs; omega⟩,hq i i0 i1,⟨by have:=hN.1; omega,by have:=hN.2; omega⟩,⟨by have:=hC.1; omega,by have:=hC.2; omega⟩⟩
 . cases h
end Go.Proofs.YtckpdliipjekgaaGreat
end
section
namespace Go.Proofs.YtckpdliipjekgaaGreat
open Go Go.Wk Go.Wl Go.Rx Go.Wa 
attribute [local irreducible] o9
def e4n:Nat->Ann:=fun | 3=>⟨129,fun | 13=>some ⟨[11,55,56],[.slot 57 (.int .i64),.tree [] [.own (some 11) 40 [.to 1,.to 2,.to 3,.to 4],.ob none 0,.own none 82 [.to 1,.v (.int .i64),.v (.int .i64),.v .str,.v (.acc 9),.v (.acc 9),.v .bool],.own none 58 [.v (.acc 9),.v (.acc 3),.v (.acc 9),.v (.int .i64),.v .bool],.own none 50 [.to 3,.v (.int .i64),.v (.int .i64),.v .str,.v (.acc 9),.v .bool]],.alt,.slot 57 (.int .i64),.tree [] [.own (some 11) 40 [.to 1,.a0U,.to 2,.a0U],.ob none 0,.own none 58 [.v (.acc 9),.v (.acc 3),.v (.acc 9),.v (.int .i64),.v .bool]]]⟩ | _=>none,fun | 2000003=>some ⟨[31],[]⟩ | _=>none⟩ | _=>⟨0,nn,nn⟩
def b2s (l:List Act) (x:Int):=Proofs.YtckpdliipjekgaaGreat.Act.mk (ix l x).Kind (ix l x).S (ix l x).a0T (ix l x).N (ix l x).Cut (ix l x).Kept
def VlP (n:Int) (fm:Bool) (l:List Act) (Q:Bool->Prop):Prop :=
((1:Int)<=n/\n<=8192->(n<1 ∨ (8192:Int)<n->Q false)/\((n<1 ∨ (8192:Int)<n->False)->(¬b3j l=true->Q true)/\(¬¬b3j l=true->(fm=true->(Dk.new n).Ok/\(Rk.mk (Rk.new n).a0C (Rk.new n).At (Rk.new n).a0D (Rk.new n).Left (decide ((Rk.new n).Off=true))).Ok/\(Rk.new n).At.length+20000<=1000000/\((J4 (Dk.new n)).fst.nr≠(C0 (Rk.mk (Rk.new n).a0C (Rk.new n).At (Rk.new n).a0D (Rk.new n).Left (decide ((Rk.new n).Off=true)))).fst->Q false)/\(¬(J4 (Dk.new n)).fst.nr≠(C0 (Rk.mk (Rk.new n).a0C (Rk.new n).At (Rk.new n).a0D (Rk.new n).Left (decide ((Rk.new n).Off=true)))).fst->(J4 (Dk.new n)).snd.Ok/\(Rk.mk (C0 (Rk.mk (Rk.new n).a0C (Rk.new n).At (Rk.new n).a0D (Rk.new n).Left (decide ((Rk.new n).Off=true)))).snd.a0C (C0 (Rk.mk (Rk.new n).a0C (Rk.new n).At (Rk.new n).a0D (Rk.new n).Left (decide ((Rk.new n).Off=true)))).snd.At (C0 (Rk.mk (Rk.new n).a0C (Rk.new n).At (Rk.new n).a0D (Rk.new n).Left (decide ((Rk.new n).Off=true)))).snd.a0D (C0 (Rk.mk (Rk.new n).a0C (Rk.new n).At (Rk.new n).a0D (Rk.new n).Left (decide ((Rk.new n).Off=true)))).snd.Left (decide ((C0 (Rk.mk (Rk.new n).a0C (Rk.new n).At (Rk.new n).a0D (Rk.new n).Left (decide ((Rk.new n).Off=true)))).snd.Off=true))).Ok/\Proofs.YtckpdliipjekgaaGreat.Rel (J4 (Dk.new n)).snd (Rk.mk (C0 (Rk.mk (Rk.new n).a0C (Rk.new n).At (Rk.new n).a0D (Rk.new n).Left (decide ((Rk.new n).Off=true)))).snd.a0C (C0 (Rk.mk (Rk.new n).a0C (Rk.new n).At (Rk.new n).a0D (Rk.new n).Left (decide ((Rk.new n).Off=true)))).snd.At (C0 (Rk.mk (Rk.new n).a0C (Rk.new n).At (Rk.new n).a0D (Rk.new n).Left (decide ((Rk.new n).Off=true)))).snd.a0D (C0 (Rk.mk (Rk.new n).a0C (Rk.new n).At (Rk.new n).a0D (Rk.new n).Left (decide ((Rk.new n).Off=true)))).snd.Left (decide ((C0 (Rk.mk (Rk.new n).a0C (Rk.new n).At (Rk.new n).a0D (Rk.new n).Left (decide ((Rk.new n).Off=true)))).snd.Off=true)))/\(((r5 (Rk.mk (C0 (Rk.mk (Rk.new n).a0C (Rk.new n).At (Rk.new n).a0D (Rk.new n).Left (decide ((Rk.new n).Off=true)))).snd.a0C (C0 (Rk.mk (Rk.new n).a0C (Rk.new n).At (Rk.new n).a0D (Rk.new n).Left (decide ((Rk.new n).Off=true)))).snd.At (C0 (Rk.mk (Rk.new n).a0C (Rk.new n).At (Rk.new n).a0D (Rk.new n).Left (decide ((Rk.new n).Off=true)))).snd.a0D (C0 (Rk.mk (Rk.new n).a0C (Rk.new n).At (Rk.new n).a0D (Rk.new n).Left (decide ((Rk.new n).Off=true)))).snd.Left (decide ((C0 (Rk.mk (Rk.new n).a0C (Rk.new n).At (Rk.new n).a0D (Rk.new n).Left (decide ((Rk.new n).Off=true)))).snd.Off=true)))).fst=0->False)->(¬true=true->Q false)/\(¬¬true=true->∃ (I:Int->Dk->Int->Int->List UInt8->List (List UInt8)->List (List UInt8)->Bool->List (List UInt8)->List Int->List (List UInt8)->Int->Bool->Int->Int->List UInt8->List (List UInt8)->Bool->Prop),∃ (m:Int->Dk->Int->Int->List UInt8->List (List UInt8)->List (List UInt8)->Bool->List (List UInt8)->List Int->List (List UInt8)->Int->Bool->Int->Int->List UInt8->List (List UInt8)->Bool->Nat),∃ (I_1:Int->Dk->List (List UInt8)->List Int->List (List UInt8)->Int->Bool->Prop),∃ (m_1:Int->Dk->List (List UInt8)->List Int->List (List UInt8)->Int->Bool->Nat),I_1 (0:Int) (J4 (Dk.new n)).snd (C0 (Rk.mk (Rk.new n).a0C (Rk.new n).At (Rk.new n).a0D (Rk.new n).Left (decide ((Rk.new n).Off=true)))).snd.a0C (C0 (Rk.mk (Rk.new n).a0C (Rk.new n).At (Rk.new n).a0D (Rk.new n).Left (decide ((Rk.new n).Off=true)))).snd.At (C0 (Rk.mk (Rk.new n).a0C (Rk.new n).At (Rk.new n).a0D (Rk.new n).Left (decide ((Rk.new n).Off=true)))).snd.a0D (C0 (Rk.mk (Rk.new n).a0C (Rk.new n).At (Rk.new n).a0D (Rk.new n).Left (decide ((Rk.new n).Off=true)))).snd.Left (decide (decide ((C0 (Rk.mk (Rk.new n).a0C (Rk.new n).At (Rk.new n).a0D (Rk.new n).Left (decide ((Rk.new n).Off=true)))).snd.Off=true)=true))/\(∀ (x:Int) (x_1:Dk) (x_2 x_3:Int) (x_4:List UInt8) (x_5 x_6:List (List UInt8)) (x_7:Bool) (x_8:List (List UInt8)) (x_9:List Int) (x_10:List (List UInt8)) (x_11:Int) (x_12:Bool) (x_13 x_14:Int) (x_15:List UInt8) (x_16:List (List UInt8)) (x_17:Bool),I x x_1 x_2 x_3 x_4 x_5 x_6 x_7 x_8 x_9 x_10 x_11 x_12 x_13 x_14 x_15 x_16 x_17->(x<(↑l.length:Int)->(0:Int)<=x/\x<(↑l.length:Int)/\(i6 (ix l x).Kind->i6 (ix l x).N->i6 (ix l x).Cut->(∃ (i:Int),(0:Int)<=i/\i<=90/\In2 i (Lg.mk x_2 x_3 x_4 x_5 x_6 (decide (x_7=true)) x_1) (Lr.mk x_13 x_14 x_15 x_16 (decide (x_17=true)) (Rk.mk x_8 x_9 x_10 x_11 (decide (x_12=true)))))/\SmA (b2s l x)/\(∀ (x_18:Bool) (x_19:Dk) (x_20 x_21:Int) (x_22:List UInt8) (x_23 x_24:List (List UInt8)) (x_25:Bool) (x_26:List (List UInt8)) (x_27:List Int) (x_28:List (List UInt8)) (x_29:Int) (x_30:Bool) (x_31 x_32:Int) (x_33:List UInt8) (x_34:List (List UInt8)) (x_35:Bool),(x_18=true/\∀ (i:Int),(0:Int)<=i->i<=90->In2 i (Lg.mk x_2 x_3 x_4 x_5 x_6 (decide (x_7=true)) x_1) (Lr.mk x_13 x_14 x_15 x_16 (decide (x_17=true)) (Rk.mk x_8 x_9 x_10 x_11 (decide (x_12=true))))->In2 (i+1) (Lg.mk x_20 x_21 x_22 x_23 x_24 x_25 x_19) (Lr.mk x_31 x_32 x_33 x_34 x_35 (Rk.mk x_26 x_27 x_28 x_29 x_30)))->(¬x_18=true->Q false)/\(¬¬x_18=true->(True/\x_23.length<=1000000)/\(True/\x_33.length<=2000000)/\(True->x_23.length<=1000000)/\(True/\¬¬v7 x_23 (o4 x_33)=true)/\((True/\¬(¬v7 x_23 (o4 x_33)=true ∨ (↑x_24.length:Int)≠(↑x_34.length:Int)))/\LgB (Lg.mk x_20 x_21 x_22 x_23 x_24 (decide (decide (decide (x_25=true)=true)=true)) x_19))/\((True/\¬(¬v7 x_23 (o4 x_33)=true ∨ (↑x_24.length:Int)≠(↑x_34.length:Int)))/\(Rk.mk x_26 x_27 x_28 x_29 (decide (decide (x_30=true)=true))).Ok/\x_33.length<=2000000/\SmL x_34/\List.length (l6 x_34).fst<=2000000)/\(True/\¬((¬v7 x_23 (o4 x_33)=true ∨ (↑x_24.length:Int)≠(↑x_34.length:Int)) ∨ c9 x_19 * 256-(↑x_22.length:Int)-z8 x_24≠D9 (Lr.mk x_31 x_32 x_33 x_34 (decide (decide (x_35=true)=true)) (Rk.mk x_26 x_27 x_28 x_29 (decide (decide (x_30=true)=true))))))/\(True/\(((¬v7 x_23 (o4 x_33)=true ∨ (↑x_24.length:Int)≠(↑x_34.length:Int)) ∨ c9 x_19 * 256-(↑x_22.length:Int)-z8 x_24≠D9 (Lr.mk x_31 x_32 x_33 x_34 (decide (decide (x_35=true)=true)) (Rk.mk x_26 x_27 x_28 x_29 (decide (decide (x_30=true)=true))))) ∨ x_20≠x_31)->Q false)/\(¬(True/\(((¬v7 x_23 (o4 x_33)=true ∨ (↑x_24.length:Int)≠(↑x_34.length:Int)) ∨ c9 x_19 * 256-(↑x_22.length:Int)-z8 x_24≠D9 (Lr.mk x_31 x_32 x_33 x_34 (decide (decide (x_35=true)=true)) (Rk.mk x_26 x_27 x_28 x_29 (decide (decide (x_30=true)=true))))) ∨ x_20≠x_31))->i6 (x+1)/\I (x+1) x_19 x_20 x_21 x_22 x_23 x_24 (decide (decide (decide (decide (decide (x_25=true)=true)=true)=true)=true)) x_26 x_27 x_28 x_29 (decide (decide (decide (x_30=true)=true)=true)) x_31 x_32 x_33 x_34 (decide (decide (decide (x_35=true)=true)=true))/\m (x+1) x_19 x_20 x_21 x_22 x_23 x_24 (decide (decide (decide (decide (decide (x_25=true)=true)=true)=true)=true)) x_26 x_27 x_28 x_29 (decide (decide (decide (x_30=true)=true)=true)) x_31 x_32 x_33 x_34 (decide (decide (decide (x_35=true)=true)=true))<m x x_1 x_2 x_3 x_4 x_5 x_6 x_7 x_8 x_9 x_10 x_11 x_12 x_13 x_14 x_15 x_16 x_17)))/\(∀ (x_18:Bool) (x_19:Dk) (x_20:List (List UInt8)) (x_21:List Int) (x_22:List (List UInt8)) (x_23:Int) (x_24:Bool),(x_18=true/\∀ (i:Int),(0:Int)<=i->i<=90->In2 i (Lg.mk x_2 x_3 x_4 x_5 x_6 (decide (x_7=true)) x_1) (Lr.mk x_13 x_14 x_15 x_16 (decide (x_17=true)) (Rk.mk x_8 x_9 x_10 x_11 (decide (x_12=true))))->Ds (i+1) x_19 (Rk.mk x_20 x_21 x_22 x_23 x_24))->(¬x_18=true->Q false)/\(¬¬x_18=true->i6 (x+1)/\I_1 (x+1) x_19 x_20 x_21 x_22 x_23 (decide (x_24=true))/\m_1 (x+1) x_19 x_20 x_21 x_22 x_23 (decide (x_24=true))<m x x_1 x_2 x_3 x_4 x_5 x_6 x_7 x_8 x_9 x_10 x_11 x_12 x_13 x_14 x_15 x_16 x_17))/\True))/\(¬x<(↑l.length:Int)->Q true))/\(∀ (x:Int) (x_1:Dk) (x_2:List (List UInt8)) (x_3:List Int) (x_4:List (List UInt8)) (x_5:Int) (x_6:Bool),I_1 x x_1 x_2 x_3 x_4 x_5 x_6->(x<(↑l.length:Int)->(0:Int)<=x/\x<(↑l.length:Int)/\(i6 (ix l x).Kind->i6 (ix l x).N->i6 (ix l x).Cut->(∃ (i:Int),(0:Int)<=i/\i<=90/\Ds i x_1 (Rk.mk x_2 x_3 x_4 x_5 (decide (x_6=true))))/\SmA (b2s l x)/\(∀ (x_7:Bool) (x_8:Dk) (x_9 x_10:Int) (x_11:List UInt8) (x_12 x_13:List (List UInt8)) (x_14:Bool) (x_15:List (List UInt8)) (x_16:List Int) (x_17:List (List UInt8)) (x_18:Int) (x_19:Bool) (x_20 x_21:Int) (x_22:List UInt8) (x_23:List (List UInt8)) (x_24:Bool),(x_7=true/\∀ (i:Int),(0:Int)<=i->i<=90->Ds i x_1 (Rk.mk x_2 x_3 x_4 x_5 (decide (x_6=true)))->In2 (i+1) (Lg.mk x_9 x_10 x_11 x_12 x_13 x_14 x_8) (Lr.mk x_20 x_21 x_22 x_23 x_24 (Rk.mk x_15 x_16 x_17 x_18 x_19)))->(¬x_7=true->Q false)/\(¬¬x_7=true->(True/\x_12.length<=1000000)/\(True/\x_22.length<=2000000)/\(True->x_12.length<=1000000)/\(True/\¬¬v7 x_12 (o4 x_22)=true)/\((True/\¬(¬v7 x_12 (o4 x_22)=true ∨ (↑x_13.length:Int)≠(↑x_23.length:Int)))/\LgB (Lg.mk x_9 x_10 x_11 x_12 x_13 (decide (decide (decide (x_14=true)=true)=true)) x_8))/\((True/\¬(¬v7 x_12 (o4 x_22)=true ∨ (↑x_13.length:Int)≠(↑x_23.length:Int)))/\(Rk.mk x_15 x_16 x_17 x_18 (decide (decide (x_19=true)=true))).Ok/\x_22.length<=2000000/\SmL x_23/\List.length (l6 x_23).fst<=2000000)/\(True/\¬((¬v7 x_12 (o4 x_22)=true ∨ (↑x_13.length:Int)≠(↑x_23.length:Int)) ∨ c9 x_8 * 256-(↑x_11.length:Int)-z8 x_13≠D9 (Lr.mk x_20 x_21 x_22 x_23 (decide (decide (x_24=true)=true)) (Rk.mk x_15 x_16 x_17 x_18 (decide (decide (x_19=true)=true))))))/\(True/\(((¬v7 x_12 (o4 x_22)=true ∨ (↑x_13.length:Int)≠(↑x_23.length:Int)) ∨ c9 x_8 * 256-(↑x_11.length:Int)-z8 x_13≠D9 (Lr.mk x_20 x_21 x_22 x_23 (decide (decide (x_24=true)=true)) (Rk.mk x_15 x_16 x_17 x_18 (decide (decide (x_19=true)=true))))) ∨ x_9≠x_20)->Q false)/\(¬(True/\(((¬v7 x_12 (o4 x_22)=true ∨ (↑x_13.length:Int)≠(↑x_23.length:Int)) ∨ c9 x_8 * 256-(↑x_11.length:Int)-z8 x_13≠D9 (Lr.mk x_20 x_21 x_22 x_23 (decide (decide (x_24=true)=true)) (Rk.mk x_15 x_16 x_17 x_18 (decide (decide (x_19=true)=true))))) ∨ x_9≠x_20))->i6 (x+1)/\I (x+1) x_8 x_9 x_10 x_11 x_12 x_13 (decide (decide (decide (decide (decide (x_14=true)=true)=true)=true)=true)) x_15 x_16 x_17 x_18 (decide (decide (decide (x_19=true)=true)=true)) x_20 x_21 x_22 x_23 (decide (decide (decide (x_24=true)=true)=true))/\m (x+1) x_8 x_9 x_10 x_11 x_12 x_13 (decide (decide (decide (decide (decide (x_14=true)=true)=true)=true)=true)) x_15 x_16 x_17 x_18 (decide (decide (decide (x_19=true)=true)=true)) x_20 x_21 x_22 x_23 (decide (decide (decide (x_24=true)=true)=true))<m_1 x x_1 x_2 x_3 x_4 x_5 x_6)))/\(∀ (x_7:Bool) (x_8:Dk) (x_9:List (List UInt8)) (x_10:List Int) (x_11:List (List UInt8)) (x_12:Int) (x_13:Bool),(x_7=true/\∀ (i:Int),(0:Int)<=i->i<=90->Ds i x_1 (Rk.mk x_2 x_3 x_4 x_5 (decide (x_6=true)))->Ds (i+1) x_8 (Rk.mk x_9 x_10 x_11 x_12 x_13))->(¬x_7=true->Q false)/\(¬¬x_7=true->i6 (x+1)/\I_1 (x+1) x_8 x_9 x_10 x_11 x_12 (decide (x_13=true))/\m_1 (x+1) x_8 x_9 x_10 x_11 x_12 (decide (x_13=true))<m_1 x x_1 x_2 x_3 x_4 x_5 x_6))/\True))/\(¬x<(↑l.length:Int)->Q true))/\True))/\((r5 (Rk.mk (C0 (Rk.mk (Rk.new n).a0C (Rk.new n).At (Rk.new n).a0D (Rk.new n).Left (decide ((Rk.new n).Off=true)))).snd.a0C (C0 (Rk.mk (Rk.new n).a0C (Rk.new n).At (Rk.new n).a0D (Rk.new n).Left (decide ((Rk.new n).Off=true)))).snd.At (C0 (Rk.mk (Rk.new n).a0C (Rk.new n).At (Rk.new n).a0D (Rk.new n).Left (decide ((Rk.new n).Off=true)))).snd.a0D (C0 (Rk.mk (Rk.new n).a0C (Rk.new n).At (Rk.new n).a0D (Rk.new n).Left (decide ((Rk.new n).Off=true)))).snd.Left (decide ((C0 (Rk.mk (Rk.new n).a0C (Rk.new n).At (Rk.new n).a0D (Rk.new n).Left (decide ((Rk.new n).Off=true)))).snd.Off=true)))).fst=0->(¬true=true->Q false)/\(¬¬true=true->∃ (I:Int->Dk->Int->Int->List UInt8->List (List UInt8)->List (List UInt8)->Bool->List (List UInt8)->List Int->List (List UInt8)->Int->Bool->Int->Int->List UInt8->List (List UInt8)->Bool->Prop),∃ (m:Int->Dk->Int->Int->List UInt8->List (List UInt8)->List (List UInt8)->Bool->List (List UInt8)->List Int->List (List UInt8)->Int->Bool->Int->Int->List UInt8->List (List UInt8)->Bool->Nat),∃ (I_1:Int->Dk->List (List UInt8)->List Int->List (List UInt8)->Int->Bool->Prop),∃ (m_1:Int->Dk->List (List UInt8)->List Int->List (List UInt8)->Int->Bool->Nat),I (0:Int) (J4 (Dk.new n)).snd (s8 (J4 (Dk.new n)).snd).snd.fst (s8 (J4 (Dk.new n)).snd).snd.snd.fst (s8 (J4 (Dk.new n)).snd).snd.snd.snd.fst (s8 (J4 (Dk.new n)).snd).snd.snd.snd.snd [] (decide (false=true)) (C0 (Rk.mk (Rk.new n).a0C (Rk.new n).At (Rk.new n).a0D (Rk.new n).Left (decide ((Rk.new n).Off=true)))).snd.a0C (C0 (Rk.mk (Rk.new n).a0C (Rk.new n).At (Rk.new n).a0D (Rk.new n).Left (decide ((Rk.new n).Off=true)))).snd.At (C0 (Rk.mk (Rk.new n).a0C (Rk.new n).At (Rk.new n).a0D (Rk.new n).Left (decide ((Rk.new n).Off=true)))).snd.a0D (C0 (Rk.mk (Rk.new n).a0C (Rk.new n).At (Rk.new n).a0D (Rk.new n).Left (decide ((Rk.new n).Off=true)))).snd.Left (decide (decide ((C0 (Rk.mk (Rk.new n).a0C (Rk.new n).At (Rk.new n).a0D (Rk.new n).Left (decide ((Rk.new n).Off=true)))).snd.Off=true)=true)) (r5 (Rk.mk (C0 (Rk.mk (Rk.new n).a0C (Rk.new n).At (Rk.new n).a0D (Rk.new n).Left (decide ((Rk.new n).Off=true)))).snd.a0C (C0 (Rk.mk (Rk.new n).a0C (Rk.new n).At (Rk.new n).a0D (Rk.new n).Left (decide ((Rk.new n).Off=true)))).snd.At (C0 (Rk.mk (Rk.new n).a0C (Rk.new n).At (Rk.new n).a0D (Rk.new n).Left (decide ((Rk.new n).Off=true)))).snd.a0D (C0 (Rk.mk (Rk.new n).a0C (Rk.new n).At (Rk.new n).a0D (Rk.new n).Left (decide ((Rk.new n).Off=true)))).snd.Left (decide ((C0 (Rk.mk (Rk.new n).a0C (Rk.new n).At (Rk.new n).a0D (Rk.new n).Left (decide ((Rk.new n).Off=true)))).snd.Off=true)))).snd.fst (r5 (Rk.mk (C0 (Rk.mk (Rk.new n).a0C (Rk.new n).At (Rk.new n).a0D (Rk.new n).Left (decide ((Rk.new n).Off=true)))).snd.a0C (C0 (Rk.mk (Rk.new n).a0C (Rk.new n).At (Rk.new n).a0D (Rk.new n).Left (decide ((Rk.new n).Off=true)))).snd.At (C0 (Rk.mk (Rk.new n).a0C (Rk.new n).At (Rk.new n).a0D (Rk.new n).Left (decide ((Rk.new n).Off=true)))).snd.a0D (C0 (Rk.mk (Rk.new n).a0C (Rk.new n).At (Rk.new n).a0D (Rk.new n).Left (decide ((Rk.new n).Off=true)))).snd.Left (decide ((C0 (Rk.mk (Rk.new n).a0C (Rk.new n).At (Rk.new n).a0D (Rk.new n).Left (decide ((Rk.new n).Off=true)))).snd.Off=true)))).snd.snd.fst (r5 (Rk.mk (C0 (Rk.mk (Rk.new n).a0C (Rk.new n).At (Rk.new n).a0D (Rk.new n).Left (decide ((Rk.new n).Off=true)))).snd.a0C (C0 (Rk.mk (Rk.new n).a0C (Rk.new n).At (Rk.new n).a0D (Rk.new n).Left (decide ((Rk.new n).Off=true)))).snd.At (C0 (Rk.mk (Rk.new n).a0C (Rk.new n).At (Rk.new n).a0D (Rk.new n).Left (decide ((Rk.new n).Off=true)))).snd.a0D (C0 (Rk.mk (Rk.new n).a0C (Rk.new n).At (Rk.new n).a0D (Rk.new n).Left (decide ((Rk.new n).Off=true)))).snd.Left (decide ((C0 (Rk.mk (Rk.new n).a0C (Rk.new n).At (Rk.new n).a0D (Rk.new n).Left (decide ((Rk.new n).Off=true)))).snd.Off=true)))).snd.snd.snd [] (decide (false=true))/\(∀ (x:Int) (x_1:Dk) (x_2 x_3:Int) (x_4:List UInt8) (x_5 x_6:List (List UInt8)) (x_7:Bool) (x_8:List (List UInt8)) (x_9:List Int) (x_10:List (List UInt8)) (x_11:Int) (x_12:Bool) (x_13 x_14:Int) (x_15:List UInt8) (x_16:List (List UInt8)) (x_17:Bool),I x x_1 x_2 x_3 x_4 x_5 x_6 x_7 x_8 x_9 x_10 x_11 x_12 x_13 x_14 x_15 x_16 x_17->(x<(↑l.length:Int)->(0:Int)<=x/\x<(↑l.length:Int)/\(i6 (ix l x).Kind->i6 (ix l x).N->i6 (ix l x).Cut->(∃ (i:Int),(0:Int)<=i/\i<=90/\In2 i (Lg.mk x_2 x_3 x_4 x_5 x_6 (decide (x_7=true)) x_1) (Lr.mk x_13 x_14 x_15 x_16 (decide (x_17=true)) (Rk.mk x_8 x_9 x_10 x_11 (decide (x_12=true)))))/\SmA (b2s l x)/\(∀ (x_18:Bool) (x_19:Dk) (x_20 x_21:Int) (x_22:List UInt8) (x_23 x_24:List (List UInt8)) (x_25:Bool) (x_26:List (List UInt8)) (x_27:List Int) (x_28:List (List UInt8)) (x_29:Int) (x_30:Bool) (x_31 x_32:Int) (x_33:List UInt8) (x_34:List (List UInt8)) (x_35:Bool),(x_18=true/\∀ (i:Int),(0:Int)<=i->i<=90->In2 i (Lg.mk x_2 x_3 x_4 x_5 x_6 (decide (x_7=true)) x_1) (Lr.mk x_13 x_14 x_15 x_16 (decide (x_17=true)) (Rk.mk x_8 x_9 x_10 x_11 (decide (x_12=true))))->In2 (i+1) (Lg.mk x_20 x_21 x_22 x_23 x_24 x_25 x_19) (Lr.mk x_31 x_32 x_33 x_34 x_35 (Rk.mk x_26 x_27 x_28 x_29 x_30)))->(¬x_18=true->Q false)/\(¬¬x_18=true->(True/\x_23.length<=1000000)/\(True/\x_33.length<=2000000)/\(True->x_23.length<=1000000)/\(True/\¬¬v7 x_23 (o4 x_33)=true)/\((True/\¬(¬v7 x_23 (o4 x_33)=true ∨ (↑x_24.length:Int)≠(↑x_34.length:Int)))/\LgB (Lg.mk x_20 x_21 x_22 x_23 x_24 (decide (decide (decide (x_25=true)=true)=true)) x_19))/\((True/\¬(¬v7 x_23 (o4 x_33)=true ∨ (↑x_24.length:Int)≠(↑x_34.length:Int)))/\(Rk.mk x_26 x_27 x_28 x_29 (decide (decide (x_30=true)=true))).Ok/\x_33.length<=2000000/\SmL x_34/\List.length (l6 x_34).fst<=2000000)/\(True/\¬((¬v7 x_23 (o4 x_33)=true ∨ (↑x_24.length:Int)≠(↑x_34.length:Int)) ∨ c9 x_19 * 256-(↑x_22.length:Int)-z8 x_24≠D9 (Lr.mk x_31 x_32 x_33 x_34 (decide (decide (x_35=true)=true)) (Rk.mk x_26 x_27 x_28 x_29 (decide (decide (x_30=true)=true))))))/\(True/\(((¬v7 x_23 (o4 x_33)=true ∨ (↑x_24.length:Int)≠(↑x_34.length:Int)) ∨ c9 x_19 * 256-(↑x_22.length:Int)-z8 x_24≠D9 (Lr.mk x_31 x_32 x_33 x_34 (decide (decide (x_35=true)=true)) (Rk.mk x_26 x_27 x_28 x_29 (decide (decide (x_30=true)=true))))) ∨ x_20≠x_31)->Q false)/\(¬(True/\(((¬v7 x_23 (o4 x_33)=true ∨ (↑x_24.length:Int)≠(↑x_34.length:Int)) ∨ c9 x_19 * 256-(↑x_22.length:Int)-z8 x_24≠D9 (Lr.mk x_31 x_32 x_33 x_34 (decide (decide (x_35=true)=true)) (Rk.mk x_26 x_27 x_28 x_29 (decide (decide (x_30=true)=true))))) ∨ x_20≠x_31))->i6 (x+1)/\I (x+1) x_19 x_20 x_21 x_22 x_23 x_24 (decide (decide (decide (decide (decide (x_25=true)=true)=true)=true)=true)) x_26 x_27 x_28 x_29 (decide (decide (decide (x_30=true)=true)=true)) x_31 x_32 x_33 x_34 (decide (decide (decide (x_35=true)=true)=true))/\m (x+1) x_19 x_20 x_21 x_22 x_23 x_24 (decide (decide (decide (decide (decide (x_25=true)=true)=true)=true)=true)) x_26 x_27 x_28 x_29 (decide (decide (decide (x_30=true)=true)=true)) x_31 x_32 x_33 x_34 (decide (decide (decide (x_35=true)=true)=true))<m x x_1 x_2 x_3 x_4 x_5 x_6 x_7 x_8 x_9 x_10 x_11 x_12 x_13 x_14 x_15 x_16 x_17)))/\(∀ (x_18:Bool) (x_19:Dk) (x_20:List (List UInt8)) (x_21:List Int) (x_22:List (List UInt8)) (x_23:Int) (x_24:Bool),(x_18=true/\∀ (i:Int),(0:Int)<=i->i<=90->In2 i (Lg.mk x_2 x_3 x_4 x_5 x_6 (decide (x_7=true)) x_1) (Lr.mk x_13 x_14 x_15 x_16 (decide (x_17=true)) (Rk.mk x_8 x_9 x_10 x_11 (decide (x_12=true))))->Ds (i+1) x_19 (Rk.mk x_20 x_21 x_22 x_23 x_24))->(¬x_18=true->Q false)/\(¬¬x_18=true->i6 (x+1)/\I_1 (x+1) x_19 x_20 x_21 x_22 x_23 (decide (x_24=true))/\m_1 (x+1) x_19 x_20 x_21 x_22 x_23 (decide (x_24=true))<m x x_1 x_2 x_3 x_4 x_5 x_6 x_7 x_8 x_9 x_10 x_11 x_12 x_13 x_14 x_15 x_16 x_17))/\True))/\(¬x<(↑l.length:Int)->Q true))/\(∀ (x:Int) (x_1:Dk) (x_2:List (List UInt8)) (x_3:List Int) (x_4:List (List UInt8)) (x_5:Int) (x_6:Bool),I_1 x x_1 x_2 x_3 x_4 x_5 x_6->(x<(↑l.length:Int)->(0:Int)<=x/\x<(↑l.length:Int)/\(i6 (ix l x).Kind->i6 (ix l x).N->i6 (ix l x).Cut->(∃ (i:Int),(0:Int)<=i/\i<=90/\Ds i x_1 (Rk.mk x_2 x_3 x_4 x_5 (decide (x_6=true))))/\SmA (b2s l x)/\(∀ (x_7:Bool) (x_8:Dk) (x_9 x_10:Int) (x_11:List UInt8) (x_12 x_13:List (List UInt8)) (x_14:Bool) (x_15:List (List UInt8)) (x_16:List Int) (x_17:List (List UInt8)) (x_18:Int) (x_19:Bool) (x_20 x_21:Int) (x_22:List UInt8) (x_23:List (List UInt8)) (x_24:Bool),(x_7=true/\∀ (i:Int),(0:Int)<=i->i<=90->Ds i x_1 (Rk.mk x_2 x_3 x_4 x_5 (decide (x_6=true)))->In2 (i+1) (Lg.mk x_9 x_10 x_11 x_12 x_13 x_14 x_8) (Lr.mk x_20 x_21 x_22 x_23 x_24 (Rk.mk x_15 x_16 x_17 x_18 x_19)))->(¬x_7=true->Q false)/\(¬¬x_7=true->(True/\x_12.length<=1000000)/\(True/\x_22.length<=2000000)/\(True->x_12.length<=1000000)/\(True/\¬¬v7 x_12 (o4 x_22)=true)/\((True/\¬(¬v7 x_12 (o4 x_22)=true ∨ (↑x_13.length:Int)≠(↑x_23.length:Int)))/\LgB (Lg.mk x_9 x_10 x_11 x_12 x_13 (decide (decide (decide (x_14=true)=true)=true)) x_8))/\((True/\¬(¬v7 x_12 (o4 x_22)=true ∨ (↑x_13.length:Int)≠(↑x_23.length:Int)))/\(Rk.mk x_15 x_16 x_17 x_18 (decide (decide (x_19=true)=true))).Ok/\x_22.length<=2000000/\SmL x_23/\List.length (l6 x_23).fst<=2000000)/\(True/\¬((¬v7 x_12 (o4 x_22)=true ∨ (↑x_13.length:Int)≠(↑x_23.length:Int)) ∨ c9 x_8 * 256-(↑x_11.length:Int)-z8 x_13≠D9 (Lr.mk x_20 x_21 x_22 x_23 (decide (decide (x_24=true)=true)) (Rk.mk x_15 x_16 x_17 x_18 (decide (decide (x_19=true)=true))))))/\(True/\(((¬v7 x_12 (o4 x_22)=true ∨ (↑x_13.length:Int)≠(↑x_23.length:Int)) ∨ c9 x_8 * 256-(↑x_11.length:Int)-z8 x_13≠D9 (Lr.mk x_20 x_21 x_22 x_23 (decide (decide (x_24=true)=true)) (Rk.mk x_15 x_16 x_17 x_18 (decide (decide (x_19=true)=true))))) ∨ x_9≠x_20)->Q false)/\(¬(True/\(((¬v7 x_12 (o4 x_22)=true ∨ (↑x_13.length:Int)≠(↑x_23.length:Int)) ∨ c9 x_8 * 256-(↑x_11.length:Int)-z8 x_13≠D9 (Lr.mk x_20 x_21 x_22 x_23 (decide (decide (x_24=true)=true)) (Rk.mk x_15 x_16 x_17 x_18 (decide (decide (x_19=true)=true))))) ∨ x_9≠x_20))->i6 (x+1)/\I (x+1) x_8 x_9 x_10 x_11 x_12 x_13 (decide (decide (decide (decide (decide (x_14=true)=true)=true)=true)=true)) x_15 x_16 x_17 x_18 (decide (decide (decide (x_19=true)=true)=true)) x_20 x_21 x_22 x_23 (decide (decide (decide (x_24=true)=true)=true))/\m (x+1) x_8 x_9 x_10 x_11 x_12 x_13 (decide (decide (decide (decide (decide (x_14=true)=true)=true)=true)=true)) x_15 x_16 x_17 x_18 (decide (decide (decide (x_19=true)=true)=true)) x_20 x_21 x_22 x_23 (decide (decide (decide (x_24=true)=true)=true))<m_1 x x_1 x_2 x_3 x_4 x_5 x_6)))/\(∀ (x_7:Bool) (x_8:Dk) (x_9:List (List UInt8)) (x_10:List Int) (x_11:List (List UInt8)) (x_12:Int) (x_13:Bool),(x_7=true/\∀ (i:Int),(0:Int)<=i->i<=90->Ds i x_1 (Rk.mk x_2 x_3 x_4 x_5 (decide (x_6=true)))->Ds (i+1) x_8 (Rk.mk x_9 x_10 x_11 x_12 x_13))->(¬x_7=true->Q false)/\(¬¬x_7=true->i6 (x+1)/\I_1 (x+1) x_8 x_9 x_10 x_11 x_12 (decide (x_13=true))/\m_1 (x+1) x_8 x_9 x_10 x_11 x_12 (decide (x_13=true))<m_1 x x_1 x_2 x_3 x_4 x_5 x_6))/\True))/\(¬x<(↑l.length:Int)->Q true))/\True))))/\(¬fm=true->(Dk.new n).Ok/\(Rk.mk (Rk.new n).a0C (Rk.new n).At (Rk.new n).a0D (Rk.new n).Left (decide ((Rk.new n).Off=true))).Ok/\Proofs.YtckpdliipjekgaaGreat.Rel (Dk.new n) (Rk.mk (Rk.new n).a0C (Rk.new n).At (Rk.new n).a0D (Rk.new n).Left (decide ((Rk.new n).Off=true)))/\(((r5 (Rk.mk (Rk.new n).a0C (Rk.new n).At (Rk.new n).a0D (Rk.new n).Left (decide ((Rk.new n).Off=true)))).fst=0->False)->(¬true=true->Q false)/\(¬¬true=true->∃ (I:Int->Dk->Int->Int->List UInt8->List (List UInt8)->List (List UInt8)->Bool->List (List UInt8)->List Int->List (List UInt8)->Int->Bool->Int->Int->List UInt8->List (List UInt8)->Bool->Prop),∃ (m:Int->Dk->Int->Int->List UInt8->List (List UInt8)->List (List UInt8)->Bool->List (List UInt8)->List Int->List (List UInt8)->Int->Bool->Int->Int->List UInt8->List (List UInt8)->Bool->Nat),∃ (I_1:Int->Dk->List (List UInt8)->List Int->List (List UInt8)->Int->Bool->Prop),∃ (m_1:Int->Dk->List (List UInt8)->List Int->List (List UInt8)->Int->Bool->Nat),I_1 (0:Int) (Dk.new n) (Rk.new n).a0C (Rk.new n).At (Rk.new n).a0D (Rk.new n).Left (decide (decide ((Rk.new n).Off=true)=true))/\(∀ (x:Int) (x_1:Dk) (x_2 x_3:Int) (x_4:List UInt8) (x_5 x_6:List (List UInt8)) (x_7:Bool) (x_8:List (List UInt8)) (x_9:List Int) (x_10:List (List UInt8)) (x_11:Int) (x_12:Bool) (x_13 x_14:Int) (x_15:List UInt8) (x_16:List (List UInt8)) (x_17:Bool),I x x_1 x_2 x_3 x_4 x_5 x_6 x_7 x_8 x_9 x_10 x_11 x_12 x_13 x_14 x_15 x_16 x_17->(x<(↑l.length:Int)->(0:Int)<=x/\x<(↑l.length:Int)/\(i6 (ix l x).Kind->i6 (ix l x).N->i6 (ix l x).Cut->(∃ (i:Int),(0:Int)<=i/\i<=90/\In2 i (Lg.mk x_2 x_3 x_4 x_5 x_6 (decide (x_7=true)) x_1) (Lr.mk x_13 x_14 x_15 x_16 (decide (x_17=true)) (Rk.mk x_8 x_9 x_10 x_11 (decide (x_12=true)))))/\SmA (b2s l x)/\(∀ (x_18:Bool) (x_19:Dk) (x_20 x_21:Int) (x_22:List UInt8) (x_23 x_24:List (List UInt8)) (x_25:Bool) (x_26:List (List UInt8)) (x_27:List Int) (x_28:List (List UInt8)) (x_29:Int) (x_30:Bool) (x_31 x_32:Int) (x_33:List UInt8) (x_34:List (List UInt8)) (x_35:Bool),(x_18=true/\∀ (i:Int),(0:Int)<=i->i<=90->In2 i (Lg.mk x_2 x_3 x_4 x_5 x_6 (decide (x_7=true)) x_1) (Lr.mk x_13 x_14 x_15 x_16 (decide (x_17=true)) (Rk.mk x_8 x_9 x_10 x_11 (decide (x_12=true))))->In2 (i+1) (Lg.mk x_20 x_21 x_22 x_23 x_24 x_25 x_19) (Lr.mk x_31 x_32 x_33 x_34 x_35 (Rk.mk x_26 x_27 x_28 x_29 x_30)))->(¬x_18=true->Q false)/\(¬¬x_18=true->(True/\x_23.length<=1000000)/\(True/\x_33.length<=2000000)/\(True->x_23.length<=1000000)/\(True/\¬¬v7 x_23 (o4 x_33)=true)/\((True/\¬(¬v7 x_23 (o4 x_33)=true ∨ (↑x_24.length:Int)≠(↑x_34.length:Int)))/\LgB (Lg.mk x_20 x_21 x_22 x_23 x_24 (decide (decide (decide (x_25=true)=true)=true)) x_19))/\((True/\¬(¬v7 x_23 (o4 x_33)=true ∨ (↑x_24.length:Int)≠(↑x_34.length:Int)))/\(Rk.mk x_26 x_27 x_28 x_29 (decide (decide (x_30=true)=true))).Ok/\x_33.length<=2000000/\SmL x_34/\List.length (l6 x_34).fst<=2000000)/\(True/\¬((¬v7 x_23 (o4 x_33)=true ∨ (↑x_24.length:Int)≠(↑x_34.length:Int)) ∨ c9 x_19 * 256-(↑x_22.length:Int)-z8 x_24≠D9 (Lr.mk x_31 x_32 x_33 x_34 (decide (decide (x_35=true)=true)) (Rk.mk x_26 x_27 x_28 x_29 (decide (decide (x_30=true)=true))))))/\(True/\(((¬v7 x_23 (o4 x_33)=true ∨ (↑x_24.length:Int)≠(↑x_34.length:Int)) ∨ c9 x_19 * 256-(↑x_22.length:Int)-z8 x_24≠D9 (Lr.mk x_31 x_32 x_33 x_34 (decide (decide (x_35=true)=true)) (Rk.mk x_26 x_27 x_28 x_29 (decide (decide (x_30=true)=true))))) ∨ x_20≠x_31)->Q false)/\(¬(True/\(((¬v7 x_23 (o4 x_33)=true ∨ (↑x_24.length:Int)≠(↑x_34.length:Int)) ∨ c9 x_19 * 256-(↑x_22.length:Int)-z8 x_24≠D9 (Lr.mk x_31 x_32 x_33 x_34 (decide (decide (x_35=true)=true)) (Rk.mk x_26 x_27 x_28 x_29 (decide (decide (x_30=true)=true))))) ∨ x_20≠x_31))->i6 (x+1)/\I (x+1) x_19 x_20 x_21 x_22 x_23 x_24 (decide (decide (decide (decide (decide (x_25=true)=true)=true)=true)=true)) x_26 x_27 x_28 x_29 (decide (decide (decide (x_30=true)=true)=true)) x_31 x_32 x_33 x_34 (decide (decide (decide (x_35=true)=true)=true))/\m (x+1) x_19 x_20 x_21 x_22 x_23 x_24 (decide (decide (decide (decide (decide (x_25=true)=true)=true)=true)=true)) x_26 x_27 x_28 x_29 (decide (decide (decide (x_30=true)=true)=true)) x_31 x_32 x_33 x_34 (decide (decide (decide (x_35=true)=true)=true))<m x x_1 x_2 x_3 x_4 x_5 x_6 x_7 x_8 x_9 x_10 x_11 x_12 x_13 x_14 x_15 x_16 x_17)))/\(∀ (x_18:Bool) (x_19:Dk) (x_20:List (List UInt8)) (x_21:List Int) (x_22:List (List UInt8)) (x_23:Int) (x_24:Bool),(x_18=true/\∀ (i:Int),(0:Int)<=i->i<=90->In2 i (Lg.mk x_2 x_3 x_4 x_5 x_6 (decide (x_7=true)) x_1) (Lr.mk x_13 x_14 x_15 x_16 (decide (x_17=true)) (Rk.mk x_8 x_9 x_10 x_11 (decide (x_12=true))))->Ds (i+1) x_19 (Rk.mk x_20 x_21 x_22 x_23 x_24))->(¬x_18=true->Q false)/\(¬¬x_18=true->i6 (x+1)/\I_1 (x+1) x_19 x_20 x_21 x_22 x_23 (decide (x_24=true))/\m_1 (x+1) x_19 x_20 x_21 x_22 x_23 (decide (x_24=true))<m x x_1 x_2 x_3 x_4 x_5 x_6 x_7 x_8 x_9 x_10 x_11 x_12 x_13 x_14 x_15 x_16 x_17))/\True))/\(¬x<(↑l.length:Int)->Q true))/\(∀ (x:Int) (x_1:Dk) (x_2:List (List UInt8)) (x_3:List Int) (x_4:List (List UInt8)) (x_5:Int) (x_6:Bool),I_1 x x_1 x_2 x_3 x_4 x_5 x_6->(x<(↑l.length:Int)->(0:Int)<=x/\x<(↑l.length:Int)/\(i6 (ix l x).Kind->i6 (ix l x).N->i6 (ix l x).Cut->(∃ (i:Int),(0:Int)<=i/\i<=90/\Ds i x_1 (Rk.mk x_2 x_3 x_4 x_5 (decide (x_6=true))))/\SmA (b2s l x)/\(∀ (x_7:Bool) (x_8:Dk) (x_9 x_10:Int) (x_11:List UInt8) (x_12 x_13:List (List UInt8)) (x_14:Bool) (x_15:List (List UInt8)) (x_16:List Int) (x_17:List (List UInt8)) (x_18:Int) (x_19:Bool) (x_20 x_21:Int) (x_22:List UInt8) (x_23:List (List UInt8)) (x_24:Bool),(x_7=true/\∀ (i:Int),(0:Int)<=i->i<=90->Ds i x_1 (Rk.mk x_2 x_3 x_4 x_5 (decide (x_6=true)))->In2 (i+1) (Lg.mk x_9 x_10 x_11 x_12 x_13 x_14 x_8) (Lr.mk x_20 x_21 x_22 x_23 x_24 (Rk.mk x_15 x_16 x_17 x_18 x_19)))->(¬x_7=true->Q false)/\(¬¬x_7=true->(True/\x_12.length<=1000000)/\(True/\x_22.length<=2000000)/\(True->x_12.length<=1000000)/\(True/\¬¬v7 x_12 (o4 x_22)=true)/\((True/\¬(¬v7 x_12 (o4 x_22)=true ∨ (↑x_13.length:Int)≠(↑x_23.length:Int)))/\LgB (Lg.mk x_9 x_10 x_11 x_12 x_13 (decide (decide (decide (x_14=true)=true)=true)) x_8))/\((True/\¬(¬v7 x_12 (o4 x_22)=true ∨ (↑x_13.length:Int)≠(↑x_23.length:Int)))/\(Rk.mk x_15 x_16 x_17 x_18 (decide (decide (x_19=true)=true))).Ok/\x_22.length<=2000000/\SmL x_23/\List.length (l6 x_23).fst<=2000000)/\(True/\¬((¬v7 x_12 (o4 x_22)=true ∨ (↑x_13.length:Int)≠(↑x_23.length:Int)) ∨ c9 x_8 * 256-(↑x_11.length:Int)-z8 x_13≠D9 (Lr.mk x_20 x_21 x_22 x_23 (decide (decide (x_24=true)=true)) (Rk.mk x_15 x_16 x_17 x_18 (decide (decide (x_19=true)=true))))))/\(True/\(((¬v7 x_12 (o4 x_22)=true ∨ (↑x_13.length:Int)≠(↑x_23.length:Int)) ∨ c9 x_8 * 256-(↑x_11.length:Int)-z8 x_13≠D9 (Lr.mk x_20 x_21 x_22 x_23 (decide (decide (x_24=true)=true)) (Rk.mk x_15 x_16 x_17 x_18 (decide (decide (x_19=true)=true))))) ∨ x_9≠x_20)->Q false)/\(¬(True/\(((¬v7 x_12 (o4 x_22)=true ∨ (↑x_13.length:Int)≠(↑x_23.length:Int)) ∨ c9 x_8 * 256-(↑x_11.length:Int)-z8 x_13≠D9 (Lr.mk x_20 x_21 x_22 x_23 (decide (decide (x_24=true)=true)) (Rk.mk x_15 x_16 x_17 x_18 (decide (decide (x_19=true)=true))))) ∨ x_9≠x_20))->i6 (x+1)/\I (x+1) x_8 x_9 x_10 x_11 x_12 x_13 (decide (decide (decide (decide (decide (x_14=true)=true)=true)=true)=true)) x_15 x_16 x_17 x_18 (decide (decide (decide (x_19=true)=true)=true)) x_20 x_21 x_22 x_23 (decide (decide (decide (x_24=true)=true)=true))/\m (x+1) x_8 x_9 x_10 x_11 x_12 x_13 (decide (decide (decide (decide (decide (x_14=true)=true)=true)=true)=true)) x_15 x_16 x_17 x_18 (decide (decide (decide (x_19=true)=true)=true)) x_20 x_21 x_22 x_23 (decide (decide (decide (x_24=true)=true)=true))<m_1 x x_1 x_2 x_3 x_4 x_5 x_6)))/\(∀ (x_7:Bool) (x_8:Dk) (x_9:List (List UInt8)) (x_10:List Int) (x_11:List (List UInt8)) (x_12:Int) (x_13:Bool),(x_7=true/\∀ (i:Int),(0:Int)<=i->i<=90->Ds i x_1 (Rk.mk x_2 x_3 x_4 x_5 (decide (x_6=true)))->Ds (i+1) x_8 (Rk.mk x_9 x_10 x_11 x_12 x_13))->(¬x_7=true->Q false)/\(¬¬x_7=true->i6 (x+1)/\I_1 (x+1) x_8 x_9 x_10 x_11 x_12 (decide (x_13=true))/\m_1 (x+1) x_8 x_9 x_10 x_11 x_12 (decide (x_13=true))<m_1 x x_1 x_2 x_3 x_4 x_5 x_6))/\True))/\(¬x<(↑l.length:Int)->Q true))/\True))/\((r5 (Rk.mk (Rk.new n).a0C (Rk.new n).At (Rk.new n).a0D (Rk.new n).Left (decide ((Rk.new n).Off=true)))).fst=0->(¬true=true->Q false)/\(¬¬true=true->∃ (I:Int->Dk->Int->Int->List UInt8->List (List UInt8)->List (List UInt8)->Bool->List (List UInt8)->List Int->List (List UInt8)->Int->Bool->Int->Int->List UInt8->List (List UInt8)->Bool->Prop),∃ (m:Int->Dk->Int->Int->List UInt8->List (List UInt8)->List (List UInt8)->Bool->List (List UInt8)->List Int->List (List UInt8)->Int->Bool->Int->Int->List UInt8->List (List UInt8)->Bool->Nat),∃ (I_1:Int->Dk->List (List UInt8)->List Int->List (List UInt8)->Int->Bool->Prop),∃ (m_1:Int->Dk->List (List UInt8)->List Int->List (List UInt8)->Int->Bool->Nat),I (0:Int) (Dk.new n) (s8 (Dk.new n)).snd.fst (s8 (Dk.new n)).snd.snd.fst (s8 (Dk.new n)).snd.snd.snd.fst (s8 (Dk.new n)).snd.snd.snd.snd [] (decide (false=true)) (Rk.new n).a0C (Rk.new n).At (Rk.new n).a0D (Rk.new n).Left (decide (decide ((Rk.new n).Off=true)=true)) (r5 (Rk.mk (Rk.new n).a0C (Rk.new n).At (Rk.new n).a0D (Rk.new n).Left (decide ((Rk.new n).Off=true)))).snd.fst (r5 (Rk.mk (Rk.new n).a0C (Rk.new n).At (Rk.new n).a0D (Rk.new n).Left (decide ((Rk.new n).Off=true)))).snd.snd.fst (r5 (Rk.mk (Rk.new n).a0C (Rk.new n).At (Rk.new n).a0D (Rk.new n).Left (decide ((Rk.new n).Off=true)))).snd.snd.snd [] (decide (false=true))/\(∀ (x:Int) (x_1:Dk) (x_2 x_3:Int) (x_4:List UInt8) (x_5 x_6:List (List UInt8)) (x_7:Bool) (x_8:List (List UInt8)) (x_9:List Int) (x_10:List (List UInt8)) (x_11:Int) (x_12:Bool) (x_13 x_14:Int) (x_15:List UInt8) (x_16:List (List UInt8)) (x_17:Bool),I x x_1 x_2 x_3 x_4 x_5 x_6 x_7 x_8 x_9 x_10 x_11 x_12 x_13 x_14 x_15 x_16 x_17->(x<(↑l.length:Int)->(0:Int)<=x/\x<(↑l.length:Int)/\(i6 (ix l x).Kind->i6 (ix l x).N->i6 (ix l x).Cut->(∃ (i:Int),(0:Int)<=i/\i<=90/\In2 i (Lg.mk x_2 x_3 x_4 x_5 x_6 (decide (x_7=true)) x_1) (Lr.mk x_13 x_14 x_15 x_16 (decide (x_17=true)) (Rk.mk x_8 x_9 x_10 x_11 (decide (x_12=true)))))/\SmA (b2s l x)/\(∀ (x_18:Bool) (x_19:Dk) (x_20 x_21:Int) (x_22:List UInt8) (x_23 x_24:List (List UInt8)) (x_25:Bool) (x_26:List (List UInt8)) (x_27:List Int) (x_28:List (List UInt8)) (x_29:Int) (x_30:Bool) (x_31 x_32:Int) (x_33:List UInt8) (x_34:List (List UInt8)) (x_35:Bool),(x_18=true/\∀ (i:Int),(0:Int)<=i->i<=90->In2 i (Lg.mk x_2 x_3 x_4 x_5 x_6 (decide (x_7=true)) x_1) (Lr.mk x_13 x_14 x_15 x_16 (decide (x_17=true)) (Rk.mk x_8 x_9 x_10 x_11 (decide (x_12=true))))->In2 (i+1) (Lg.mk x_20 x_21 x_22 x_23 x_24 x_25 x_19) (Lr.mk x_31 x_32 x_33 x_34 x_35 (Rk.mk x_26 x_27 x_28 x_29 x_30)))->(¬x_18=true->Q false)/\(¬¬x_18=true->(True/\x_23.length<=1000000)/\(True/\x_33.length<=2000000)/\(True->x_23.length<=1000000)/\(True/\¬¬v7 x_23 (o4 x_33)=true)/\((True/\¬(¬v7 x_23 (o4 x_33)=true ∨ (↑x_24.length:Int)≠(↑x_34.length:Int)))/\LgB (Lg.mk x_20 x_21 x_22 x_23 x_24 (decide (decide (decide (x_25=true)=true)=true)) x_19))/\((True/\¬(¬v7 x_23 (o4 x_33)=true ∨ (↑x_24.length:Int)≠(↑x_34.length:Int)))/\(Rk.mk x_26 x_27 x_28 x_29 (decide (decide (x_30=true)=true))).Ok/\x_33.length<=2000000/\SmL x_34/\List.length (l6 x_34).fst<=2000000)/\(True/\¬((¬v7 x_23 (o4 x_33)=true ∨ (↑x_24.length:Int)≠(↑x_34.length:Int)) ∨ c9 x_19 * 256-(↑x_22.length:Int)-z8 x_24≠D9 (Lr.mk x_31 x_32 x_33 x_34 (decide (decide (x_35=true)=true)) (Rk.mk x_26 x_27 x_28 x_29 (decide (decide (x_30=true)=true))))))/\(True/\(((¬v7 x_23 (o4 x_33)=true ∨ (↑x_24.length:Int)≠(↑x_34.length:Int)) ∨ c9 x_19 * 256-(↑x_22.length:Int)-z8 x_24≠D9 (Lr.mk x_31 x_32 x_33 x_34 (decide (decide (x_35=true)=true)) (Rk.mk x_26 x_27 x_28 x_29 (decide (decide (x_30=true)=true))))) ∨ x_20≠x_31)->Q false)/\(¬(True/\(((¬v7 x_23 (o4 x_33)=true ∨ (↑x_24.length:Int)≠(↑x_34.length:Int)) ∨ c9 x_19 * 256-(↑x_22.length:Int)-z8 x_24≠D9 (Lr.mk x_31 x_32 x_33 x_34 (decide (decide (x_35=true)=true)) (Rk.mk x_26 x_27 x_28 x_29 (decide (decide (x_30=true)=true))))) ∨ x_20≠x_31))->i6 (x+1)/\I (x+1) x_19 x_20 x_21 x_22 x_23 x_24 (decide (decide (decide (decide (decide (x_25=true)=true)=true)=true)=true)) x_26 x_27 x_28 x_29 (decide (decide (decide (x_30=true)=true)=true)) x_31 x_32 x_33 x_34 (decide (decide (decide (x_35=true)=true)=true))/\m (x+1) x_19 x_20 x_21 x_22 x_23 x_24 (decide (decide (decide (decide (decide (x_25=true)=true)=true)=true)=true)) x_26 x_27 x_28 x_29 (decide (decide (decide (x_30=true)=true)=true)) x_31 x_32 x_33 x_34 (decide (decide (decide (x_35=true)=true)=true))<m x x_1 x_2 x_3 x_4 x_5 x_6 x_7 x_8 x_9 x_10 x_11 x_12 x_13 x_14 x_15 x_16 x_17)))/\(∀ (x_18:Bool) (x_19:Dk) (x_20:List (List UInt8)) (x_21:List Int) (x_22:List (List UInt8)) (x_23:Int) (x_24:Bool),(x_18=true/\∀ (i:Int),(0:Int)<=i->i<=90->In2 i (Lg.mk x_2 x_3 x_4 x_5 x_6 (decide (x_7=true)) x_1) (Lr.mk x_13 x_14 x_15 x_16 (decide (x_17=true)) (Rk.mk x_8 x_9 x_10 x_11 (decide (x_12=true))))->Ds (i+1) x_19 (Rk.mk x_20 x_21 x_22 x_23 x_24))->(¬x_18=true->Q false)/\(¬¬x_18=true->i6 (x+1)/\I_1 (x+1) x_19 x_20 x_21 x_22 x_23 (decide (x_24=true))/\m_1 (x+1) x_19 x_20 x_21 x_22 x_23 (decide (x_24=true))<m x x_1 x_2 x_3 x_4 x_5 x_6 x_7 x_8 x_9 x_10 x_11 x_12 x_13 x_14 x_15 x_16 x_17))/\True))/\(¬x<(↑l.length:Int)->Q true))/\(∀ (x:Int) (x_1:Dk) (x_2:List (List UInt8)) (x_3:List Int) (x_4:List (List UInt8)) (x_5:Int) (x_6:Bool),I_1 x x_1 x_2 x_3 x_4 x_5 x_6->(x<(↑l.length:Int)->(0:Int)<=x/\x<(↑l.length:Int)/\(i6 (ix l x).Kind->i6 (ix l x).N->i6 (ix l x).Cut->(∃ (i:Int),(0:Int)<=i/\i<=90/\Ds i x_1 (Rk.mk x_2 x_3 x_4 x_5 (decide (x_6=true))))/\SmA (b2s l x)/\(∀ (x_7:Bool) (x_8:Dk) (x_9 x_10:Int) (x_11:List UInt8) (x_12 x_13:List (List UInt8)) (x_14:Bool) (x_15:List (List UInt8)) (x_16:List Int) (x_17:List (List UInt8)) (x_18:Int) (x_19:Bool) (x_20 x_21:Int) (x_22:List UInt8) (x_23:List (List UInt8)) (x_24:Bool),(x_7=true/\∀ (i:Int),(0:Int)<=i->i<=90->Ds i x_1 (Rk.mk x_2 x_3 x_4 x_5 (decide (x_6=true)))->In2 (i+1) (Lg.mk x_9 x_10 x_11 x_12 x_13 x_14 x_8) (Lr.mk x_20 x_21 x_22 x_23 x_24 (Rk.mk x_15 x_16 x_17 x_18 x_19)))->(¬x_7=true->Q false)/\(¬¬x_7=true->(True/\x_12.length<=1000000)/\(True/\x_22.length<=2000000)/\(True->x_12.length<=1000000)/\(True/\¬¬v7 x_12 (o4 x_22)=true)/\((True/\¬(¬v7 x_12 (o4 x_22)=true ∨ (↑x_13.length:Int)≠(↑x_23.length:Int)))/\LgB (Lg.mk x_9 x_10 x_11 x_12 x_13 (decide (decide (decide (x_14=true)=true)=true)) x_8))/\((True/\¬(¬v7 x_12 (o4 x_22)=true ∨ (↑x_13.length:Int)≠(↑x_23.length:Int)))/\(Rk.mk x_15 x_16 x_17 x_18 (decide (decide (x_19=true)=true))).Ok/\x_22.length<=2000000/\SmL x_23/\List.length (l6 x_23).fst<=2000000)/\(True/\¬((¬v7 x_12 (o4 x_22)=true ∨ (↑x_13.length:Int)≠(↑x_23.length:Int)) ∨ c9 x_8 * 256-(↑x_11.length:Int)-z8 x_13≠D9 (Lr.mk x_20 x_21 x_22 x_23 (decide (decide (x_24=true)=true)) (Rk.mk x_15 x_16 x_17 x_18 (decide (decide (x_19=true)=true))))))/\(True/\(((¬v7 x_12 (o4 x_22)=true ∨ (↑x_13.length:Int)≠(↑x_23.length:Int)) ∨ c9 x_8 * 256-(↑x_11.length:Int)-z8 x_13≠D9 (Lr.mk x_20 x_21 x_22 x_23 (decide (decide (x_24=true)=true)) (Rk.mk x_15 x_16 x_17 x_18 (decide (decide (x_19=true)=true))))) ∨ x_9≠x_20)->Q false)/\(¬(True/\(((¬v7 x_12 (o4 x_22)=true ∨ (↑x_13.length:Int)≠(↑x_23.length:Int)) ∨ c9 x_8 * 256-(↑x_11.length:Int)-z8 x_13≠D9 (Lr.mk x_20 x_21 x_22 x_23 (decide (decide (x_24=true)=true)) (Rk.mk x_15 x_16 x_17 x_18 (decide (decide (x_19=true)=true))))) ∨ x_9≠x_20))->i6 (x+1)/\I (x+1) x_8 x_9 x_10 x_11 x_12 x_13 (decide (decide (decide (decide (decide (x_14=true)=true)=true)=true)=true)) x_15 x_16 x_17 x_18 (decide (decide (decide (x_19=true)=true)=true)) x_20 x_21 x_22 x_23 (decide (decide (decide (x_24=true)=true)=true))/\m (x+1) x_8 x_9 x_10 x_11 x_12 x_13 (decide (decide (decide (decide (decide (x_14=true)=true)=true)=true)=true)) x_15 x_16 x_17 x_18 (decide (decide (decide (x_19=true)=true)=true)) x_20 x_21 x_22 x_23 (decide (decide (decide (x_24=true)=true)=true))<m_1 x x_1 x_2 x_3 x_4 x_5 x_6)))/\(∀ (x_7:Bool) (x_8:Dk) (x_9:List (List UInt8)) (x_10:List Int) (x_11:List (List UInt8)) (x_12:Int) (x_13:Bool),(x_7=true/\∀ (i:Int),(0:Int)<=i->i<=90->Ds i x_1 (Rk.mk x_2 x_3 x_4 x_5 (decide (x_6=true)))->Ds (i+1) x_8 (Rk.mk x_9 x_10 x_11 x_12 x_13))->(¬x_7=true->Q false)/\(¬¬x_7=true->i6 (x+1)/\I_1 (x+1) x_8 x_9 x_10 x_11 x_12 (decide (x_13=true))/\m_1 (x+1) x_8 x_9 x_10 x_11 x_12 (decide (x_13=true))<m_1 x x_1 x_2 x_3 x_4 x_5 x_6))/\True))/\(¬x<(↑l.length:Int)->Q true))/\True))))))/\(¬((1:Int)<=n/\n<=8192)->(n<1 ∨ (8192:Int)<n->Q true)/\((n<1 ∨ (8192:Int)<n->False)->Q false))
set_option maxHeartbeats 4000000 in
theorem plP (n:Int) (fm:Bool) (l:List Act) (hq:∀ i:Int,0<=i->i<l.length->(ix l i).Kept.length<=9223372036854775807):VlP n fm l (fun y0=>y0=true):=by
 unfold VlP b2s
 simp only [b4J]
 refine ⟨fun hn=>⟨fun h=>absurd h (by omega),fun _=>⟨fun _=>trivial,fun hf=>?_⟩⟩,fun hn=>⟨fun _=>trivial,fun h=>absurd (by omega) h⟩⟩
 obtain ⟨hl,hat⟩:=d7y (b4N.1 hf) hq
 have okx:(Dk.new n).Ok:=b9f hn.1 hn.2
 have oky:(Rk.new n).Ok:=d2r hn.1 hn.2
 obtain ⟨c,D1⟩:=d4g okx oky b33 (by show 0<=100; decide)
 have D0:Ds 0 (Dk.new n) (Rk.new n):=⟨b33,okx,oky,by show (0:Int)<=_; decide⟩
 refine ⟨fun _=>⟨okx,oky,by show 0+20000<=1000000; decide,fun h=>absurd c.nr h,fun _=>⟨D1.okx,D1.oky,D1.d,fun h=>⟨fun h=>absurd trivial h,fun _=>⟨fun k x tn hf bt rs wt dd la ta fr lf po t2 h2 b2 w2 p2=>0<=k/\k<=l.length/\In2 k ⟨tn,hf,bt,rs,wt,dd,x⟩ ⟨t2,h2,b2,w2,p2,⟨la,ta,fr,lf,po⟩⟩,fun k _ _ _ _ _ _ _ _ _ _ _ _ _ _ _ _ _=>((l.length:Int)-k).toNat,fun k x la ta fr lf po=>0<=k/\k<=l.length/\Ds k x ⟨la,ta,fr,lf,po⟩,fun k _ _ _ _ _ _=>((l.length:Int)-k).toNat,⟨b5G 0,by omega,D1⟩,?_,?_,trivial⟩⟩,fun h=>⟨fun h=>absurd trivial h,fun _=>⟨fun k x tn hf bt rs wt dd la ta fr lf po t2 h2 b2 w2 p2=>0<=k/\k<=l.length/\In2 k ⟨tn,hf,bt,rs,wt,dd,x⟩ ⟨t2,h2,b2,w2,p2,⟨la,ta,fr,lf,po⟩⟩,fun k _ _ _ _ _ _ _ _ _ _ _ _ _ _ _ _ _=>((l.length:Int)-k).toNat,fun k x la ta fr lf po=>0<=k/\k<=l.length/\Ds k x ⟨la,ta,fr,lf,po⟩,fun k _ _ _ _ _ _=>((l.length:Int)-k).toNat,⟨b5G 0,by omega,D1.opened (by decide) h⟩,?_,?_,trivial⟩⟩⟩⟩,
  fun _=>⟨okx,oky,b33,fun h=>⟨fun h=>absurd trivial h,fun _=>⟨fun k x tn hf bt rs wt dd la ta fr lf po t2 h2 b2 w2 p2=>0<=k/\k<=l.length/\In2 k ⟨tn,hf,bt,rs,wt,dd,x⟩ ⟨t2,h2,b2,w2,p2,⟨la,ta,fr,lf,po⟩⟩,fun k _ _ _ _ _ _ _ _ _ _ _ _ _ _ _ _ _=>((l.length:Int)-k).toNat,fun k x la ta fr lf po=>0<=k/\k<=l.length/\Ds k x ⟨la,ta,fr,lf,po⟩,fun k _ _ _ _ _ _=>((l.length:Int)-k).toNat,⟨b5G 0,by omega,D0⟩,?_,?_,trivial⟩⟩,fun h=>⟨fun h=>absurd trivial h,fun _=>⟨fun k x tn hf bt rs wt dd la ta fr lf po t2 h2 b2 w2 p2=>0<=k/\k<=l.length/\In2 k ⟨tn,hf,bt,rs,wt,dd,x⟩ ⟨t2,h2,b2,w2,p2,⟨la,ta,fr,lf,po⟩⟩,fun k _ _ _ _ _ _ _ _ _ _ _ _ _ _ _ _ _=>((l.length:Int)-k).toNat,fun k x la ta fr lf po=>0<=k/\k<=l.length/\Ds k x ⟨la,ta,fr,lf,po⟩,fun k _ _ _ _ _ _=>((l.length:Int)-k).toNat,⟨b5G 0,by omega,D0.opened (by decide) h⟩,?_,?_,trivial⟩⟩⟩⟩
 iterate 4
  . rintro k x tn hf bt rs wt dd la ta fr lf po t2 h2 b2 w2 p2 ⟨k0,k1,J⟩
    refine ⟨fun hk=>⟨k0,hk,fun _ aN aC=>⟨⟨k,k0,by omega,J⟩,hat k k0 hk aN aC,?_,?_,trivial⟩⟩,fun _=>trivial⟩
    . rintro an x' tn' hf' bt' rs' wt' dd' la' ta' fr' lf' po' t2' h2' b2' w2' p2' ⟨ea,F⟩
      have J2:=F k k0 (by omega) J
      obtain rfl:tn'=t2':=J2.turn
      obtain rfl:bt'=b2':=J2.bytes
      obtain rfl:wt'=w2':=J2.wait
      obtain rfl:rs'=o4 bt':=J2.a0Y
      have hn:7 * (o4 bt').length+7 * wt'.length<=1048320:=J2.b0A
      have hb:bt'.length+(i7 wt').length<=1048320:=J2.lens
      have hw:l6 wt'=(i7 wt',.nil):=J2.pw
      have sm:v7 (o4 bt') (o4 bt')=true:=b4R rfl
      have er:c9 x' * 256-(bt'.length:Int)-z8 wt'=D9 ⟨tn',h2',bt',wt',p2',⟨la',ta',fr',lf',po'⟩⟩:=by
       unfold D9; rw [a0d J2.d,X2 J2.sh,J2.pw]
      refine ⟨fun h=>absurd ea h,fun _=>⟨⟨trivial,by omega⟩,⟨trivial,by omega⟩,fun _=>by omega,⟨trivial,fun h=>h sm⟩,⟨⟨trivial,fun h=>h.elim (fun h=>h sm) fun h=>h rfl⟩,J2.lgB (by omega)⟩,⟨⟨trivial,fun h=>h.elim (fun h=>h sm) fun h=>h rfl⟩,J2.oky,by omega,J2.smW,by rw [hw]; dsimp only; omega⟩,⟨trivial,fun h=>h.elim (fun h=>h.elim (fun h=>h sm) fun h=>h rfl) fun h=>h er⟩,fun h=>?_,fun _=>⟨⟨by omega,by omega⟩,⟨by omega,by omega,J2⟩,by dsimp only; omega⟩⟩⟩
      exact absurd h.2 fun h=>h.elim (fun h=>h.elim (fun h=>h.elim (fun h=>h sm) fun h=>h rfl) fun h=>h er) fun h=>h rfl
    . rintro an x' la' ta' fr' lf' po' ⟨ea,F⟩
      exact ⟨fun h=>absurd ea h,fun _=>⟨⟨by omega,by omega⟩,⟨by omega,by omega,F k k0 (by omega) J⟩,by dsimp only; omega⟩⟩
  . rintro k x la ta fr lf po ⟨k0,k1,J⟩
    refine ⟨fun hk=>⟨k0,hk,fun _ aN aC=>⟨⟨k,k0,by omega,J⟩,hat k k0 hk aN aC,?_,?_,trivial⟩⟩,fun _=>trivial⟩
    . rintro an x' tn' hf' bt' rs' wt' dd' la' ta' fr' lf' po' t2' h2' b2' w2' p2' ⟨ea,F⟩
      have J2:=F k k0 (by omega) J
      obtain rfl:tn'=t2':=J2.turn
      obtain rfl:bt'=b2':=J2.bytes
      obtain rfl:wt'=w2':=J2.wait
      obtain rfl:rs'=o4 bt':=J2.a0Y
      have hn:7 * (o4 bt').length+7 * wt'.length<=1048320:=J2.b0A
      have hb:bt'.length+(i7 wt').length<=1048320:=J2.lens
      have hw:l6 wt'=(i7 wt',.nil):=J2.pw
      have sm:v7 (o4 bt') (o4 bt')=true:=b4R rfl
      have er:c9 x' * 256-(bt'.length:Int)-z8 wt'=D9 ⟨tn',h2',bt',wt',p2',⟨la',ta',fr',lf',po'⟩⟩:=by
       unfold D9; rw [a0d J2.d,X2 J2.sh,J2.pw]
      refine ⟨fun h=>absurd ea h,fun _=>⟨⟨trivial,by omega⟩,⟨trivial,by omega⟩,fun _=>by omega,⟨trivial,fun h=>h sm⟩,⟨⟨trivial,fun h=>h.elim (fun h=>h sm) fun h=>h rfl⟩,J2.lgB (by omega)⟩,⟨⟨trivial,fun h=>h.elim (fun h=>h sm) fun h=>h rfl⟩,J2.oky,by omega,J2.smW,by rw [hw]; dsimp only; omega⟩,⟨trivial,fun h=>h.elim (fun h=>h.elim (fun h=>h sm) fun h=>h rfl) fun h=>h er⟩,fun h=>?_,fun _=>⟨⟨by omega,by omega⟩,⟨by omega,by omega,J2⟩,by dsimp only; omega⟩⟩⟩
      exact absurd h.2 fun h=>h.elim (fun h=>h.elim (fun h=>h.elim (fun h=>h sm) fun h=>h rfl) fun h=>h er) fun h=>h rfl
    . rintro an x' la' ta' fr' lf' po' ⟨ea,F⟩
      exact ⟨fun h=>absurd ea h,fun _=>⟨⟨by omega,by omega⟩,⟨by omega,by omega,F k k0 (by omega) J⟩,by dsimp only; omega⟩⟩
theorem e7e (n:Int) (fm:Bool) (l:List Act) (hq:∀ i:Int,0<=i->i<l.length->(ix l i).Kept.length<=9223372036854775807):a0j Nbn 3 [.int .i64 n,blB fm,.sl (N:=U) 44 l] ⟨[],[],blB true,[]⟩ :=
 a05 (an:=e4n 3) c5b (l5 c5b e15 e4n 3) Tryz.func3 (k:=.bool) (x:=true) (ob:=[]) trivial (kc (plP n fm l hq) (by kernel_rfl)) 0
end Go.Proofs.YtckpdliipjekgaaGreat
end
section
namespace Go.Proofs.YtckpdliipjekgaaGreat
open Go Go.Wk Go.Wl Go.Rx Go.RowKit Go.ChangeShapes Go.WideShapes Go.Wa
theorem e2m:laidOutB Tryz.prog=true:=by kernel_rfl
theorem e7s:ownKnob Tryz.prog.godebug=none:=by kernel_rfl
theorem e5l {P:Program} {ts:List TypeId} (h:(ts.all fun t=>P.readableRec t && decide (t<P.types.size))=true):∀ t∈ts,P.readableRec t=true/\t<P.types.size:=fun t ht=>by
 have:=b5A.1 h t ht
 rw [b3R,b6L] at this
 exact this
theorem b9n:a3k Tryz.prog 44 b9t:=fun {H enc fuel w sp cs x} h=>by
 obtain ⟨xs,n,_,_,hlen,hxl,hget⟩:=DataW.trod_struct Tryz.underlying44 h
 have hz:Tryz.prog.cellsOf 44=6:=by kernel_rfl
 rw [hz] at hlen
 have z3:Tryz.prog.cellsOf 3=1:=by kernel_rfl
 have z9:Tryz.prog.cellsOf 9=1:=by kernel_rfl
 have z41:Tryz.prog.cellsOf 41=1:=by kernel_rfl
 have z42:Tryz.prog.cellsOf 42=1:=by kernel_rfl
 have g0:DataW.trod enc Tryz.prog w 0 sp true n 3 ((cs.drop 0).take (Tryz.prog.cellsOf 3))=xs[0]? := hget 0 _ rfl
 rw [b3T (by rw [hxl]; decide),z3] at g0
 obtain ⟨y0,k0⟩:=(V8 Tryz.underlying3) g0
 have g1:DataW.trod enc Tryz.prog w 0 sp true n 9 ((cs.drop 1).take (Tryz.prog.cellsOf 9))=xs[1]? := hget 1 _ rfl
 rw [b3T (by rw [hxl]; decide),z9] at g1
 obtain ⟨y1,k1⟩:=(a8q Tryz.underlying9) g1
 have g2:DataW.trod enc Tryz.prog w 0 sp true n 41 ((cs.drop 2).take (Tryz.prog.cellsOf 41))=xs[2]? := hget 2 _ rfl
 rw [b3T (by rw [hxl]; decide),z41] at g2
 obtain ⟨y2,k2⟩:=(a16 Tryz.underlying41 (by kernel_rfl) (by decide) (a8q Tryz.underlying9)) g2
 have g3:DataW.trod enc Tryz.prog w 0 sp true n 3 ((cs.drop 3).take (Tryz.prog.cellsOf 3))=xs[3]? := hget 3 _ rfl
 rw [b3T (by rw [hxl]; decide),z3] at g3
 obtain ⟨y3,k3⟩:=(V8 Tryz.underlying3) g3
 have g4:DataW.trod enc Tryz.prog w 0 sp true n 3 ((cs.drop 4).take (Tryz.prog.cellsOf 3))=xs[4]? := hget 4 _ rfl
 rw [b3T (by rw [hxl]; decide),z3] at g4
 obtain ⟨y4,k4⟩:=(V8 Tryz.underlying3) g4
 have g5:DataW.trod enc Tryz.prog w 0 sp true n 42 ((cs.drop 5).take (Tryz.prog.cellsOf 42))=xs[5]? := hget 5 _ rfl
 rw [b3T (by rw [hxl]; decide),z42] at g5
 obtain ⟨y5,k5⟩:=(a16 Tryz.underlying42 (by kernel_rfl) (by decide) (V8 Tryz.underlying3)) g5
 have q:cs=(cs.drop 0).take (1+(1+(1+(1+(1+(1)))))):=d8o hlen
 exact ⟨⟨y0,y1,y2,y3,y4,y5⟩,_,_,_,_,_,_,q.trans (a5k.trans (congrArg _ (a5k.trans (congrArg _ (a5k.trans (congrArg _ (a5k.trans (congrArg _ a5k)))))))),k0,k1,k2,k3,k4,k5⟩
theorem e5g {W:World} {v:Value} {y:List Act} (h:(q9 b9t).rd (fun _=>True) W [v] y):Rep U eT (fun _=>none) (fun b=>b<W.heap.size) W v (.sl (N:=U) 44 y):=.sl (Rd.a2T _ h fun _ _ hb=>hb)
theorem c2s {Z:Nat->Prop} {W:World} {v:Value} (h:Rep U eT (fun _=>none) Z W v (blB true)):v=.bool true:=by
 cases h with | bl=>rfl
end Go.Proofs.YtckpdliipjekgaaGreat
end
