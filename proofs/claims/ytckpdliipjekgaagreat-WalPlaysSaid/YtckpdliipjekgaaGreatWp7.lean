/- 58 texts, one behind the other. -/
import Derived.Test.YtckpdliipjekgaaGreatWp6
import Derived.Shelf.Spec.SlicesGrow
import Derived.Ground.Names8Prog
import Derived.Test.YtckpdliipjekgaaGreatProg
import Derived.Test.YtckpdliipjekgaaGreatWp4
set_option linter.defProp false
set_option linter.unusedVariables false
set_option linter.unusedSimpArgs false
set_option maxRecDepth 100000
noncomputable section
def b4J:=@Bool.decide_eq_true
def b5I:=@Int.tmod_eq_emod_of_nonneg
def b7V:=@Option.not_isSome_iff_eq_none
def b8B:=@Int.zero_mul
def b8F:=@Bool.or_false
def b8G:=@Int.one_mul
def b9F:=@List.take_append_of_le_length
def b9L:=@List.take_replicate
def c0H:=@List.flatten_nil
section
namespace Go.Proofs.YtckpdliipjekgaaGreat
open Go Go.Wk Go.Wl Go.Rx Go.Wa 
attribute [local irreducible] o9
def a88:Nat->Ann:=fun | 31=>⟨113,fun | 19=>some ⟨[0,5,6],[.slot 12 (.acc 5),.slot 13 (.int .i64),.ob 0 0]⟩ | 7=>some ⟨[0,5],[.slot 6 (.int .i64),.slot 26 (.int .i64),.tree [] [.own (some 5) 82 [.to 1,.v (.int .i64),.v (.int .i64),.v .str,.v (.acc 9),.v (.acc 9),.v .bool],.ob (some 0) 0]]⟩ | _=>none,nn⟩ | _=>⟨0,nn,nn⟩
def x6  := none.getD (0:Int)
def Y8  := Err.no (10:Int)
def c0s (x:Dk) (Q0:Unit->Err->Dk->Prop) (Q1:Int->Int->Str->List Str->List Str->Bool->Dk->Err->Prop):Prop :=
x.Ok/\((↑x.a0B.length:Int)=0->(Err.no (1:Int)≠Err.nil->Q0 () (Err.no (1:Int)) x)/\(¬Err.no (1:Int)≠Err.nil->∃ (I:Int->Int->Int->Int->List UInt8->List (List UInt8)->List (List UInt8)->Bool->Dk->Prop),∃ (m:Int->Int->Int->Int->List UInt8->List (List UInt8)->List (List UInt8)->Bool->Dk->Nat),I (0:Int) (0:Int) (0:Int) (0:Int) [] [] [] false x/\∀ (x x_1 x_2 x_3:Int) (x_4:List UInt8) (x_5 x_6:List (List UInt8)) (x_7:Bool) (x_8:Dk),I x x_1 x_2 x_3 x_4 x_5 x_6 x_7 x_8->(x_1<2->x_8.Ok/\((hdA x_8 x_1).snd.snd.snd≠Err.nil->Q0 () (hdA x_8 x_1).snd.snd.snd x_8)/\(¬(hdA x_8 x_1).snd.snd.snd≠Err.nil->(x_2<(hdA x_8 x_1).fst->i6 (x_1+1)/\I (hdA x_8 x_1).snd.snd.fst (x_1+1) (hdA x_8 x_1).fst (hdA x_8 x_1).snd.fst x_4 x_5 x_6 (decide (x_7=true)) x_8/\m (hdA x_8 x_1).snd.snd.fst (x_1+1) (hdA x_8 x_1).fst (hdA x_8 x_1).snd.fst x_4 x_5 x_6 (decide (x_7=true)) x_8<m x x_1 x_2 x_3 x_4 x_5 x_6 x_7 x_8)/\(¬x_2<(hdA x_8 x_1).fst->i6 (x_1+1)/\I x (x_1+1) x_2 x_3 x_4 x_5 x_6 (decide (x_7=true)) x_8/\m x (x_1+1) x_2 x_3 x_4 x_5 x_6 (decide (x_7=true)) x_8<m x x_1 x_2 x_3 x_4 x_5 x_6 x_7 x_8)))/\(¬x_1<2->(x_2=0->Q0 () Y8 x_8)/\(¬x_2=0->x_8.Ok/\i6 (c9 x_8 * 256)/\(c9 x_8 * 256<x->Q0 () Y8 x_8)/\(¬c9 x_8 * 256<x->x_8.Ok/\i6 (x_3 * c9 x_8)/\i6 ((2:Int)+x_3 * c9 x_8)/\∃ (I:List UInt8->Int->Dk->Prop),∃ (m:List UInt8->Int->Dk->Nat),I [] ((2:Int)+x_3 * c9 x_8) x_8/\∀ (x_9:List UInt8) (x_10:Int) (x_11:Dk),I x_9 x_10 x_11->((↑x_9.length:Int)<x->x_11.Ok/\(erN (x_11.read x_10).snd≠Err.nil->(erN (x_11.read x_10).snd≠Err.nil->erN (x_11.read x_10).snd=Err.no (erN (x_11.read x_10).snd).n0)/\Q0 () (inE ([114,101,97,100]:List UInt8) (erN (x_11.read x_10).snd)) x_11)/\(¬erN (x_11.read x_10).snd≠Err.nil->(x_9.length+List.length (x_11.read x_10).fst) * (some (1:Nat)).getD (0:Nat)<=140737488355328/\i6 (x_10+1)/\I (x_9++(x_11.read x_10).fst) (x_10+1) x_11/\m (x_9++(x_11.read x_10).fst) (x_10+1) x_11<m x_9 x_10 x_11))/\(¬(↑x_9.length:Int)<x->(0:Int)<=x/\x<=(↑x_9.length:Int)/\(List.drop x6.toNat (List.take (x6.toNat+((some x).getD (↑x_9.length:Int)-none.getD (0:Int)).toNat) x_9)).length<=100000000/\((↑(List.drop x6.toNat (List.take (x6.toNat+((some x).getD (↑x_9.length:Int)-none.getD (0:Int)).toNat) x_9)).length:Int)-(↑(List.length (D8 (List.drop x6.toNat (List.take (x6.toNat+((some x).getD (↑x_9.length:Int)-none.getD (0:Int)).toNat) x_9)))):Int)≠x->Q0 () Y8 x_11)/\(¬(↑(List.drop x6.toNat (List.take (x6.toNat+((some x).getD (↑x_9.length:Int)-none.getD (0:Int)).toNat) x_9)).length:Int)-(↑(List.length (D8 (List.drop x6.toNat (List.take (x6.toNat+((some x).getD (↑x_9.length:Int)-none.getD (0:Int)).toNat) x_9)))):Int)≠x->Q1 x_2 x_3 (List.drop x6.toNat (List.take (x6.toNat+((some x).getD (↑x_9.length:Int)-none.getD (0:Int)).toNat) x_9)) (o4 (List.drop x6.toNat (List.take (x6.toNat+((some x).getD (↑x_9.length:Int)-none.getD (0:Int)).toNat) x_9))) x_6 (decide (x_7=true)) x_11 Err.nil)))))))/\(¬(↑x.a0B.length:Int)=0->x.Ok/\((↑x.a0B.length:Int)<6->(Err.no (2:Int)≠Err.nil->Q0 () (Err.no (2:Int)) x)/\(¬Err.no (2:Int)≠Err.nil->∃ (I:Int->Int->Int->Int->List UInt8->List (List UInt8)->List (List UInt8)->Bool->Dk->Prop),∃ (m:Int->Int->Int->Int->List UInt8->List (List UInt8)->List (List UInt8)->Bool->Dk->Nat),I (0:Int) (0:Int) (0:Int) (0:Int) [] [] [] false x/\∀ (x x_1 x_2 x_3:Int) (x_4:List UInt8) (x_5 x_6:List (List UInt8)) (x_7:Bool) (x_8:Dk),I x x_1 x_2 x_3 x_4 x_5 x_6 x_7 x_8->(x_1<2->x_8.Ok/\((hdA x_8 x_1).snd.snd.snd≠Err.nil->Q0 () (hdA x_8 x_1).snd.snd.snd x_8)/\(¬(hdA x_8 x_1).snd.snd.snd≠Err.nil->(x_2<(hdA x_8 x_1).fst->i6 (x_1+1)/\I (hdA x_8 x_1).snd.snd.fst (x_1+1) (hdA x_8 x_1).fst (hdA x_8 x_1).snd.fst x_4 x_5 x_6 (decide (x_7=true)) x_8/\m (hdA x_8 x_1).snd.snd.fst (x_1+1) (hdA x_8 x_1).fst (hdA x_8 x_1).snd.fst x_4 x_5 x_6 (decide (x_7=true)) x_8<m x x_1 x_2 x_3 x_4 x_5 x_6 x_7 x_8)/\(¬x_2<(hdA x_8 x_1).fst->i6 (x_1+1)/\I x (x_1+1) x_2 x_3 x_4 x_5 x_6 (decide (x_7=true)) x_8/\m x (x_1+1) x_2 x_3 x_4 x_5 x_6 (decide (x_7=true)) x_8<m x x_1 x_2 x_3 x_4 x_5 x_6 x_7 x_8)))/\(¬x_1<2->(x_2=0->Q0 () Y8 x_8)/\(¬x_2=0->x_8.Ok/\i6 (c9 x_8 * 256)/\(c9 x_8 * 256<x->Q0 () Y8 x_8)/\(¬c9 x_8 * 256<x->x_8.Ok/\i6 (x_3 * c9 x_8)/\i6 ((2:Int)+x_3 * c9 x_8)/\∃ (I:List UInt8->Int->Dk->Prop),∃ (m:List UInt8->Int->Dk->Nat),I [] ((2:Int)+x_3 * c9 x_8) x_8/\∀ (x_9:List UInt8) (x_10:Int) (x_11:Dk),I x_9 x_10 x_11->((↑x_9.length:Int)<x->x_11.Ok/\(erN (x_11.read x_10).snd≠Err.nil->(erN (x_11.read x_10).snd≠Err.nil->erN (x_11.read x_10).snd=Err.no (erN (x_11.read x_10).snd).n0)/\Q0 () (inE ([114,101,97,100]:List UInt8) (erN (x_11.read x_10).snd)) x_11)/\(¬erN (x_11.read x_10).snd≠Err.nil->(x_9.length+List.length (x_11.read x_10).fst) * (some (1:Nat)).getD (0:Nat)<=140737488355328/\i6 (x_10+1)/\I (x_9++(x_11.read x_10).fst) (x_10+1) x_11/\m (x_9++(x_11.read x_10).fst) (x_10+1) x_11<m x_9 x_10 x_11))/\(¬(↑x_9.length:Int)<x->(0:Int)<=x/\x<=(↑x_9.length:Int)/\(List.drop x6.toNat (List.take (x6.toNat+((some x).getD (↑x_9.length:Int)-none.getD (0:Int)).toNat) x_9)).length<=100000000/\((↑(List.drop x6.toNat (List.take (x6.toNat+((some x).getD (↑x_9.length:Int)-none.getD (0:Int)).toNat) x_9)).length:Int)-(↑(List.length (D8 (List.drop x6.toNat (List.take (x6.toNat+((some x).getD (↑x_9.length:Int)-none.getD (0:Int)).toNat) x_9)))):Int)≠x->Q0 () Y8 x_11)/\(¬(↑(List.drop x6.toNat (List.take (x6.toNat+((some x).getD (↑x_9.length:Int)-none.getD (0:Int)).toNat) x_9)).length:Int)-(↑(List.length (D8 (List.drop x6.toNat (List.take (x6.toNat+((some x).getD (↑x_9.length:Int)-none.getD (0:Int)).toNat) x_9)))):Int)≠x->Q1 x_2 x_3 (List.drop x6.toNat (List.take (x6.toNat+((some x).getD (↑x_9.length:Int)-none.getD (0:Int)).toNat) x_9)) (o4 (List.drop x6.toNat (List.take (x6.toNat+((some x).getD (↑x_9.length:Int)-none.getD (0:Int)).toNat) x_9))) x_6 (decide (x_7=true)) x_11 Err.nil)))))))/\(¬(↑x.a0B.length:Int)<6->(Err.nil≠Err.nil->Q0 () Err.nil x)/\(¬Err.nil≠Err.nil->∃ (I:Int->Int->Int->Int->List UInt8->List (List UInt8)->List (List UInt8)->Bool->Dk->Prop),∃ (m:Int->Int->Int->Int->List UInt8->List (List UInt8)->List (List UInt8)->Bool->Dk->Nat),I (0:Int) (0:Int) (0:Int) (0:Int) [] [] [] false x/\∀ (x x_1 x_2 x_3:Int) (x_4:List UInt8) (x_5 x_6:List (List UInt8)) (x_7:Bool) (x_8:Dk),I x x_1 x_2 x_3 x_4 x_5 x_6 x_7 x_8->(x_1<2->x_8.Ok/\((hdA x_8 x_1).snd.snd.snd≠Err.nil->Q0 () (hdA x_8 x_1).snd.snd.snd x_8)/\(¬(hdA x_8 x_1).snd.snd.snd≠Err.nil->(x_2<(hdA x_8 x_1).fst->i6 (x_1+1)/\I (hdA x_8 x_1).snd.snd.fst (x_1+1) (hdA x_8 x_1).fst (hdA x_8 x_1).snd.fst x_4 x_5 x_6 (decide (x_7=true)) x_8/\m (hdA x_8 x_1).snd.snd.fst (x_1+1) (hdA x_8 x_1).fst (hdA x_8 x_1).snd.fst x_4 x_5 x_6 (decide (x_7=true)) x_8<m x x_1 x_2 x_3 x_4 x_5 x_6 x_7 x_8)/\(¬x_2<(hdA x_8 x_1).fst->i6 (x_1+1)/\I x (x_1+1) x_2 x_3 x_4 x_5 x_6 (decide (x_7=true)) x_8/\m x (x_1+1) x_2 x_3 x_4 x_5 x_6 (decide (x_7=true)) x_8<m x x_1 x_2 x_3 x_4 x_5 x_6 x_7 x_8)))/\(¬x_1<2->(x_2=0->Q0 () Y8 x_8)/\(¬x_2=0->x_8.Ok/\i6 (c9 x_8 * 256)/\(c9 x_8 * 256<x->Q0 () Y8 x_8)/\(¬c9 x_8 * 256<x->x_8.Ok/\i6 (x_3 * c9 x_8)/\i6 ((2:Int)+x_3 * c9 x_8)/\∃ (I:List UInt8->Int->Dk->Prop),∃ (m:List UInt8->Int->Dk->Nat),I [] ((2:Int)+x_3 * c9 x_8) x_8/\∀ (x_9:List UInt8) (x_10:Int) (x_11:Dk),I x_9 x_10 x_11->((↑x_9.length:Int)<x->x_11.Ok/\(erN (x_11.read x_10).snd≠Err.nil->(erN (x_11.read x_10).snd≠Err.nil->erN (x_11.read x_10).snd=Err.no (erN (x_11.read x_10).snd).n0)/\Q0 () (inE ([114,101,97,100]:List UInt8) (erN (x_11.read x_10).snd)) x_11)/\(¬erN (x_11.read x_10).snd≠Err.nil->(x_9.length+List.length (x_11.read x_10).fst) * (some (1:Nat)).getD (0:Nat)<=140737488355328/\i6 (x_10+1)/\I (x_9++(x_11.read x_10).fst) (x_10+1) x_11/\m (x_9++(x_11.read x_10).fst) (x_10+1) x_11<m x_9 x_10 x_11))/\(¬(↑x_9.length:Int)<x->(0:Int)<=x/\x<=(↑x_9.length:Int)/\(List.drop x6.toNat (List.take (x6.toNat+((some x).getD (↑x_9.length:Int)-none.getD (0:Int)).toNat) x_9)).length<=100000000/\((↑(List.drop x6.toNat (List.take (x6.toNat+((some x).getD (↑x_9.length:Int)-none.getD (0:Int)).toNat) x_9)).length:Int)-(↑(List.length (D8 (List.drop x6.toNat (List.take (x6.toNat+((some x).getD (↑x_9.length:Int)-none.getD (0:Int)).toNat) x_9)))):Int)≠x->Q0 () Y8 x_11)/\(¬(↑(List.drop x6.toNat (List.take (x6.toNat+((some x).getD (↑x_9.length:Int)-none.getD (0:Int)).toNat) x_9)).length:Int)-(↑(List.length (D8 (List.drop x6.toNat (List.take (x6.toNat+((some x).getD (↑x_9.length:Int)-none.getD (0:Int)).toNat) x_9)))):Int)≠x->Q1 x_2 x_3 (List.drop x6.toNat (List.take (x6.toNat+((some x).getD (↑x_9.length:Int)-none.getD (0:Int)).toNat) x_9)) (o4 (List.drop x6.toNat (List.take (x6.toNat+((some x).getD (↑x_9.length:Int)-none.getD (0:Int)).toNat) x_9))) x_6 (decide (x_7=true)) x_11 Err.nil))))))))
theorem c53 {x:Dk} {Q0:Unit->Err->Dk->Prop} {Q1:Int->Int->Str->List Str->List Str->Bool->Dk->Err->Prop}:@Eq Prop (c0s x Q0 Q1) (o9 (E:=b35) (Z4 b35 H1 a88 3) (a88 31) Tryz.f31 [.ref 0 0] [(0,.ob (N:=U) 0 1 x)] [] 2 (a4c b35 [(0,.ob (N:=U) 0 1 x)] 2 2 [[.slot 0 (.a0U),.slot 1 (.err),.tree [] [.ob (some 200) 0]],[.tree [(0,0)] [.own none 82 [.to 1,.v (.int .i64),.v (.int .i64),.v (.str),.v (.acc 9),.v (.acc 9),.v (.bool)],.ob (some 200) 0],.slot 1 (.err)]] ((Q0,fun _ _ _=>(0:Nat)),((Q1,fun _ _ _ _ _ _ _ _=>(0:Nat)),())))):=by kernel_rfl
theorem c4x {x:Dk} {Q0:Unit->Err->Dk->Prop} {Q1:Int->Int->Str->List Str->List Str->Bool->Dk->Err->Prop} (h:c0s x Q0 Q1):o9 (E:=b35) (Z4 b35 H1 a88 3) (a88 31) Tryz.f31 [.ref 0 0] [(0,.ob (N:=U) 0 1 x)] [] 2 (a4c b35 [(0,.ob (N:=U) 0 1 x)] 2 2 [[.slot 0 (.a0U),.slot 1 (.err),.tree [] [.ob (some 200) 0]],[.tree [(0,0)] [.own none 82 [.to 1,.v (.int .i64),.v (.int .i64),.v (.str),.v (.acc 9),.v (.acc 9),.v (.bool)],.ob (some 200) 0],.slot 1 (.err)]] ((Q0,fun _ _ _=>(0:Nat)),((Q1,fun _ _ _ _ _ _ _ _=>(0:Nat)),()))):=by rw [<- c53]; exact h
set_option maxHeartbeats 1000000 in
theorem e50 (x:Dk) (ok:x.Ok):c0s x (fun y0 y1 y2=>(s8 x).1≠.nil/\y0=()/\y1=(s8 x).1/\y2=x) (fun y0 y1 y2 y3 y4 y5 y6 y7=>(s8 x).1=.nil/\y0=(s8 x).2.1/\y1=(s8 x).2.2.1/\y2=(s8 x).2.2.2.1/\y3=(s8 x).2.2.2.2/\y4=([]:List Str)/\y5=false/\y6=x/\y7=Err.nil):=by
 unfold c0s Y8 x6
 have p:=ok.pos
 have pm:=ok.max
 refine ⟨ok,fun h=>absurd h (by omega),fun h=>⟨ok,fun h6=>⟨fun _=>?_,fun hn=>absurd hn (by simp)⟩,fun h6=>⟨fun hn=>absurd rfl hn,fun _=>?_⟩⟩⟩
 . have e:s8 x=(.no 2,0,0,[],[]):=by
     unfold s8
     rw [b2p p (by omega),if_pos (by simp)]
   rw [e]; exact ⟨by simp,rfl,rfl,rfl⟩
 have e:s8 x=b6a x:=by
  unfold s8
  rw [a5b (by omega),if_neg (by simp)]
 rw [e]
 clear e
 refine ⟨fun n a t hh b r v dd y=>y=x/\b=[]/\r=[]/\v=[]/\dd=false/\0<=a/\a<=2/\0<=hh/\hh<=1/\0<=n/\n<4294967296/\a6i x (2-a).toNat a (t,hh,n)=opH x,fun _ a _ _ _ _ _ _ _=>(2-a).toNat,⟨rfl,rfl,rfl,rfl,rfl,by decide,by decide,by decide,by decide,by decide,by decide,rfl⟩,?_⟩
 rintro n a t hh b r v dd y ⟨rfl,rfl,rfl,rfl,rfl,a0,a1,h0,h1,n0,n1,hi⟩
 have ed:decide (false=true)=false:=rfl
 refine ⟨fun h2=>⟨ok,fun he=>?_,fun he=>?_⟩,fun h2=>?_⟩
 . rw [show (2-a).toNat=(2-(a+1)).toNat+1 by omega,a6i,if_pos he] at hi
   have e2:b6a y=((hdA y a).2.2.2,0,0,[],[]):=by
    unfold b6a
    rw [<- hi,if_pos he]
   rw [e2]; exact ⟨he,rfl,rfl,rfl⟩
 . rw [show (2-a).toNat=(2-(a+1)).toNat+1 by omega,a6i,if_neg he] at hi
   obtain ⟨g1,g2,g3,g4⟩:=d8f y a
   refine ⟨fun h3=>⟨⟨by omega,by omega⟩,⟨rfl,rfl,rfl,rfl,ed,by omega,by omega,g1,g2,g3,g4,?_⟩,by dsimp only; omega⟩,fun h3=>⟨⟨by omega,by omega⟩,⟨rfl,rfl,rfl,rfl,ed,by omega,by omega,h0,h1,n0,n1,?_⟩,by dsimp only; omega⟩⟩
   . rw [a1a,if_pos h3] at hi; exact hi
   . rw [a1a,if_neg h3] at hi; exact hi
 rw [show (2-a).toNat=0 by omega,a6i] at hi
 have e2:b6a y=a6h y (t,hh,n):=by
  unfold b6a
  rw [<- hi,if_neg (by simp)]
 rw [e2]
 clear e2 hi
 have eQ:a6h y (t,hh,n)=a6h y (t,hh,n):=rfl
 rw [ed]
 refine ⟨fun h3=>?_,fun h3=>⟨ok,⟨by have:=F9 ok; omega,by have:=F9 ok; omega⟩,fun h4=>?_,fun h4=>?_⟩⟩
 . have e3:a6h y (t,hh,n)=(.no 10,0,0,[],[]):=by
     unfold a6h; rw [if_pos h3]
   rw [e3]; exact ⟨by simp,rfl,rfl,rfl⟩
 . have e3:a6h y (t,hh,n)=(.no 10,0,0,[],[]):=by
     unfold a6h; rw [if_neg h3,if_pos h4]
   rw [e3]; exact ⟨by simp,rfl,rfl,rfl⟩
 obtain ⟨m0,m1⟩:=b59 ok h0 h1
 obtain ⟨f0,f1,_⟩:=F9 ok
 have e3:a6h y (t,hh,n)=(if (I9 y (A0 n) (2+hh * c9 y) []).2≠.nil then ((I9 y (A0 n) (2+hh * c9 y) []).2,0,0,[],[]) else
  if (((I9 y (A0 n) (2+hh * c9 y) []).1.take n.toNat).length:Int)-((D8 ((I9 y (A0 n) (2+hh * c9 y) []).1.take n.toNat)).length:Int)≠n then (.no 10,0,0,[],[]) else
  (.nil,t,hh,(I9 y (A0 n) (2+hh * c9 y) []).1.take n.toNat,o4 ((I9 y (A0 n) (2+hh * c9 y) []).1.take n.toNat))):=by
  unfold a6h; rw [if_neg h3,if_neg h4]
 rw [e3]
 clear e3 eQ
 generalize hF:(2+hh * c9 y)=F
 have F0:0<=F/\F<=4097:=by omega
 generalize hR:I9 y (A0 n) F []=R
 refine ⟨ok,⟨by omega,by omega⟩,⟨by omega,by omega⟩,fun b i z=>z=y/\∃ j:Nat,j<=A0 n/\b.length=256 * j/\i=F+j/\I9 y (A0 n-j) i b=R,fun b _ _=>(n-b.length).toNat,⟨rfl,0,by omega,rfl,by omega,hR⟩,?_⟩
 rintro b i z ⟨rfl,j,j0,hb,rfl,hr⟩
 have hm:=c25 n0 hb
 have hk:A0 n<=4096:=by unfold A0; omega
 refine ⟨fun h5=>⟨ok,fun h6=>⟨fun _=>a7u h6,?_⟩,fun h6=>?_⟩,fun h5=>?_⟩
 . rw [show A0 n-j=(A0 n-(j+1))+1 by omega,I9,if_neg (fun e=>h6 (a2t.2 e))] at hr
   have hne:inE sRd (erN (z.read (F+j)).2)≠.nil:=by
    unfold inE; rw [if_neg h6]; simp
   rw [<- hr,if_pos hne]; exact ⟨hne,rfl,rfl,rfl⟩
 . have hz:=a2t.1 (b4N.1 h6)
   rw [show A0 n-j=(A0 n-(j+1))+1 by omega,I9,if_pos hz] at hr
   have hl:=a9c ok hz
   have e1:(some 1).getD 0=1:=rfl
   refine ⟨by rw [hl,e1]; omega,⟨by omega,by omega⟩,⟨rfl,j+1,by omega,by rw [b3P,hl]; omega,by omega,?_⟩,by dsimp only; rw [b3P,hl]; omega⟩
   exact hr
 . rw [show A0 n-j=0 by omega,I9] at hr
   rw [c5k,<- hr]
   have ht:(b.take n.toNat).length=n.toNat:=by rw [b3U]; omega
   refine ⟨n0,by omega,by rw [ht]; omega,fun h6=>?_,fun h6=>?_⟩
   . rw [if_neg (by simp),if_pos h6]; exact ⟨by simp,rfl,rfl,rfl⟩
   . rw [if_neg (by simp),if_neg h6]; exact ⟨rfl,rfl,rfl,rfl,rfl,rfl,rfl,rfl,rfl⟩
def d9k (x:Dk):PT U:=fun k=>cj [Dk.Ok x] (a3r b35 [(0,.ob (N:=U) 0 1 x)] 2 2 [[.slot 0 (.a0U),.slot 1 (.err),.tree [] [.ob (some 200) 0]],[.tree [(0,0)] [.own none 82 [.to 1,.v (.int .i64),.v (.int .i64),.v (.str),.v (.acc 9),.v (.acc 9),.v (.bool)],.ob (some 200) 0],.slot 1 (.err)]] (([(s8 x).1≠.nil],((),(s8 x).1,(x,()),())),(([(s8 x).1=.nil],((((s8 x).2.1,(s8 x).2.2.1,(s8 x).2.2.2.1,(s8 x).2.2.2.2,([]:List Str),false,()),x,()),Err.nil,())),())) k)
def d0x:GD U:=⟨[],[],fun a its=>match a,its with | [.ref 0 0],[(0,.ob 0 1 x)]=>some (d9k x) | _,_=>none⟩
set_option maxHeartbeats 1000000 in
theorem c5d (args:List (SV U)) (its:a7 U) (S:PT U) (h:d0x.C args its=some S):r6 Tryz.prog U eT Gl 31 args its (2 * its.length) S:=by
 unfold d0x at h
 simp only at h
 split at h
 . rename_i x
   cases h
   exact a44 b2v (l5 b2v Q9 a88 3) Tryz.func31 (n:=2) rfl (ss:=[[.slot 0 (.a0U),.slot 1 (.err),.tree [] [.ob (some 200) 0]],[.tree [(0,0)] [.own none 82 [.to 1,.v (.int .i64),.v (.int .i64),.v (.str),.v (.acc 9),.v (.acc 9),.v (.bool)],.ob (some 200) 0],.slot 1 (.err)]]) (R:=(([(s8 x).1≠.nil],((),(s8 x).1,(x,()),())),(([(s8 x).1=.nil],((((s8 x).2.1,(s8 x).2.2.1,(s8 x).2.2.2.1,(s8 x).2.2.2.2,([]:List Str),false,()),x,()),Err.nil,())),()))) (obs:=[Dk.Ok x]) rfl (fun ho=>c4x (e50 x ho.1))
 . cases h
def d7e:Env:=b35.a0K 31 Tryz.f31
theorem c6w:l7 d7e:=b2v.a0K Tryz.call31 Tryz.func31
def d6n:Nat->Option (GD U):=S7 31 d0x H1
theorem C2:∀ K o args its S,d6n K=some o->o.C args its=some S->r6 Tryz.prog U eT Gl K args its (2 * its.length) S:=I8 c5d Q9
end Go.Proofs.YtckpdliipjekgaaGreat
end
section
namespace Go.Proofs
open Go.Shelf
def Tryz.lays8n4_ren:Go.Shelf.Ren:=⟨fun | 4=>78 | n=>n,fun | 22=>41 | 25=>9 | 3=>3 | 4=>4 | 9=>9 | 20=>20 | 0=>0 | n=>n,fun | n=>n⟩
theorem Tryz.lays8n4:Go.Proofs.Lays8.n4 Tryz.prog Tryz.lays8n4_ren:={
 mixed:=by kernel_rfl
 f4:=⟨Tryz.f78.name,by decide,Tryz.func78.trans (congrArg some (by kernel_rfl))⟩
 t0:=Tryz.underlying0
 a0:=Tryz.isAgg0
 z0:=Tryz.sizeOf0
 v0:=Tryz.zeroValue0
 t3:=Tryz.underlying3
 a3:=Tryz.isAgg3
 z3:=Tryz.sizeOf3
 v3:=Tryz.zeroValue3
 t4:=Tryz.underlying4
 a4:=Tryz.isAgg4
 z4:=Tryz.sizeOf4
 v4:=Tryz.zeroValue4
 t9:=Tryz.underlying9
 a9:=Tryz.isAgg9
 z9:=Tryz.sizeOf9
 v9:=Tryz.zeroValue9
 t20:=Tryz.underlying20
 a20:=Tryz.isAgg20
 z20:=Tryz.sizeOf20
 v20:=Tryz.zeroValue20
 t22:=Tryz.underlying41
 a22:=Tryz.isAgg41
 z22:=Tryz.sizeOf41
 v22:=Tryz.zeroValue41 }
open Go.RowKit Go.Lib in
theorem Tryz.slices_Grow_room (base:Option Addr) (l c n:Nat) (w:World) (h1:l<=c) (h2:c<=9223372036854775807) (h3:n<=9223372036854775807) (h4:l+n<=c) :
  Calls Tryz.prog 78 #[.slice base l c,.int .i64 n] w fun e w'=>e=.returned (.slice base l c)/\w'=w:=Any8.slices_Grow_room Tryz.lays8n4 base l c n w h1 h2 h3 h4
open Go.RowKit Go.Lib in
theorem Tryz.slices_Grow_grow (i0:TypeInfo) (z:Value) (hi0:Tryz.prog.info? 9=some i0) (hz0:i0.zero=some z) (hs0:0<i0.size) (n:Nat) (w:World) (h0:0<n) (hbig:(0+n) * i0.bytes<=140737488355328) (h63:0+n<=4611686018427387904) :
  Calls Tryz.prog 78 #[.slice none 0 0,.int .i64 n] w fun e w'=>e=.returned (.slice (some ⟨w.heap.size,0,none⟩) 0 (grownCap w (0+n) 0 9))/\w'=w.drew.alloc (.cells (([]:List Value).toArray++Builtin.zeroCells z.cells (0+n-0)++Builtin.zeroCells z.cells (grownCap w (0+n) 0 9-(0+n))) 9):=Any8.slices_Grow_grow Tryz.lays8n4 i0 z hi0 hz0 hs0 none 0 0 n [] w (b4H _) (by omega) hbig h63 (by rw [Nat.zero_mul]; rfl) (fun _=>rfl) (fun a h=>by cases h)
end Go.Proofs
end
section
namespace Go.Rx
open Go Go.Wk Go.Wl
section
variable {P:Program} {N:Uni} {T:O9} {G:a0w} {K nx t:Nat} {ρ:r9} {Z Z':Nat->Prop} {w w':World}
def c8h (N:Uni) (t:Nat):Prop:=∀ (Z Z':Nat->Prop) (w:World) (cs:List Value) (x:N.U t),(N.tb t).r.rd Z w cs x->(N.tb t).r.rd Z' w cs x
theorem d9u {v:Value} {l:List (N.U t)} {bs:List Nat} (hf:c8h N t) (h:Ac (N.tb t).r Z w v l bs):Ac (N.tb t).r Z' w v l bs:=by
 rcases h with h | ⟨b,cap,C,T,h1,h2,h3,h4,h5,h6⟩
 . exact .inl h
 . exact .inr ⟨b,cap,C,T,h1,h2,h3,h4,h5,fun i hi=>by
     obtain ⟨c,c1,c2,c3⟩:=h6 i hi
     exact ⟨c,c1,c2,hf _ _ _ _ _ c3⟩⟩
theorem a4y {args largs:List (SV N)} {its:a7 N} {l':List (N.U t)} {ob:List Prop} (hf:c8h N t) (hc:S9 P N T G K largs nx ⟨ob,[],.acc nx,[.ac t l']⟩)
  (hl:∀ (ρ:r9) (Z:Nat->Prop) (w:World) (vs:List Value),(∀ b,Z b->b<w.heap.size)->(∀ p∈its,Go.Rx.holds N T ρ p.1 Z w p.2)->Rep N T ρ Z w (.tuple vs.toArray) (.tup args)->Rep N T (fun _=>none) (seen Z w []) w (.tuple vs.toArray) (.tup largs)) :
  r6 P N T G K args its nx (fun k=>True->k (.acc nx) ([(nx,.ac t l')]++its) (nx+1)) :=
 P3 fun ρ Z w vs hfr hz hg ha hp=>by
  have h1:=hl ρ Z w vs hz (fun p hp'=>(hp p hp').1) ha
  have hg1:G.is (seen Z w []) w:=G.a1L hg (Ext.refl [] w) (fun _ h=>by cases h) (fun b hz hb=>⟨hb,fun h=>by cases h⟩)
  refine (hc.run (fun _=>none) (seen Z w []) w vs (fun _ _=>rfl) (fun b hb=>hb.1) hg1 h1).mono fun v w' ⟨ρ',Z',_,_,h4,_,hr,hs,_⟩=>?_
  have ok:=hs.ok 0 _ (show (s6 N T ρ' [] (number nx [.ac t l']))[0]?=some (H2 N T ρ' [] nx (.ac t l')) from rfl)
  obtain ⟨L,hL,hn,hlen,hac⟩:=ok.holds
  have hft:u5 N ρ' nx (.ac t l')=L.bs:=u6 hL
  have hfresh:∀ b∈L.bs,w.heap.size<=b:=fun b hb=>by
   have hnz:=ok.a1X b (show b∈u5 N ρ' nx (.ac t l') by simp_all)
   exact Nat.not_lt.1 fun hlt=>hnz (h4 b ⟨hlt,fun h=>by cases h⟩)
  cases hr with | acc hL' =>
  rw [hL] at hL'; cases hL'
  have hsub:=z6 (L:=L) (hfr nx (b4H _))
  refine ⟨C1 ρ nx L,Z,hsub,fun i hi=>by unfold C1; grind,fun _ h=>h,fun _ h=>.inl h,?_,.acc k7⟩
  refine (Sep.nil hz).add hs.ext ⟨L,k7,hn,hlen,d9u hf hac⟩ z7 (fun b hb=>?_) rfl
  have hb:b∈u5 N (C1 ρ nx L) nx (.ac t l'):=hb
  rw [u6 k7] at hb
  exact ⟨hfresh b hb,hac.lt b hb⟩
end
end Go.Rx
end
section
namespace Go.Proofs.YtckpdliipjekgaaGreat
open Go Go.Wk Go.Wl Go.Rx Go.Wa Go.Proofs Go.RowKit
theorem b0d {w w1 w':World} (hs:Sim w w1) (h:RowKit.Below w1.heap.size w1 w'):Ext [] w w':=by
 obtain ⟨k,rfl⟩:=hs
 exact ⟨h.os,h.tape,h.output,h.size,fun b hb _=>h.block b hb⟩
theorem c0v:c8h U 9:=fun _ _ _ _ _ h=>h
theorem d04 {Z:Nat->Prop} {w w2:World} {v':Value} {n:Nat} {xs:List Value} {l:List Str} (hl:l.length=n) (hl63:∀ s∈l,s.length<=9223372036854775807) (hx:xs=l.map sv) (ho:w2.ownsRow w.heap.size 9 1 v' n xs):∃ bs,(∀ b∈bs,w.heap.size<=b)/\Ac a09 Z w2 v' l bs:=by
 subst hx
 rcases ho.2 with ⟨hv,hn⟩ | ⟨g,cap',cur,hv,hbg,hg,hn,hcm,hcs,hct⟩
 . exact ⟨[],fun _ h=>(by cases h),.inl ⟨hv,b4O (by omega),rfl⟩⟩
 . refine ⟨[g],fun b hb=>by rw [b4U.1 hb]; exact hbg,.inr ⟨g,cap',cur.toList,9,by rw [hl]; exact hv,rfl,⟨(0,0),.inl rfl,hg⟩,by rw [b7C]; exact hcs,by omega,fun i hi=>?_⟩⟩
   refine ⟨[sv l[i]],rfl,fun j hj=>?_,⟨rfl,hl63 _ (b5J _)⟩⟩
   have hj0:j=0:=by have hj:j<1:=hj; omega
   subst hj0
   have e3:i * a09.sz+0=i:=by show i * 1+0=i; omega
   rw [e3]
   have:=congrArg (fun x=>x[i]?) hct
   rw [b8Y,List.getElem?_take_of_lt (by omega),b5S,b3T hi] at this
   simpa using this
theorem c2i (l:List Str) (D Z:Nat->Prop) (w w1:World) (hs:Sim w w1) (v:Value) (hv:(q9 a09).rd D w [v] l) (h1:l.length<=1000000) :
  Calls Tryz.prog 43 #[v] w1 fun e w2=>∃ v' bs,e=.returned v'/\Ext [] w w2/\(∀ b∈bs,w.heap.size<=b)/\Ac a09 Z w2 v' l bs:=by
 have hsz:w1.heap.size=w.heap.size:=by obtain ⟨k,rfl⟩:=hs; rfl
 obtain ⟨hl63,A,cap,e,⟨_,hcap⟩,hc⟩:=hv
 simp only [b8J,and_true] at e
 subst e
 by_cases h0:l.length=0
 . have hl:=b4O h0
   rw [h0]
   cases A with
   | none=>exact b6O (Tryz.slices_Clone_string_nil 0 cap w1) fun e w2 ⟨he,hw⟩=>⟨_,[],he,by subst hw; exact b3b hs (Ext.refl _ _),fun _ h=>(by cases h),.inl ⟨rfl,hl,rfl⟩⟩
   | some a =>
    refine b6O (Tryz.slices_Clone_string_zero a cap w1) fun e w2 ⟨v',he,ho,_,hbl⟩=>?_
    rw [hsz] at ho
    obtain ⟨bs,hb,hac⟩:=d04 (Z:=Z) (l:=l) h0 (fun s hs=>by rw [hl] at hs; cases hs) (by rw [hl]; rfl) ho
    exact ⟨v',bs,he,b0d hs hbl,hb,hac⟩
 obtain ⟨b,o,c,eA,hb,hcell,hrd⟩:=hc 0 (by omega)
 subst eA
 obtain ⟨xs,hxs⟩:∃ xs:List ByteArray,xs=l.map fun s=>⟨s.toArray⟩:=⟨_,rfl⟩
 have el:xs.length=l.length:=by rw [hxs,b6F]
 have hget:∀ (j:Nat) (hj:j<l.length),xs[j]?=some ⟨(l[j]).toArray⟩:=fun j hj=>by
  rw [hxs,b5S,b3T hj]; rfl
 have hcells:∀ (j:Nat),j<xs.length->w1.cell? ⟨b,o+j,none⟩=some (.string (xs.getD j ByteArray.empty)):=fun j hj=>by
  rw [el] at hj
  rw [Sim.cell hs,b5V,hget j hj]
  obtain ⟨b',o',c',eA',_,hcell',hrd'⟩:=hc j hj
  simp only [b3N,b9R] at eA'
  obtain ⟨rfl,rfl,-⟩:=eA'
  have hc1:=hrd'.1
  subst hc1
  obtain ⟨C,T,z,hh,hC⟩:=hcell'
  have:=hC 0 (by simp)
  have e1:o+j * a09.sz+0=o+j:=by show o+j * 1+0=o+j; omega
  rw [e1] at this
  unfold World.cell?
  simp only [hh]
  simpa [sv] using this
 refine b6O (Tryz.slices_Clone_string b o l.length cap xs w1 (by rw [el]; exact b4H _) (by omega) hcells) fun e w2 ⟨v',he,ho,hne,hbl⟩=>?_
 rw [hsz] at ho
 obtain ⟨bs,hb',hac⟩:=d04 (Z:=Z) (l:=l) rfl (fun s hs=>by
  obtain ⟨i,hi,rfl⟩:=b4I hs
  obtain ⟨_,_,_,_,_,_,h⟩:=hc i hi
  exact h.2) (by rw [hxs,b4Q (by rw [b6F]; exact b4H _),List.map_map]; rfl) ho
 exact ⟨v',bs,he,b0d hs hbl,hb',hac⟩
theorem d0t {K nx:Nat} {args:List (SV U)} {l:List Str} {ob:List Prop} (hl:l.length<=1000000)
  (h:∀ (ρ:r9) (Z:Nat->Prop) (w:World) (vs:List Value),Rep U eT ρ Z w (.tuple vs.toArray) (.tup args)->∀ w1,Sim w w1->Calls Tryz.prog K vs.toArray w1 fun e w2=>∃ v' bs,e=.returned v'/\Ext [] w w2/\(∀ b∈bs,w.heap.size<=b)/\Ac a09 Z w2 v' l bs) :
  S9 Tryz.prog U eT Gl K args nx ⟨ob,[],.acc nx,[.ac (N:=U) 9 l]⟩:=⟨fun ρ Z w vs hfr hz _ ha w1 hs=>by
 refine b6O (h ρ Z w vs ha w1 hs) fun e w2 ⟨v',bs,he,hx,hb,hac⟩=>?_
 obtain ⟨A,cap,rfl⟩:∃ A cap,v'=.slice A l.length cap:=by
  rcases hac with ⟨e1,e2,_⟩ | ⟨b,cap,C,T,e1,_⟩
  . subst e1; subst e2; exact ⟨_,_,rfl⟩
  . exact ⟨_,_,e1⟩
 have hsub:=z6 (L:=⟨0,A,l.length,cap,bs⟩) (hfr nx (b4H _))
 refine ⟨_,w2,he,Sim.refl _,C1 ρ nx ⟨0,A,l.length,cap,bs⟩,Z,hsub,fun i hi=>by have hi:nx+1<=i:=hi; unfold C1; rw [if_neg (by omega)]; exact hfr i (by omega),fun _ h=>h,fun _ h=>.inl h,.acc k7,?_,trivial⟩
 refine (Sep.nil hz).add hx ⟨_,k7,rfl,(show l.length<=9223372036854775807 by omega),hac⟩ z7 (fun b hb'=>?_) rfl
 have hb':b∈u5 U (C1 ρ nx ⟨0,A,l.length,cap,bs⟩) nx (.ac (N:=U) 9 l):=hb'
 have hb':b∈bs:=Eq.mp (congrArg (b∈·) (u6 (N:=U) (id:=nx) (t:=9) (l:=(l:List (U.U 9))) (k7 (ρ:=ρ) (id:=nx)))) hb'
 exact ⟨hb b hb',hac.lt b hb'⟩⟩
theorem a5w {nx:Nat} {l:List Str} {ob:List Prop} (hl:l.length<=1000000):S9 Tryz.prog U eT Gl 43 [.sl (N:=U) 9 l] nx ⟨ob,[],.acc nx,[.ac (N:=U) 9 l]⟩ :=
 d0t hl fun ρ Z w vs ha w1 hs=>by
  obtain ⟨v1,r1,rfl,hv1,ha⟩:=Rep.a0H ha
  obtain rfl:=E4 ha
  cases hv1 with | sl hv=>exact c2i l Z Z w w1 hs v1 hv hl
def fCl:FC U:=⟨[],[],fun a its=>match a,its with
 | [.acc 0],[(0,.ac 9 l)]=>some ⟨[List.length (α:=Str) l<=1000000],[],.acc 2,[(2,.ac (N:=U) 9 l),(0,.ac (N:=U) 9 l)],3⟩
 | [.sl 9 l],[]=>some ⟨[List.length (α:=Str) l<=1000000],[],.acc 0,[(0,.ac (N:=U) 9 l)],1⟩
 | [.a1K],[]=>some ⟨[],[],.acc 0,[(0,.ac (N:=U) 9 ([]:List Str))],1⟩
 | _,_=>none⟩
theorem c51 {ρ:r9} {Z:Nat->Prop} {w:World} {v:Value} {id:Nat} {l:List Str} (hz:∀ b,Z b->b<w.heap.size) (hp:Go.Rx.holds U eT ρ id Z w (.ac (N:=U) 9 l)) (h:Rep U eT ρ Z w v (.acc id)):(q9 a09).rd (Go.Rx.seen Z w []) w [v] l:=by
 obtain ⟨L,hL,hn,hlen,hac⟩:=hp
 cases h with | acc hL' =>
 rw [hL] at hL'; cases hL'
 exact Rd.a2T _ (Ac.rd hac hlen) fun b hb hlt=>⟨hlt,fun h=>by cases h⟩
theorem e26 (args:List (SV U)) (its:a7 U) (r:FR U) (h:fCl.C args its=some r) (ho:n6 r.ob):r6 Tryz.prog U eT Gl 43 args its (2 * its.length) (fun k=>n6 r.hy->k r.v r.its r.n):=by
 unfold fCl at h
 simp only at h
 split at h
 . rename_i l
   cases h
   refine a4y (t:=9) (l':=l) (ob:=[]) c0v (a5w (l:=l) ho.1) fun ρ Z w vs hz hp ha=>?_
   obtain ⟨v1,r1,rfl,h1,ha⟩:=Rep.a0H ha
   obtain rfl:=E4 ha
   exact .a1F (cs:=[]) (.sl (c51 hz (hp _ (b4U.2 rfl)) h1)) .a1O
 . rename_i l
   cases h
   refine a4y (t:=9) (l':=l) (ob:=[]) c0v (a5w (l:=l) ho.1) fun ρ Z w vs hz hp ha=>?_
   obtain ⟨v1,r1,rfl,h1,ha⟩:=Rep.a0H ha
   obtain rfl:=E4 ha
   cases h1 with | sl h1=>exact .a1F (cs:=[]) (.sl (Rd.a2T _ h1 fun b hb hlt=>⟨hlt,fun h=>by cases h⟩)) .a1O
 . cases h
   refine a4y (t:=9) (l':=([]:List Str)) (ob:=[]) (largs:=[.sl (N:=U) 9 ([]:List Str)]) c0v (a5w (by decide)) fun ρ Z w vs hz hp ha=>?_
   obtain ⟨v1,r1,rfl,h1,ha⟩:=Rep.a0H ha
   obtain rfl:=E4 ha
   cases h1 with | a1K=>exact .a1F (cs:=[]) (.sl V1) .a1O
 . cases h
def i9:TypeInfo:=(Tryz.prog.info? 9).get (show (Tryz.prog.info? 9).isSome=true by kernel_rfl)
theorem e2o:Tryz.prog.info? 9=some i9:=(Option.some_get _).symm
theorem d3x:i9.zero=some (.string ByteArray.empty):=by kernel_rfl
theorem d3d:i9.size=1:=by kernel_rfl
theorem c6p:i9.bytes=16:=by kernel_rfl
theorem a94 (z:Array Value) (n:Nat):(Builtin.zeroCells z n).size=n * z.size:=by
 unfold Builtin.zeroCells
 rw [Array.size_map,Array.size_range]
theorem c5u {w w1:World} (hs:Sim w w1) (o:Obj):Ext [] w (w1.drew.alloc o):=by
 obtain ⟨k,rfl⟩:=hs
 refine ⟨rfl,rfl,rfl,?_,fun k' hk' _=>?_⟩
 . show w.heap.size<=(w.heap.push o).size
   rw [Array.size_push]; omega
 . show (w.heap.push o)[k']?=_
   rw [b9K,if_neg (by omega)]
theorem c7d {nx:Nat} {n:Int} {ob:List Prop} (h0:0<=n) (h1:n<=1000000):S9 Tryz.prog U eT Gl 78 [.a1K,.int .i64 n] nx ⟨ob,[],.acc nx,[.ac (N:=U) 9 ([]:List Str)]⟩ :=
 d0t (by decide) fun ρ Z w vs ha w1 hs=>by
  have hsz:w1.heap.size=w.heap.size:=by obtain ⟨k,rfl⟩:=hs; rfl
  obtain ⟨v1,r1,rfl,hv1,ha⟩:=Rep.a0H ha
  obtain ⟨v2,r2,rfl,hv2,ha⟩:=Rep.a0H ha
  obtain rfl:=E4 ha
  cases hv1 with | a1K =>
  cases hv2 with | int _ =>
  obtain ⟨k,rfl⟩:∃ k:Nat,n=k:=⟨n.toNat,by omega⟩
  by_cases hk:k=0
  . subst hk
    exact b6O (Tryz.slices_Grow_room none 0 0 0 w1 (b4H _) (by omega) (by omega) (b4H _)) fun e w2 ⟨he,hw⟩=>⟨_,[],he,by subst hw; exact b3b hs (Ext.refl _ _),fun _ h=>(by cases h),.inl ⟨rfl,rfl,rfl⟩⟩
  . refine b6O (Tryz.slices_Grow_grow i9 _ e2o d3x (by rw [d3d]; decide) k w1 (by omega) (by rw [c6p]; omega) (by omega)) fun e w2 ⟨he,hw⟩=>?_
    have hge:=grownCap_ge w1 (0+k) 0 9
    have hz:(([]:List Value).toArray++Builtin.zeroCells (Value.string ByteArray.empty).cells (0+k-0)++Builtin.zeroCells (Value.string ByteArray.empty).cells (grownCap w1 (0+k) 0 9-(0+k))).size=grownCap w1 (0+k) 0 9:=by
     rw [b9U,b9U,a94,a94]
     show 0+(0+k-0) * 1+(grownCap w1 (0+k) 0 9-(0+k)) * 1=_
     omega
    generalize ([]:List Value).toArray++Builtin.zeroCells (Value.string ByteArray.empty).cells (0+k-0)++Builtin.zeroCells (Value.string ByteArray.empty).cells (grownCap w1 (0+k) 0 9-(0+k))=arr at hw hz
    subst hw
    refine ⟨_,[w1.heap.size],he,c5u hs _,fun b hb=>by rw [b4U.1 hb,hsz]; exact b4H _,.inr ⟨w1.heap.size,grownCap w1 (0+k) 0 9,arr.toList,9,rfl,rfl,⟨(0,0),.inl rfl,?_⟩,?_,b6N _,fun i hi=>absurd hi (c0I _)⟩⟩
    . show (w1.heap.push _)[w1.heap.size]?=_
      rw [b9K,if_pos rfl,b9D]
    . rw [b7C,hz]
      show _=_ * 1
      omega
def cGr (a:List (SV U)) (nx:Nat):Option (CR U):=match a with | [.a1K,.int .i64 n]=>some ⟨[0<=n,n<=1000000],[],.acc nx,[.ac (N:=U) 9 ([]:List Str)]⟩ | _=>none
theorem d9n (args:List (SV U)) (nx:Nat) (c:CR U) (h:cGr args nx=some c) (_:args.all H9=true) (ho:n6 c.ob):S9 Tryz.prog U eT Gl 78 args nx c:=by
 unfold cGr at h
 split at h
 . cases h
   exact c7d ho.1 ho.2.1
 . cases h
end Go.Proofs.YtckpdliipjekgaaGreat
end
section
namespace Go.Proofs.YtckpdliipjekgaaGreat
open Go Go.Wk Go.Wl Go.Rx Go.Wa 
def N2:Env:=(d7e.a2A 78 cGr).a0N 43 fCl
theorem c6j:l7 N2:=(c6w.a2A Tryz.call78 d9n).a0N Tryz.call43 e26
end Go.Proofs.YtckpdliipjekgaaGreat
end
section
namespace Go.Proofs.YtckpdliipjekgaaGreat
open Go Go.Wk Go.Wl Go.Rx Go.Wa 
attribute [local irreducible] o9
def e4i:Nat->Ann:=fun | 54=>⟨36,fun | 11=>some ⟨[25,26],[.slot 6 (.acc 9),.slot 27 (.int .i64)]⟩ | 3=>some ⟨[0,9,10],[.slot 3 (.int .i64),.slot 11 (.int .i64)]⟩ | _=>none,nn⟩ | _=>⟨0,nn,nn⟩
def Vct (ll:List (List Str)) (Q:List Str->Prop):Prop :=
∃ (I:Int->Int->Prop),∃ (m:Int->Int->Nat),I (0:Int) (0:Int)/\∀ (x x_1:Int),I x x_1->(x_1<(↑ll.length:Int)->(0:Int)<=x_1/\x_1<(↑ll.length:Int)/\i6 (x+(↑(ix ll x_1).length:Int))/\(x+(↑(ix ll x_1).length:Int)<0->False)/\(¬x+(↑(ix ll x_1).length:Int)<0->i6 (x_1+1)/\I (x+(↑(ix ll x_1).length:Int)) (x_1+1)/\m (x+(↑(ix ll x_1).length:Int)) (x_1+1)<m x x_1))/\(¬x_1<(↑ll.length:Int)->(0:Int)<=x/\x<=1000000/\∃ (I:List (List UInt8)->Int->Prop),∃ (m:List (List UInt8)->Int->Nat),I [] (0:Int)/\∀ (x:List (List UInt8)) (x_2:Int),I x x_2->(x_2<(↑ll.length:Int)->(0:Int)<=x_2/\x_2<(↑ll.length:Int)/\(x.length+(ix ll x_2).length) * (some (16:Nat)).getD (0:Nat)<=140737488355328/\i6 (x_2+1)/\I (x++ix ll x_2) (x_2+1)/\m (x++ix ll x_2) (x_2+1)<m x x_2)/\(¬x_2<(↑ll.length:Int)->Q x))
theorem pct (ll:List (List Str)) (h0:ll.length<=1000) (h1:ll.flatten.length<=1000000):Vct ll (fun y0=>y0=ll.flatten):=by
 unfold Vct
 refine ⟨fun s i=>0<=i/\i<=ll.length/\0<=s/\s+((ll.drop i.toNat).flatten.length:Int)=(ll.flatten.length:Int),fun _ i=>((ll.length:Int)-i).toNat,⟨by omega,by omega,by omega,by show (0:Int)+_=_; rw [Int.zero_add]; rfl⟩,?_⟩
 rintro s i ⟨i0,i1,s0,hs⟩
 refine ⟨fun h=>?_,fun h=>⟨s0,by omega,?_⟩⟩
 . rw [H5 i0 h,b6C,b3P] at hs
   exact ⟨i0,h,⟨by omega,by omega⟩,fun hn=>by omega,fun _=>⟨⟨by omega,by omega⟩,⟨by omega,by omega,by omega,by omega⟩,by dsimp only; omega⟩⟩
 refine ⟨fun x i=>0<=i/\i<=ll.length/\x++(ll.drop i.toNat).flatten=ll.flatten,fun _ i=>((ll.length:Int)-i).toNat,⟨by omega,by omega,rfl⟩,?_⟩
 rintro x i ⟨i0,i1,hx⟩
 refine ⟨fun h=>?_,fun h=>?_⟩
 . rw [H5 i0 h,b6C,<- b4L] at hx
   have hl:=congrArg List.length hx
   rw [b3P,b3P] at hl
   have e:(some 16).getD 0=16:=rfl
   refine ⟨i0,h,?_,⟨by omega,by omega⟩,⟨by omega,by omega,hx⟩,by dsimp only; omega⟩
   rw [e]
   generalize ll.flatten.length=A at hl h1
   generalize x.length=B at hl ⊢
   generalize (ix ll i).length=D at hl ⊢
   omega
 . rw [b5F (by omega),c0H,b4M] at hx
   exact hx
def cct (a:List (SV U)) (nx:Nat):Option (CR U):=match a with | [.sl 41 ll]=>some ⟨[List.length (α:=List Str) ll<=1000,List.length (α:=Str) (List.flatten ll)<=1000000],[],.acc nx,[.ac 9 (ll.flatten)]⟩ | _=>none
theorem e08 (args:List (SV U)) (nx:Nat) (c:CR U) (h:cct args nx=some c) (hp:args.all H9=true) (ho:n6 c.ob):S9 N2.P N2.N N2.T N2.G 54 args nx c:=by
 unfold cct at h
 split at h
 . rename_i ll
   cases h
   exact b4q (an:=e4i 54) c6j (l5 c6j C2 e4i 2) Tryz.func54 (k:=.acc 9) (x:=ll.flatten) hp (kc (pct ll ho.1 ho.2.1) (by kernel_rfl))
 . cases h
theorem e5h {ρ:r9} {Z:Nat->Prop} {w:World} {v:Value} {a b c:Nat} {r u:List Str} (hz:∀ b,Z b->b<w.heap.size) (hp:Go.Rx.holds U eT ρ a Z w (.rw 41 2 [.acc b,.acc c])) (hr:Go.Rx.holds U eT ρ b Z w (.ac (N:=U) 9 r)) (hu:Go.Rx.holds U eT ρ c Z w (.ac (N:=U) 9 u)) (h:Rep U eT ρ Z w v (.acc a)):(q9 (q9 a09)).rd (Go.Rx.seen Z w []) w [v] [r,u]:=by
 obtain ⟨L,F,hL,hn,hle,hA,hrw,hrep⟩:=hp
 cases h with | acc hL' =>
 rw [hL] at hL'; cases hL'
 obtain ⟨v1,F1,rfl,g1,_,hrep⟩:=j8.cons_inv hrep
 obtain ⟨v2,F2,rfl,g2,_,hrep⟩:=j8.cons_inv hrep
 obtain rfl:=j8.a0Q hrep
 have d1:=c51 hz hr g1
 have d2:=c51 hz hu g2
 obtain ⟨bb,hAb,hbs,hc⟩:=W0.cells hrw (by decide)
 have hlt:bb<w.heap.size:=hrw.lt bb (by rw [hbs]; exact b4U.2 rfl)
 have hcap:2<=L.cap:=by
  rcases hrw with ⟨e,_⟩ | ⟨_,cap,_,_,e,_,_,_,h2,_⟩
  . simp at e
  . simp only [b6M] at e; rw [e.2.2]; exact h2
 rw [hn]
 refine ⟨by simp,L.A,L.cap,rfl,⟨fun e=>(by rw [hAb] at e; cases e),hcap⟩,fun i hi=>?_⟩
 have one:∀ (j:Nat) (x:Value),[v1,v2][j]?=some x->x9 w bb (0+j * (q9 a09).sz) [x]:=fun j x hx=>by
  obtain ⟨C,T,z,hh,hC⟩:=hc
  refine ⟨C,T,z,hh,fun k hk=>?_⟩
  have hk0:k=0:=by have hk:k<1:=hk; omega
  subst hk0
  have e:0+j * (q9 a09).sz+0=0+j:=by show 0+j * 1+0=0+j; omega
  rw [e,hC j (List.getElem?_eq_some_iff.1 hx).1,hx]; rfl
 match i,hi with
 | 0,_=>exact ⟨bb,0,[v1],hAb,⟨hlt,fun h=>by cases h⟩,one 0 v1 rfl,d1⟩
 | 1,_=>exact ⟨bb,0,[v2],hAb,⟨hlt,fun h=>by cases h⟩,one 1 v2 rfl,d2⟩
def fCt:FC U:=⟨[],[],fun a its=>match a,its with
 | [.acc 0],[(0,.rw 41 2 [.acc 1,.acc 2]),(1,.ac 9 r),(2,.ac 9 u)]=>some ⟨[List.length (α:=Str) r+List.length (α:=Str) u<=1000000],[],.acc 6,[(6,.ac (N:=U) 9 (List.append (α:=Str) r u)),(0,.rw 41 2 [.acc 1,.acc 2]),(1,.ac (N:=U) 9 r),(2,.ac (N:=U) 9 u)],7⟩
 | _,_=>none⟩
theorem e0e (args:List (SV U)) (its:a7 U) (r:FR U) (h:fCt.C args its=some r) (ho:n6 r.ob):r6 Tryz.prog U eT Gl 54 args its (2 * its.length) (fun k=>n6 r.hy->k r.v r.its r.n):=by
 unfold fCt at h
 simp only at h
 split at h
 . rename_i r u
   cases h
   have hf:([r,u]:List (List Str)).flatten=List.append (α:=Str) r u:=by
    show r++(u++[])=r++u
    rw [b4M]
   have hc:=e08 [.sl (N:=U) 41 ([r,u]:List (List Str))] 6 _ rfl rfl ⟨show 2<=1000 by decide,by rw [hf]; show (r++u).length<=_; rw [b3P]; exact ho.1,trivial⟩
   refine a4y (t:=9) (l':=List.append (α:=Str) r u) (ob:=_) c0v (Eq.mp (congrArg (fun l=>S9 Tryz.prog U eT Gl 54 [.sl (N:=U) 41 ([r,u]:List (List Str))] 6 ⟨_,[],.acc 6,[.ac (N:=U) 9 l]⟩) hf) hc) fun ρ Z w vs hz hp ha=>?_
   obtain ⟨v1,r1,rfl,h1,ha⟩:=Rep.a0H ha
   obtain rfl:=E4 ha
   exact .a1F (cs:=[]) (.sl (e5h hz (hp _ (.head _)) (hp _ (.tail _ (.head _))) (hp _ (.tail _ (.tail _ (.head _)))) h1)) .a1O
 . cases h
def N3:Env:=N2.a0N 54 fCt
theorem c67:l7 N3:=c6j.a0N Tryz.call54 e0e
end Go.Proofs.YtckpdliipjekgaaGreat
end
section
namespace Go.Proofs.YtckpdliipjekgaaGreat
open Go Go.Wk Go.Wl Go.Rx Go.Wa Go.Wa
structure Lg where
 turn:Int
 half:Int
 bytes:Str
 a0Y:List Str
 wait:List Str
 dead:Bool
 d:Dk
def a63 (g:Lg) (e:Err):Lg:={ g with dead:=g.dead || decide (Err.is e 9) }
def F8 (g:Lg):Int:=c9 g.d * 256
def a1W (g:Lg):Int:=F8 g-(g.bytes.length:Int)-z8 g.wait
def V4 (g:Lg) (hh th:Int) (by_:Str) (rc:List Str):Err×Lg :=
 if (a8 g.d ((g.turn+1).tmod 2) (o8 (q5 (g.turn+1) hh (by_.length:Int)))).1≠.nil then
  ((a8 g.d ((g.turn+1).tmod 2) (o8 (q5 (g.turn+1) hh (by_.length:Int)))).1,a63 { g with d:=(a8 g.d ((g.turn+1).tmod 2) (o8 (q5 (g.turn+1) hh (by_.length:Int)))).2 } (a8 g.d ((g.turn+1).tmod 2) (o8 (q5 (g.turn+1) hh (by_.length:Int)))).1)
 else (.nil,⟨g.turn+1,hh,by_,rc,[],g.dead,(a8 g.d ((g.turn+1).tmod 2) (o8 (q5 (g.turn+1) hh (by_.length:Int)))).2⟩)
def o3 (g:Lg) (hh th:Int) (by_:Str) (rc:List Str):Err×Lg :=
 if th=(by_.length:Int) then
  if inE sFl (erN g.d.flush.1)≠.nil then (inE sFl (erN g.d.flush.1),a63 { g with d:=g.d.flush.2 } (inE sFl (erN g.d.flush.1)))
  else V4 { g with d:=g.d.flush.2 } hh th by_ rc
 else
  if (a8 g.d (2+hh * c9 g.d+th.tdiv 256) (o8 (by_.drop (th.tdiv 256 * 256).toNat))).1≠.nil then
   ((a8 g.d (2+hh * c9 g.d+th.tdiv 256) (o8 (by_.drop (th.tdiv 256 * 256).toNat))).1,a63 { g with d:=(a8 g.d (2+hh * c9 g.d+th.tdiv 256) (o8 (by_.drop (th.tdiv 256 * 256).toNat))).2 } (a8 g.d (2+hh * c9 g.d+th.tdiv 256) (o8 (by_.drop (th.tdiv 256 * 256).toNat))).1)
  else V4 { g with d:=(a8 g.d (2+hh * c9 g.d+th.tdiv 256) (o8 (by_.drop (th.tdiv 256 * 256).toNat))).2 } hh th by_ rc
def u4 (g:Lg):Err×Lg :=
 if g.dead=true then (.no 9,g) else if g.wait.length=0 then (.nil,g) else
 if (l6 g.wait).2≠.nil then ((l6 g.wait).2,g) else
 o3 g g.half (g.bytes.length:Int) (g.bytes++(l6 g.wait).1) (g.a0Y++g.wait)
def s7 (g:Lg) (l:List Str):Err×Lg :=
 if g.dead=true then (.no 9,g) else if (l6 l).2≠.nil then ((l6 l).2,g) else
 if F8 g<((l6 l).1.length:Int) then (.no 6,g) else o3 g (1-g.half) 0 (l6 l).1 l
structure LgB (g:Lg):Prop where
 ok:g.d.Ok
 h0:0<=g.half
 h1:g.half<=1
 b:g.bytes.length<=2000000
 t0:0<=g.turn
 t1:g.turn<=2199023255552
 n:g.a0Y.length+g.wait.length<=1000000
 w:SmL g.wait
 p:(l6 g.wait).1.length<=2000000
def B5 (g:Lg) (l:List Str):Err×Lg :=
 if g.dead=true then (.no 9,g) else if (l6 l).2≠.nil then ((l6 l).2,g) else
 if a1W g<((l6 l).1.length:Int) then (.no 6,g) else (.nil,{ g with wait:=g.wait++l })
def v7 (a b:List Str):Bool:=decide (a=b)
theorem e29 {a b:List Str} (hl:a.length=b.length) (h:∀ i:Int,0<=i->i<a.length->ix a i=ix b i):a=b:=d5f hl h
theorem c08 {α:Type} [Inhabited α] {l:List α} {n:Nat} {i:Int} (h0:0<=i) (h1:i<n) (h2:i<l.length):ix (l.take n) i=ix l i:=by
 have h:i.toNat<(l.take n).length:=by rw [b3U]; omega
 rw [C5 h,C5 (by omega),b8W]
def a4d:Int->List Str->Int
 | n,[]=>n
 | n,s::r=>a4d (n+min (s.length:Int) 100000) r
def b7f (n:Int) (a:Act):Int:=a4d (n+min (a.S.length:Int) 100000+min (a.Kept.length:Int) 1000+min (a.a0T.length:Int) 1000) (a.a0T.take 51)
def b4n:Int->List Act->Bool
 | _,[]=>true
 | n,a::r=>if 40000<b7f n a ∨ 50<(a.a0T.length:Int) then false else b4n (b7f n a) r
def b3j (l:List Act):Bool:=if b4n 0 (l.take 61)=true then decide ((l.length:Int)<=60) else false
end Go.Proofs.YtckpdliipjekgaaGreat
end
section
namespace Go.Proofs.YtckpdliipjekgaaGreat
open Go Go.Wk Go.Wl Go.Rx Go.Wa 
attribute [local irreducible] o9
def c6t:Nat->Ann:=fun | 77=>⟨12,nn,nn⟩ | _=>⟨0,nn,nn⟩
def d6w (tn:Int) (hf:Int) (bt:Str) (rs:List Str) (wt:List Str) (pd:Prop) (dd:Decidable pd) (x:Dk) (e:Err) (Q:Err->Int->Int->Str->List Str->List Str->Bool->Dk->Prop):Prop :=
(e.is (9:Int)->Q e tn hf bt rs wt true x)/\(¬e.is (9:Int)->Q e tn hf bt rs wt (decide pd) x)
theorem e49 (tn:Int) (hf:Int) (bt:Str) (rs:List Str) (wt:List Str) (pd:Prop) (dd:Decidable pd) (x:Dk) (e:Err)  : d6w tn hf bt rs wt pd dd x e (fun y0 y1 y2 y3 y4 y5 y6 y7=>y0=e/\y1=tn/\y2=hf/\y3=bt/\y4=rs/\y5=wt/\y6=(decide pd || decide (Err.is e 9))/\y7=x):=by
 unfold d6w
 refine ⟨fun h=>?_,fun h=>?_⟩
 . exact ⟨rfl,rfl,rfl,rfl,rfl,rfl,by show true=(decide pd || decide (Err.is e 9)); rw [b4R h,Bool.or_true],rfl⟩
 . exact ⟨rfl,rfl,rfl,rfl,rfl,rfl,by show decide pd=(decide pd || decide (Err.is e 9)); rw [b5K h,b8F],rfl⟩
def d7q (tn:Int) (hf:Int) (bt:Str) (rs:List Str) (wt:List Str) (pd:Prop) (dd:Decidable pd) (x:Dk) (e:Err):FR U:=K8 N3 [] [(0,.own 82 [.ref 1 0,.int .i64 tn,.int .i64 hf,.str bt,.acc 2,.acc 3,.bl pd dd]),(1,.ob (N:=U) 0 5 x),(2,.ac (N:=U) 9 rs),(3,.ac (N:=U) 9 wt)] 8 1 [.slot 0 (.err),.tree [] [.own (some 200) 82 [.to 1,.v (.int .i64),.v (.int .i64),.v (.str),.v (.acc 9),.v (.acc 9),.v (.bool)],.ob (some 201) 0]] (e,((tn,hf,bt,rs,wt,(decide pd || decide (Err.is e 9)),()),x,()),())
def c9f:FC U:=⟨[],[],fun a its=>match a,its with | [.ref 0 0,.err e],[(0,.own 82 [.ref 1 0,.int .i64 tn,.int .i64 hf,.str bt,.acc 2,.acc 3,.bl pd dd]),(1,.ob 0 5 x),(2,.ac 9 rs),(3,.ac 9 wt)]=>some (d7q tn hf bt rs wt pd dd x e) | _,_=>none⟩
theorem d0w (args:List (SV U)) (its:a7 U) (r:FR U) (h:c9f.C args its=some r) (ho:n6 r.ob):r6 Tryz.prog U eT Gl 77 args its (2 * its.length) (fun k=>n6 r.hy->k r.v r.its r.n):=by
 unfold c9f at h
 simp only at h
 split at h
 . rename_i e tn hf bt pd dd x rs wt
   cases h
   exact G8 (an:=c6t 77) c67 (l5 c67 C2 c6t 3) Tryz.func77 (n:=1) rfl (vs:=[.slot 0 (.err),.tree [] [.own (some 200) 82 [.to 1,.v (.int .i64),.v (.int .i64),.v (.str),.v (.acc 9),.v (.acc 9),.v (.bool)],.ob (some 201) 0]]) (X:=(e,((tn,hf,bt,rs,wt,(decide pd || decide (Err.is e 9)),()),x,()),())) rfl (kc (e49 tn hf bt rs wt pd dd x e ) (by kernel_rfl))
 . cases h
def d5r:Env:=(N3.a0K 77 Tryz.f77).a0N 77 c9f
theorem c6o:l7 d5r:=(c67.a0K Tryz.call77 Tryz.func77).a0N Tryz.call77 d0w
def d9a:Env:=d5r.a0K 51 Tryz.f51
theorem b3z:l7 d9a:=c6o.a0K Tryz.call51 Tryz.func51
def d7i:Nat->Ann:=fun | 45=>⟨9,nn,nn⟩ | _=>⟨0,nn,nn⟩
def e5o (tn:Int) (hf:Int) (bt:Str) (rs:List Str) (wt:List Str) (pd:Prop) (dd:Decidable pd) (x:Dk) (Q:Int->Int->Int->Str->List Str->List Str->Bool->Dk->Prop):Prop :=
x.Ok/\i6 (c9 x * 256)/\Q (c9 x * 256) tn hf bt rs wt (decide pd) x
theorem e6z (tn:Int) (hf:Int) (bt:Str) (rs:List Str) (wt:List Str) (pd:Prop) (dd:Decidable pd) (x:Dk) (ok:x.Ok):e5o tn hf bt rs wt pd dd x (fun y0 y1 y2 y3 y4 y5 y6 y7=>y0=(c9 x * 256)/\y1=tn/\y2=hf/\y3=bt/\y4=rs/\y5=wt/\y6=(decide pd)/\y7=x):=by
 unfold e5o
 obtain ⟨g1,g2,_⟩:=F9 ok
 exact ⟨ok,⟨by omega,by omega⟩,rfl,rfl,rfl,rfl,rfl,rfl,rfl,rfl⟩
def e4u (tn:Int) (hf:Int) (bt:Str) (rs:List Str) (wt:List Str) (pd:Prop) (dd:Decidable pd) (x:Dk):FR U:=K8 d9a [Dk.Ok x] [(0,.own 82 [.ref 1 0,.int .i64 tn,.int .i64 hf,.str bt,.acc 2,.acc 3,.bl pd dd]),(1,.ob (N:=U) 0 5 x),(2,.ac (N:=U) 9 rs),(3,.ac (N:=U) 9 wt)] 8 1 [.slot 0 (.int .i64),.tree [] [.own (some 200) 82 [.to 1,.v (.int .i64),.v (.int .i64),.v (.str),.v (.acc 9),.v (.acc 9),.v (.bool)],.ob (some 201) 0]] ((c9 x * 256),((tn,hf,bt,rs,wt,(decide pd),()),x,()),())
def e1d:FC U:=⟨[],[],fun a its=>match a,its with | [.ref 0 0],[(0,.own 82 [.ref 1 0,.int .i64 tn,.int .i64 hf,.str bt,.acc 2,.acc 3,.bl pd dd]),(1,.ob 0 5 x),(2,.ac 9 rs),(3,.ac 9 wt)]=>some (e4u tn hf bt rs wt pd dd x) | _,_=>none⟩
theorem d2l (args:List (SV U)) (its:a7 U) (r:FR U) (h:e1d.C args its=some r) (ho:n6 r.ob):r6 Tryz.prog U eT Gl 45 args its (2 * its.length) (fun k=>n6 r.hy->k r.v r.its r.n):=by
 unfold e1d at h
 simp only at h
 split at h
 . rename_i tn hf bt pd dd x rs wt
   cases h
   exact G8 (an:=d7i 45) b3z (l5 b3z C2 d7i 3) Tryz.func45 (n:=1) rfl (vs:=[.slot 0 (.int .i64),.tree [] [.own (some 200) 82 [.to 1,.v (.int .i64),.v (.int .i64),.v (.str),.v (.acc 9),.v (.acc 9),.v (.bool)],.ob (some 201) 0]]) (X:=((c9 x * 256),((tn,hf,bt,rs,wt,(decide pd),()),x,()),())) rfl (kc (e6z tn hf bt rs wt pd dd x ho.1) (by kernel_rfl))
 . cases h
def e1k:Env:=(d9a.a0K 45 Tryz.f45).a0N 45 e1d
theorem b1s:l7 e1k:=(b3z.a0K Tryz.call45 Tryz.func45).a0N Tryz.call45 d2l
def e4d:Nat->Ann:=fun | 53=>⟨115,nn,nn⟩ | _=>⟨0,nn,nn⟩
def A3 (hh:Int) (x:Dk) (th:Int):=(2:Int)+hh * c9 x+(th.tdiv (256:Int) * 256).tdiv (256:Int)
def A7 (th:Int) (by_:Str):=o8 (List.drop (th.tdiv (256:Int) * 256).toNat by_)
def E2 (tn:Int) (hh:Int) (by_:Str):=o8 (q5 (tn+1) hh (↑(List.length by_):Int))
def E1 (tn:Int):=(tn+1).tmod (2:Int)
def a1e  := ([102,108,117,115,104]:List UInt8)
def b2r (tn:Int) (hh:Int) (by_:Str):=q5 (tn+1) hh (↑(List.length by_):Int)
def b05 (th:Int):=th.tdiv (256:Int) * 256
def b3r (x:Dk):=inE a1e (erN x.flush.fst)
def Y7 (by_:Str):=List.length by_
def Vwr (tn:Int) (hf:Int) (bt:Str) (rs:List Str) (wt:List Str) (pd:Prop) (dd:Decidable pd) (x:Dk) (rc:List Str) (hh:Int) (th:Int) (by_:Str) (Q:Err->Int->Int->Str->List Str->List Str->Bool->Dk->Prop):Prop :=
(256:Int)≠0/\i6 (th.tdiv (256:Int))/\i6 (b05 th)/\(th=(↑(Y7 by_):Int)->((1:Int)=0->x.Ok/\i6 (hh * c9 x)/\i6 ((2:Int)+hh * c9 x)/\((256:Int)≠0/\i6 ((b05 th).tdiv (256:Int)))/\i6 (A3 hh x th)/\((0:Int)<=th.tdiv (256:Int) * 256/\th.tdiv (256:Int) * 256<=(↑(Y7 by_):Int))/\(x.Ok/\(List.drop (b05 th).toNat by_).length<=10000000/\(0:Int)<=(2:Int)+hh * c9 x+(b05 th).tdiv (256:Int)/\(2:Int)+hh * c9 x+(b05 th).tdiv (256:Int)<=1000000)/\((a8 x (A3 hh x th) (A7 th by_)).fst≠Err.nil->Q (a8 x (A3 hh x th) (A7 th by_)).fst tn hf bt rs wt (decide ((decide pd || decide ((a8 x (A3 hh x th) (A7 th by_)).fst.is (9:Int)))=true)) (a8 x (A3 hh x th) (A7 th by_)).snd)/\(¬(a8 x (A3 hh x th) (A7 th by_)).fst≠Err.nil->(th=(↑(Y7 by_):Int)->(a8 x (A3 hh x th) (A7 th by_)).snd.Ok/\(erN (a8 x (A3 hh x th) (A7 th by_)).snd.flush.fst≠Err.nil->erN (a8 x (A3 hh x th) (A7 th by_)).snd.flush.fst=Err.no (erN (a8 x (A3 hh x th) (A7 th by_)).snd.flush.fst).n0)/\(inE a1e (erN (a8 x (A3 hh x th) (A7 th by_)).snd.flush.fst)≠Err.nil->Q (inE a1e (erN (a8 x (A3 hh x th) (A7 th by_)).snd.flush.fst)) tn hf bt rs wt (decide ((decide ((decide pd || decide ((a8 x (A3 hh x th) (A7 th by_)).fst.is (9:Int)))=true) || decide ((inE a1e (erN (a8 x (A3 hh x th) (A7 th by_)).snd.flush.fst)).is (9:Int)))=true)) (a8 x (A3 hh x th) (A7 th by_)).snd.flush.snd)/\(¬inE a1e (erN (a8 x (A3 hh x th) (A7 th by_)).snd.flush.fst)≠Err.nil->i6 (tn+1)/\(2:Int)≠0/\i6 (tn+1)/\(i6 hh/\i6 (↑(Y7 by_):Int))/\((a8 x (A3 hh x th) (A7 th by_)).snd.flush.snd.Ok/\List.length (b2r tn hh by_)<=10000000/\(0:Int)<=(tn+1).tmod (2:Int)/\(tn+1).tmod (2:Int)<=1000000)/\((a8 (a8 x (A3 hh x th) (A7 th by_)).snd.flush.snd (E1 tn) (E2 tn hh by_)).fst≠Err.nil->Q (a8 (a8 x (A3 hh x th) (A7 th by_)).snd.flush.snd (E1 tn) (E2 tn hh by_)).fst tn hf bt rs wt (decide ((decide ((decide ((decide pd || decide ((a8 x (A3 hh x th) (A7 th by_)).fst.is (9:Int)))=true) || decide ((inE a1e (erN (a8 x (A3 hh x th) (A7 th by_)).snd.flush.fst)).is (9:Int)))=true) || decide ((a8 (a8 x (A3 hh x th) (A7 th by_)).snd.flush.snd (E1 tn) (E2 tn hh by_)).fst.is (9:Int)))=true)) (a8 (a8 x (A3 hh x th) (A7 th by_)).snd.flush.snd (E1 tn) (E2 tn hh by_)).snd)/\(¬(a8 (a8 x (A3 hh x th) (A7 th by_)).snd.flush.snd (E1 tn) (E2 tn hh by_)).fst≠Err.nil->i6 (tn+1)/\Q Err.nil (tn+1) hh by_ rc [] (decide ((decide ((decide ((decide pd || decide ((a8 x (A3 hh x th) (A7 th by_)).fst.is (9:Int)))=true) || decide ((inE a1e (erN (a8 x (A3 hh x th) (A7 th by_)).snd.flush.fst)).is (9:Int)))=true) || decide ((a8 (a8 x (A3 hh x th) (A7 th by_)).snd.flush.snd (E1 tn) (E2 tn hh by_)).fst.is (9:Int)))=true)) (a8 (a8 x (A3 hh x th) (A7 th by_)).snd.flush.snd (E1 tn) (E2 tn hh by_)).snd)))/\(¬th=(↑(Y7 by_):Int)->i6 (tn+1)/\(2:Int)≠0/\i6 (tn+1)/\(i6 hh/\i6 (↑(Y7 by_):Int))/\((a8 x (A3 hh x th) (A7 th by_)).snd.Ok/\List.length (b2r tn hh by_)<=10000000/\(0:Int)<=(tn+1).tmod (2:Int)/\(tn+1).tmod (2:Int)<=1000000)/\((a8 (a8 x (A3 hh x th) (A7 th by_)).snd (E1 tn) (E2 tn hh by_)).fst≠Err.nil->Q (a8 (a8 x (A3 hh x th) (A7 th by_)).snd (E1 tn) (E2 tn hh by_)).fst tn hf bt rs wt (decide ((decide ((decide pd || decide ((a8 x (A3 hh x th) (A7 th by_)).fst.is (9:Int)))=true) || decide ((a8 (a8 x (A3 hh x th) (A7 th by_)).snd (E1 tn) (E2 tn hh by_)).fst.is (9:Int)))=true)) (a8 (a8 x (A3 hh x th) (A7 th by_)).snd (E1 tn) (E2 tn hh by_)).snd)/\(¬(a8 (a8 x (A3 hh x th) (A7 th by_)).snd (E1 tn) (E2 tn hh by_)).fst≠Err.nil->i6 (tn+1)/\Q Err.nil (tn+1) hh by_ rc [] (decide ((decide ((decide pd || decide ((a8 x (A3 hh x th) (A7 th by_)).fst.is (9:Int)))=true) || decide ((a8 (a8 x (A3 hh x th) (A7 th by_)).snd (E1 tn) (E2 tn hh by_)).fst.is (9:Int)))=true)) (a8 (a8 x (A3 hh x th) (A7 th by_)).snd (E1 tn) (E2 tn hh by_)).snd))))/\(¬(1:Int)=0->((1:Int)=1->(th=(↑(Y7 by_):Int)->x.Ok/\(erN x.flush.fst≠Err.nil->erN x.flush.fst=Err.no (erN x.flush.fst).n0)/\(inE a1e (erN x.flush.fst)≠Err.nil->Q (b3r x) tn hf bt rs wt (decide ((decide pd || decide ((b3r x).is (9:Int)))=true)) x.flush.snd)/\(¬inE a1e (erN x.flush.fst)≠Err.nil->i6 (tn+1)/\(2:Int)≠0/\i6 (tn+1)/\(i6 hh/\i6 (↑(Y7 by_):Int))/\(x.flush.snd.Ok/\List.length (b2r tn hh by_)<=10000000/\(0:Int)<=(tn+1).tmod (2:Int)/\(tn+1).tmod (2:Int)<=1000000)/\((a8 x.flush.snd (E1 tn) (E2 tn hh by_)).fst≠Err.nil->Q (a8 x.flush.snd (E1 tn) (E2 tn hh by_)).fst tn hf bt rs wt (decide ((decide ((decide pd || decide ((b3r x).is (9:Int)))=true) || decide ((a8 x.flush.snd (E1 tn) (E2 tn hh by_)).fst.is (9:Int)))=true)) (a8 x.flush.snd (E1 tn) (E2 tn hh by_)).snd)/\(¬(a8 x.flush.snd (E1 tn) (E2 tn hh by_)).fst≠Err.nil->i6 (tn+1)/\Q Err.nil (tn+1) hh by_ rc [] (decide ((decide ((decide pd || decide ((b3r x).is (9:Int)))=true) || decide ((a8 x.flush.snd (E1 tn) (E2 tn hh by_)).fst.is (9:Int)))=true)) (a8 x.flush.snd (E1 tn) (E2 tn hh by_)).snd)))/\(¬th=(↑(Y7 by_):Int)->i6 (tn+1)/\(2:Int)≠0/\i6 (tn+1)/\(i6 hh/\i6 (↑(Y7 by_):Int))/\(x.Ok/\List.length (b2r tn hh by_)<=10000000/\(0:Int)<=(tn+1).tmod (2:Int)/\(tn+1).tmod (2:Int)<=1000000)/\((a8 x (E1 tn) (E2 tn hh by_)).fst≠Err.nil->Q (a8 x (E1 tn) (E2 tn hh by_)).fst tn hf bt rs wt (decide ((decide pd || decide ((a8 x (E1 tn) (E2 tn hh by_)).fst.is (9:Int)))=true)) (a8 x (E1 tn) (E2 tn hh by_)).snd)/\(¬(a8 x (E1 tn) (E2 tn hh by_)).fst≠Err.nil->i6 (tn+1)/\Q Err.nil (tn+1) hh by_ rc [] (decide ((decide pd || decide ((a8 x (E1 tn) (E2 tn hh by_)).fst.is (9:Int)))=true)) (a8 x (E1 tn) (E2 tn hh by_)).snd)))/\(¬(1:Int)=1->i6 (tn+1)/\Q Err.nil (tn+1) hh by_ rc [] (decide pd) x)))/\(¬th=(↑(Y7 by_):Int)->((0:Int)=0->x.Ok/\i6 (hh * c9 x)/\i6 ((2:Int)+hh * c9 x)/\((256:Int)≠0/\i6 ((b05 th).tdiv (256:Int)))/\i6 (A3 hh x th)/\((0:Int)<=th.tdiv (256:Int) * 256/\th.tdiv (256:Int) * 256<=(↑(Y7 by_):Int))/\(x.Ok/\(List.drop (b05 th).toNat by_).length<=10000000/\(0:Int)<=(2:Int)+hh * c9 x+(b05 th).tdiv (256:Int)/\(2:Int)+hh * c9 x+(b05 th).tdiv (256:Int)<=1000000)/\((a8 x (A3 hh x th) (A7 th by_)).fst≠Err.nil->Q (a8 x (A3 hh x th) (A7 th by_)).fst tn hf bt rs wt (decide ((decide pd || decide ((a8 x (A3 hh x th) (A7 th by_)).fst.is (9:Int)))=true)) (a8 x (A3 hh x th) (A7 th by_)).snd)/\(¬(a8 x (A3 hh x th) (A7 th by_)).fst≠Err.nil->(th=(↑(Y7 by_):Int)->(a8 x (A3 hh x th) (A7 th by_)).snd.Ok/\(erN (a8 x (A3 hh x th) (A7 th by_)).snd.flush.fst≠Err.nil->erN (a8 x (A3 hh x th) (A7 th by_)).snd.flush.fst=Err.no (erN (a8 x (A3 hh x th) (A7 th by_)).snd.flush.fst).n0)/\(inE a1e (erN (a8 x (A3 hh x th) (A7 th by_)).snd.flush.fst)≠Err.nil->Q (inE a1e (erN (a8 x (A3 hh x th) (A7 th by_)).snd.flush.fst)) tn hf bt rs wt (decide ((decide ((decide pd || decide ((a8 x (A3 hh x th) (A7 th by_)).fst.is (9:Int)))=true) || decide ((inE a1e (erN (a8 x (A3 hh x th) (A7 th by_)).snd.flush.fst)).is (9:Int)))=true)) (a8 x (A3 hh x th) (A7 th by_)).snd.flush.snd)/\(¬inE a1e (erN (a8 x (A3 hh x th) (A7 th by_)).snd.flush.fst)≠Err.nil->i6 (tn+1)/\(2:Int)≠0/\i6 (tn+1)/\(i6 hh/\i6 (↑(Y7 by_):Int))/\((a8 x (A3 hh x th) (A7 th by_)).snd.flush.snd.Ok/\List.length (b2r tn hh by_)<=10000000/\(0:Int)<=(tn+1).tmod (2:Int)/\(tn+1).tmod (2:Int)<=1000000)/\((a8 (a8 x (A3 hh x th) (A7 th by_)).snd.flush.snd (E1 tn) (E2 tn hh by_)).fst≠Err.nil->Q (a8 (a8 x (A3 hh x th) (A7 th by_)).snd.flush.snd (E1 tn) (E2 tn hh by_)).fst tn hf bt rs wt (decide ((decide ((decide ((decide pd || decide ((a8 x (A3 hh x th) (A7 th by_)).fst.is (9:Int)))=true) || decide ((inE a1e (erN (a8 x (A3 hh x th) (A7 th by_)).snd.flush.fst)).is (9:Int)))=true) || decide ((a8 (a8 x (A3 hh x th) (A7 th by_)).snd.flush.snd (E1 tn) (E2 tn hh by_)).fst.is (9:Int)))=true)) (a8 (a8 x (A3 hh x th) (A7 th by_)).snd.flush.snd (E1 tn) (E2 tn hh by_)).snd)/\(¬(a8 (a8 x (A3 hh x th) (A7 th by_)).snd.flush.snd (E1 tn) (E2 tn hh by_)).fst≠Err.nil->i6 (tn+1)/\Q Err.nil (tn+1) hh by_ rc [] (decide ((decide ((decide ((decide pd || decide ((a8 x (A3 hh x th) (A7 th by_)).fst.is (9:Int)))=true) || decide ((inE a1e (erN (a8 x (A3 hh x th) (A7 th by_)).snd.flush.fst)).is (9:Int)))=true) || decide ((a8 (a8 x (A3 hh x th) (A7 th by_)).snd.flush.snd (E1 tn) (E2 tn hh by_)).fst.is (9:Int)))=true)) (a8 (a8 x (A3 hh x th) (A7 th by_)).snd.flush.snd (E1 tn) (E2 tn hh by_)).snd)))/\(¬th=(↑(Y7 by_):Int)->i6 (tn+1)/\(2:Int)≠0/\i6 (tn+1)/\(i6 hh/\i6 (↑(Y7 by_):Int))/\((a8 x (A3 hh x th) (A7 th by_)).snd.Ok/\List.length (b2r tn hh by_)<=10000000/\(0:Int)<=(tn+1).tmod (2:Int)/\(tn+1).tmod (2:Int)<=1000000)/\((a8 (a8 x (A3 hh x th) (A7 th by_)).snd (E1 tn) (E2 tn hh by_)).fst≠Err.nil->Q (a8 (a8 x (A3 hh x th) (A7 th by_)).snd (E1 tn) (E2 tn hh by_)).fst tn hf bt rs wt (decide ((decide ((decide pd || decide ((a8 x (A3 hh x th) (A7 th by_)).fst.is (9:Int)))=true) || decide ((a8 (a8 x (A3 hh x th) (A7 th by_)).snd (E1 tn) (E2 tn hh by_)).fst.is (9:Int)))=true)) (a8 (a8 x (A3 hh x th) (A7 th by_)).snd (E1 tn) (E2 tn hh by_)).snd)/\(¬(a8 (a8 x (A3 hh x th) (A7 th by_)).snd (E1 tn) (E2 tn hh by_)).fst≠Err.nil->i6 (tn+1)/\Q Err.nil (tn+1) hh by_ rc [] (decide ((decide ((decide pd || decide ((a8 x (A3 hh x th) (A7 th by_)).fst.is (9:Int)))=true) || decide ((a8 (a8 x (A3 hh x th) (A7 th by_)).snd (E1 tn) (E2 tn hh by_)).fst.is (9:Int)))=true)) (a8 (a8 x (A3 hh x th) (A7 th by_)).snd (E1 tn) (E2 tn hh by_)).snd))))/\(¬(0:Int)=0->((0:Int)=1->(th=(↑(Y7 by_):Int)->x.Ok/\(erN x.flush.fst≠Err.nil->erN x.flush.fst=Err.no (erN x.flush.fst).n0)/\(inE a1e (erN x.flush.fst)≠Err.nil->Q (b3r x) tn hf bt rs wt (decide ((decide pd || decide ((b3r x).is (9:Int)))=true)) x.flush.snd)/\(¬inE a1e (erN x.flush.fst)≠Err.nil->i6 (tn+1)/\(2:Int)≠0/\i6 (tn+1)/\(i6 hh/\i6 (↑(Y7 by_):Int))/\(x.flush.snd.Ok/\List.length (b2r tn hh by_)<=10000000/\(0:Int)<=(tn+1).tmod (2:Int)/\(tn+1).tmod (2:Int)<=1000000)/\((a8 x.flush.snd (E1 tn) (E2 tn hh by_)).fst≠Err.nil->Q (a8 x.flush.snd (E1 tn) (E2 tn hh by_)).fst tn hf bt rs wt (decide ((decide ((decide pd || decide ((b3r x).is (9:Int)))=true) || decide ((a8 x.flush.snd (E1 tn) (E2 tn hh by_)).fst.is (9:Int)))=true)) (a8 x.flush.snd (E1 tn) (E2 tn hh by_)).snd)/\(¬(a8 x.flush.snd (E1 tn) (E2 tn hh by_)).fst≠Err.nil->i6 (tn+1)/\Q Err.nil (tn+1) hh by_ rc [] (decide ((decide ((decide pd || decide ((b3r x).is (9:Int)))=true) || decide ((a8 x.flush.snd (E1 tn) (E2 tn hh by_)).fst.is (9:Int)))=true)) (a8 x.flush.snd (E1 tn) (E2 tn hh by_)).snd)))/\(¬th=(↑(Y7 by_):Int)->i6 (tn+1)/\(2:Int)≠0/\i6 (tn+1)/\(i6 hh/\i6 (↑(Y7 by_):Int))/\(x.Ok/\List.length (b2r tn hh by_)<=10000000/\(0:Int)<=(tn+1).tmod (2:Int)/\(tn+1).tmod (2:Int)<=1000000)/\((a8 x (E1 tn) (E2 tn hh by_)).fst≠Err.nil->Q (a8 x (E1 tn) (E2 tn hh by_)).fst tn hf bt rs wt (decide ((decide pd || decide ((a8 x (E1 tn) (E2 tn hh by_)).fst.is (9:Int)))=true)) (a8 x (E1 tn) (E2 tn hh by_)).snd)/\(¬(a8 x (E1 tn) (E2 tn hh by_)).fst≠Err.nil->i6 (tn+1)/\Q Err.nil (tn+1) hh by_ rc [] (decide ((decide pd || decide ((a8 x (E1 tn) (E2 tn hh by_)).fst.is (9:Int)))=true)) (a8 x (E1 tn) (E2 tn hh by_)).snd)))/\(¬(0:Int)=1->i6 (tn+1)/\Q Err.nil (tn+1) hh by_ rc [] (decide pd) x)))
set_option maxHeartbeats 1000000 in
theorem pwr (tn:Int) (hf:Int) (bt:Str) (rs:List Str) (wt:List Str) (pd:Prop) (dd:Decidable pd) (x:Dk) (rc:List Str) (hh:Int) (th:Int) (by_:Str) (ok:x.Ok) (h1:0<=hh) (h2:hh<=1) (h3:0<=th) (h4:th<=(by_.length:Int)) (h5:by_.length<=5000000) (h6:0<=tn) (h7:tn<=2199023255552):Vwr tn hf bt rs wt pd dd x rc hh th by_ (fun y0 y1 y2 y3 y4 y5 y6 y7=>y0=(o3 (⟨tn,hf,bt,rs,wt,decide pd,x⟩:Lg) hh th by_ rc).1/\y1=((o3 (⟨tn,hf,bt,rs,wt,decide pd,x⟩:Lg) hh th by_ rc).2).turn/\y2=((o3 (⟨tn,hf,bt,rs,wt,decide pd,x⟩:Lg) hh th by_ rc).2).half/\y3=((o3 (⟨tn,hf,bt,rs,wt,decide pd,x⟩:Lg) hh th by_ rc).2).bytes/\y4=((o3 (⟨tn,hf,bt,rs,wt,decide pd,x⟩:Lg) hh th by_ rc).2).a0Y/\y5=((o3 (⟨tn,hf,bt,rs,wt,decide pd,x⟩:Lg) hh th by_ rc).2).wait/\y6=((o3 (⟨tn,hf,bt,rs,wt,decide pd,x⟩:Lg) hh th by_ rc).2).dead/\y7=((o3 (⟨tn,hf,bt,rs,wt,decide pd,x⟩:Lg) hh th by_ rc).2).d):=by
 unfold Vwr Y7 b3r b05 b2r a1e E1 E2 A7 A3
 have e1:(th.tdiv 256 * 256).tdiv 256=th.tdiv 256:=Int.mul_tdiv_cancel _ (by decide)
 have e0:th.tdiv 256=th / 256:=b5P h3
 obtain ⟨m0,m1⟩:=b59 ok h1 h2
 have tm:0<=(tn+1).tmod 2/\(tn+1).tmod 2<=1:=by rw [b5I (by omega)]; omega
 have dn:∀ e:Err,¬ e≠.nil->decide (Err.is e 9)=false:=fun e h=>by rw [b4N.1 h]; rfl
 have hl:∀ n:Int,(q5 (tn+1) hh n).length<=10000000:=fun n=>by rw [a1o]; decide
 simp only [b4J,e1]
 refine ⟨by decide,⟨by omega,by omega⟩,⟨by omega,by omega⟩,fun ht=>⟨fun h=>absurd h (by decide),fun _=>⟨fun _=>⟨fun _=>?_,fun hn=>absurd ht hn⟩,fun hn=>absurd trivial hn⟩⟩,fun ht=>⟨fun _=>?_,fun hn=>absurd trivial hn⟩⟩
 . have ok2:x.flush.2.Ok:=a4g ok
   refine ⟨ok,fun h=>a7u h,fun he=>?_,fun he=>?_⟩
   . have ew:o3 ⟨tn,hf,bt,rs,wt,decide pd,x⟩ hh th by_ rc=(inE sFl (erN x.flush.1),a63 ⟨tn,hf,bt,rs,wt,decide pd,x.flush.2⟩ (inE sFl (erN x.flush.1))):=by
       unfold o3; rw [if_pos ht,if_pos he]
     rw [ew]; exact ⟨rfl,rfl,rfl,rfl,rfl,rfl,rfl,rfl⟩
   have ew:o3 ⟨tn,hf,bt,rs,wt,decide pd,x⟩ hh th by_ rc=V4 ⟨tn,hf,bt,rs,wt,decide pd,x.flush.2⟩ hh th by_ rc:=by
    unfold o3; rw [if_pos ht,if_neg he]
   rw [ew,dn _ he,b8F]
   generalize x.flush.2=y at ok2
   refine ⟨⟨by omega,by omega⟩,by decide,⟨by omega,by omega⟩,⟨⟨by omega,by omega⟩,⟨by omega,by omega⟩⟩,⟨ok2,hl _,tm.1,by omega⟩,fun h8=>?_,fun h8=>⟨⟨by omega,by omega⟩,?_⟩⟩
   . have e2:V4 ⟨tn,hf,bt,rs,wt,decide pd,y⟩ hh th by_ rc=((a8 y ((tn+1).tmod 2) (o8 (q5 (tn+1) hh (by_.length:Int)))).1,a63 ⟨tn,hf,bt,rs,wt,decide pd,(a8 y ((tn+1).tmod 2) (o8 (q5 (tn+1) hh (by_.length:Int)))).2⟩ (a8 y ((tn+1).tmod 2) (o8 (q5 (tn+1) hh (by_.length:Int)))).1):=by
       unfold V4; rw [if_pos h8]
     rw [e2]; exact ⟨rfl,rfl,rfl,rfl,rfl,rfl,rfl,rfl⟩
   . have e2:V4 ⟨tn,hf,bt,rs,wt,decide pd,y⟩ hh th by_ rc=(.nil,⟨tn+1,hh,by_,rc,[],decide pd,(a8 y ((tn+1).tmod 2) (o8 (q5 (tn+1) hh (by_.length:Int)))).2⟩):=by
       unfold V4; rw [if_neg h8]
     rw [e2,dn _ h8,b8F]; exact ⟨rfl,rfl,rfl,rfl,rfl,rfl,rfl,rfl⟩
 . refine ⟨ok,⟨by omega,by omega⟩,⟨by omega,by omega⟩,⟨by decide,⟨by omega,by omega⟩⟩,⟨by omega,by omega⟩,⟨by omega,by omega⟩,⟨ok,by rw [b3W]; omega,by omega,by omega⟩,fun he=>?_,fun he=>⟨fun h=>absurd h ht,fun _=>?_⟩⟩
   . have ew:o3 ⟨tn,hf,bt,rs,wt,decide pd,x⟩ hh th by_ rc=((a8 x (2+hh * c9 x+th.tdiv 256) (o8 (by_.drop (th.tdiv 256 * 256).toNat))).1,a63 ⟨tn,hf,bt,rs,wt,decide pd,(a8 x (2+hh * c9 x+th.tdiv 256) (o8 (by_.drop (th.tdiv 256 * 256).toNat))).2⟩ (a8 x (2+hh * c9 x+th.tdiv 256) (o8 (by_.drop (th.tdiv 256 * 256).toNat))).1):=by
       unfold o3; rw [if_neg ht,if_pos he]
     rw [ew]; exact ⟨rfl,rfl,rfl,rfl,rfl,rfl,rfl,rfl⟩
   have ew:o3 ⟨tn,hf,bt,rs,wt,decide pd,x⟩ hh th by_ rc=V4 ⟨tn,hf,bt,rs,wt,decide pd,(a8 x (2+hh * c9 x+th.tdiv 256) (o8 (by_.drop (th.tdiv 256 * 256).toNat))).2⟩ hh th by_ rc:=by
    unfold o3; rw [if_neg ht,if_neg he]
   have ok2:(a8 x (2+hh * c9 x+th.tdiv 256) (o8 (by_.drop (th.tdiv 256 * 256).toNat))).2.Ok:=V0 _ _ ok
   rw [ew,dn _ he,b8F]
   generalize (a8 x (2+hh * c9 x+th.tdiv 256) (o8 (by_.drop (th.tdiv 256 * 256).toNat))).2=y at ok2
   refine ⟨⟨by omega,by omega⟩,by decide,⟨by omega,by omega⟩,⟨⟨by omega,by omega⟩,⟨by omega,by omega⟩⟩,⟨ok2,hl _,tm.1,by omega⟩,fun h8=>?_,fun h8=>⟨⟨by omega,by omega⟩,?_⟩⟩
   . have e2:V4 ⟨tn,hf,bt,rs,wt,decide pd,y⟩ hh th by_ rc=((a8 y ((tn+1).tmod 2) (o8 (q5 (tn+1) hh (by_.length:Int)))).1,a63 ⟨tn,hf,bt,rs,wt,decide pd,(a8 y ((tn+1).tmod 2) (o8 (q5 (tn+1) hh (by_.length:Int)))).2⟩ (a8 y ((tn+1).tmod 2) (o8 (q5 (tn+1) hh (by_.length:Int)))).1):=by
       unfold V4; rw [if_pos h8]
     rw [e2]; exact ⟨rfl,rfl,rfl,rfl,rfl,rfl,rfl,rfl⟩
   . have e2:V4 ⟨tn,hf,bt,rs,wt,decide pd,y⟩ hh th by_ rc=(.nil,⟨tn+1,hh,by_,rc,[],decide pd,(a8 y ((tn+1).tmod 2) (o8 (q5 (tn+1) hh (by_.length:Int)))).2⟩):=by
       unfold V4; rw [if_neg h8]
     rw [e2,dn _ h8,b8F]; exact ⟨rfl,rfl,rfl,rfl,rfl,rfl,rfl,rfl⟩
def e6e (tn:Int) (hf:Int) (bt:Str) (rs:List Str) (wt:List Str) (pd:Prop) (dd:Decidable pd) (x:Dk) (rc:List Str) (hh:Int) (th:Int) (by_:Str):FR U:=K8 e1k [Dk.Ok x,0<=hh,hh<=1,0<=th,th<=(List.length (α:=UInt8) by_:Int),List.length (α:=UInt8) by_<=5000000,0<=tn,tn<=2199023255552] [(0,.own 82 [.ref 1 0,.int .i64 tn,.int .i64 hf,.str bt,.acc 2,.acc 3,.bl pd dd]),(1,.ob (N:=U) 0 6 x),(2,.ac (N:=U) 9 rs),(3,.ac (N:=U) 9 wt),(4,.ac (N:=U) 9 rc)] 10 1 [.slot 0 (.err),.tree [] [.own (some 200) 82 [.to 1,.v (.int .i64),.v (.int .i64),.v (.str),.v (.acc 9),.v (.acc 9),.v (.bool)],.ob (some 201) 0]] ((o3 (⟨tn,hf,bt,rs,wt,decide pd,x⟩:Lg) hh th by_ rc).1,((((o3 (⟨tn,hf,bt,rs,wt,decide pd,x⟩:Lg) hh th by_ rc).2).turn,((o3 (⟨tn,hf,bt,rs,wt,decide pd,x⟩:Lg) hh th by_ rc).2).half,((o3 (⟨tn,hf,bt,rs,wt,decide pd,x⟩:Lg) hh th by_ rc).2).bytes,((o3 (⟨tn,hf,bt,rs,wt,decide pd,x⟩:Lg) hh th by_ rc).2).a0Y,((o3 (⟨tn,hf,bt,rs,wt,decide pd,x⟩:Lg) hh th by_ rc).2).wait,((o3 (⟨tn,hf,bt,rs,wt,decide pd,x⟩:Lg) hh th by_ rc).2).dead,()),((o3 (⟨tn,hf,bt,rs,wt,decide pd,x⟩:Lg) hh th by_ rc).2).d,()),())
def fwr:FC U:=⟨[],[],fun a its=>match a,its with | [.ref 0 0,.int .i64 hh,.int .i64 th,.str by_,.acc 4],[(0,.own 82 [.ref 1 0,.int .i64 tn,.int .i64 hf,.str bt,.acc 2,.acc 3,.bl pd dd]),(1,.ob 0 6 x),(2,.ac 9 rs),(3,.ac 9 wt),(4,.ac 9 rc)]=>some (e6e tn hf bt rs wt pd dd x rc hh th by_) | _,_=>none⟩
set_option maxHeartbeats 1000000 in
theorem e0b (args:List (SV U)) (its:a7 U) (r:FR U) (h:fwr.C args its=some r) (ho:n6 r.ob):r6 Tryz.prog U eT Gl 53 args its (2 * its.length) (fun k=>n6 r.hy->k r.v r.its r.n):=by
 unfold fwr at h
 simp only at h
 split at h
 . rename_i hh th by_ tn hf bt pd dd x rs wt rc
   cases h
   exact G8 (an:=e4d 53) b1s (l5 b1s C2 e4d 3) Tryz.func53 (n:=1) rfl (vs:=[.slot 0 (.err),.tree [] [.own (some 200) 82 [.to 1,.v (.int .i64),.v (.int .i64),.v (.str),.v (.acc 9),.v (.acc 9),.v (.bool)],.ob (some 201) 0]]) (X:=((o3 (⟨tn,hf,bt,rs,wt,decide pd,x⟩:Lg) hh th by_ rc).1,((((o3 (⟨tn,hf,bt,rs,wt,decide pd,x⟩:Lg) hh th by_ rc).2).turn,((o3 (⟨tn,hf,bt,rs,wt,decide pd,x⟩:Lg) hh th by_ rc).2).half,((o3 (⟨tn,hf,bt,rs,wt,decide pd,x⟩:Lg) hh th by_ rc).2).bytes,((o3 (⟨tn,hf,bt,rs,wt,decide pd,x⟩:Lg) hh th by_ rc).2).a0Y,((o3 (⟨tn,hf,bt,rs,wt,decide pd,x⟩:Lg) hh th by_ rc).2).wait,((o3 (⟨tn,hf,bt,rs,wt,decide pd,x⟩:Lg) hh th by_ rc).2).dead,()),((o3 (⟨tn,hf,bt,rs,wt,decide pd,x⟩:Lg) hh th by_ rc).2).d,()),())) rfl (kc (pwr tn hf bt rs wt pd dd x rc hh th by_ ho.1 ho.2.1 ho.2.2.1 ho.2.2.2.1 ho.2.2.2.2.1 ho.2.2.2.2.2.1 ho.2.2.2.2.2.2.1 ho.2.2.2.2.2.2.2.1) (by kernel_rfl))
 . cases h
def Nwr:Env:=(e1k.a0K 53 Tryz.f53).a0N 53 fwr
theorem a9o:l7 Nwr:=(b1s.a0K Tryz.call53 Tryz.func53).a0N Tryz.call53 e0b
def d2h:Nat->Ann:=fun | 23=>⟨55,nn,nn⟩ | _=>⟨0,nn,nn⟩
def X7 (bt:Str) (wt:List Str):=bt++(l6 wt).fst
def X8 (bt:Str):=List.length bt
def Vsy (tn:Int) (hf:Int) (bt:Str) (rs:List Str) (wt:List Str) (pd:Prop) (dd:Decidable pd) (x:Dk) (Q:Err->Int->Int->Str->List Str->List Str->Bool->Dk->Prop):Prop :=
(pd->(Err.no (9:Int)≠Err.nil->Q (Err.no (9:Int)) tn hf bt rs wt (decide pd) x)/\(¬Err.no (9:Int)≠Err.nil->((↑wt.length:Int)=0->Q Err.nil tn hf bt rs wt (decide pd) x)/\(¬(↑wt.length:Int)=0->SmL wt/\((l6 wt).snd≠Err.nil->Q (l6 wt).snd tn hf bt rs wt (decide pd) x)/\(¬(l6 wt).snd≠Err.nil->List.length bt+List.length (l6 wt).fst<=9223372036854775807/\rs.length+wt.length<=1000000/\(x.Ok/\(0:Int)<=hf/\hf<=1/\(0:Int)<=(↑(X8 bt):Int)/\(↑(X8 bt):Int)<=(↑(List.length (X7 bt wt)):Int)/\List.length (X7 bt wt)<=5000000/\(0:Int)<=tn/\tn<=2199023255552)/\Q (o3 (Lg.mk tn hf bt rs wt (decide pd) x) hf (↑(X8 bt):Int) (X7 bt wt) (rs.append wt)).fst (o3 (Lg.mk tn hf bt rs wt (decide pd) x) hf (↑(X8 bt):Int) (X7 bt wt) (rs.append wt)).snd.turn (o3 (Lg.mk tn hf bt rs wt (decide pd) x) hf (↑(X8 bt):Int) (X7 bt wt) (rs.append wt)).snd.half (o3 (Lg.mk tn hf bt rs wt (decide pd) x) hf (↑(X8 bt):Int) (X7 bt wt) (rs.append wt)).snd.bytes (o3 (Lg.mk tn hf bt rs wt (decide pd) x) hf (↑(X8 bt):Int) (X7 bt wt) (rs.append wt)).snd.a0Y (o3 (Lg.mk tn hf bt rs wt (decide pd) x) hf (↑(X8 bt):Int) (X7 bt wt) (rs.append wt)).snd.wait (decide ((o3 (Lg.mk tn hf bt rs wt (decide pd) x) hf (↑(X8 bt):Int) (X7 bt wt) (rs.append wt)).snd.dead=true)) (o3 (Lg.mk tn hf bt rs wt (decide pd) x) hf (↑(X8 bt):Int) (X7 bt wt) (rs.append wt)).snd.d))))/\(¬pd->(Err.nil≠Err.nil->Q Err.nil tn hf bt rs wt (decide pd) x)/\(¬Err.nil≠Err.nil->((↑wt.length:Int)=0->Q Err.nil tn hf bt rs wt (decide pd) x)/\(¬(↑wt.length:Int)=0->SmL wt/\((l6 wt).snd≠Err.nil->Q (l6 wt).snd tn hf bt rs wt (decide pd) x)/\(¬(l6 wt).snd≠Err.nil->List.length bt+List.length (l6 wt).fst<=9223372036854775807/\rs.length+wt.length<=1000000/\(x.Ok/\(0:Int)<=hf/\hf<=1/\(0:Int)<=(↑(X8 bt):Int)/\(↑(X8 bt):Int)<=(↑(List.length (X7 bt wt)):Int)/\List.length (X7 bt wt)<=5000000/\(0:Int)<=tn/\tn<=2199023255552)/\Q (o3 (Lg.mk tn hf bt rs wt (decide pd) x) hf (↑(X8 bt):Int) (X7 bt wt) (rs.append wt)).fst (o3 (Lg.mk tn hf bt rs wt (decide pd) x) hf (↑(X8 bt):Int) (X7 bt wt) (rs.append wt)).snd.turn (o3 (Lg.mk tn hf bt rs wt (decide pd) x) hf (↑(X8 bt):Int) (X7 bt wt) (rs.append wt)).snd.half (o3 (Lg.mk tn hf bt rs wt (decide pd) x) hf (↑(X8 bt):Int) (X7 bt wt) (rs.append wt)).snd.bytes (o3 (Lg.mk tn hf bt rs wt (decide pd) x) hf (↑(X8 bt):Int) (X7 bt wt) (rs.append wt)).snd.a0Y (o3 (Lg.mk tn hf bt rs wt (decide pd) x) hf (↑(X8 bt):Int) (X7 bt wt) (rs.append wt)).snd.wait (decide ((o3 (Lg.mk tn hf bt rs wt (decide pd) x) hf (↑(X8 bt):Int) (X7 bt wt) (rs.append wt)).snd.dead=true)) (o3 (Lg.mk tn hf bt rs wt (decide pd) x) hf (↑(X8 bt):Int) (X7 bt wt) (rs.append wt)).snd.d))))
set_option maxHeartbeats 1000000 in
theorem psy (tn:Int) (hf:Int) (bt:Str) (rs:List Str) (wt:List Str) (pd:Prop) (dd:Decidable pd) (x:Dk) (hb:LgB (⟨tn,hf,bt,rs,wt,decide pd,x⟩:Lg)):Vsy tn hf bt rs wt pd dd x (fun y0 y1 y2 y3 y4 y5 y6 y7=>y0=(u4 (⟨tn,hf,bt,rs,wt,decide pd,x⟩:Lg)).1/\y1=((u4 (⟨tn,hf,bt,rs,wt,decide pd,x⟩:Lg)).2).turn/\y2=((u4 (⟨tn,hf,bt,rs,wt,decide pd,x⟩:Lg)).2).half/\y3=((u4 (⟨tn,hf,bt,rs,wt,decide pd,x⟩:Lg)).2).bytes/\y4=((u4 (⟨tn,hf,bt,rs,wt,decide pd,x⟩:Lg)).2).a0Y/\y5=((u4 (⟨tn,hf,bt,rs,wt,decide pd,x⟩:Lg)).2).wait/\y6=((u4 (⟨tn,hf,bt,rs,wt,decide pd,x⟩:Lg)).2).dead/\y7=((u4 (⟨tn,hf,bt,rs,wt,decide pd,x⟩:Lg)).2).d):=by
 unfold Vsy X8 X7 u4
 obtain ⟨ok,h0,h1,hb,t0,t1,hn,hw,hp⟩:=hb
 have ok:x.Ok:=ok
 have hb:bt.length<=2000000:=hb
 have hn:rs.length+wt.length<=1000000:=hn
 have hp:(l6 wt).1.length<=2000000:=hp
 have t0:0<=tn:=t0
 have t1:tn<=2199023255552:=t1
 have e9:Err.no 9≠Err.nil:=by simp
 refine ⟨fun hd=>⟨fun _=>?_,fun h=>absurd e9 h⟩,fun hd=>⟨fun h=>absurd rfl h,fun _=>⟨fun h2=>?_,fun h2=>⟨hw,fun h3=>?_,fun h3=>⟨by omega,hn,⟨ok,h0,h1,by omega,by rw [b3P]; omega,by rw [b3P]; omega,t0,t1⟩,?_⟩⟩⟩⟩⟩
 . rw [if_pos (show decide pd=true from b4R hd)]; exact ⟨rfl,rfl,rfl,rfl,rfl,rfl,rfl,rfl⟩
 . rw [if_neg (show ¬ decide pd=true from fun h=>hd (b3V h)),if_pos (show wt.length=0 by omega)]; exact ⟨rfl,rfl,rfl,rfl,rfl,rfl,rfl,rfl⟩
 . rw [if_neg (show ¬ decide pd=true from fun h=>hd (b3V h)),if_neg (show ¬ wt.length=0 by omega),if_pos h3]; exact ⟨rfl,rfl,rfl,rfl,rfl,rfl,rfl,rfl⟩
 . rw [if_neg (show ¬ decide pd=true from fun h=>hd (b3V h)),if_neg (show ¬ wt.length=0 by omega),if_neg h3]; exact ⟨rfl,rfl,rfl,rfl,rfl,rfl,by simp only [b4J]; rfl,rfl⟩
def e7p (tn:Int) (hf:Int) (bt:Str) (rs:List Str) (wt:List Str) (pd:Prop) (dd:Decidable pd) (x:Dk):FR U:=K8 Nwr [LgB (⟨tn,hf,bt,rs,wt,decide pd,x⟩:Lg)] [(0,.own 82 [.ref 1 0,.int .i64 tn,.int .i64 hf,.str bt,.acc 2,.acc 3,.bl pd dd]),(1,.ob (N:=U) 0 5 x),(2,.ac (N:=U) 9 rs),(3,.ac (N:=U) 9 wt)] 8 1 [.slot 0 (.err),.tree [] [.own (some 200) 82 [.to 1,.v (.int .i64),.v (.int .i64),.v (.str),.v (.acc 9),.v (.acc 9),.v (.bool)],.ob (some 201) 0]] ((u4 (⟨tn,hf,bt,rs,wt,decide pd,x⟩:Lg)).1,((((u4 (⟨tn,hf,bt,rs,wt,decide pd,x⟩:Lg)).2).turn,((u4 (⟨tn,hf,bt,rs,wt,decide pd,x⟩:Lg)).2).half,((u4 (⟨tn,hf,bt,rs,wt,decide pd,x⟩:Lg)).2).bytes,((u4 (⟨tn,hf,bt,rs,wt,decide pd,x⟩:Lg)).2).a0Y,((u4 (⟨tn,hf,bt,rs,wt,decide pd,x⟩:Lg)).2).wait,((u4 (⟨tn,hf,bt,rs,wt,decide pd,x⟩:Lg)).2).dead,()),((u4 (⟨tn,hf,bt,rs,wt,decide pd,x⟩:Lg)).2).d,()),())
def fsy:FC U:=⟨[],[],fun a its=>match a,its with | [.ref 0 0],[(0,.own 82 [.ref 1 0,.int .i64 tn,.int .i64 hf,.str bt,.acc 2,.acc 3,.bl pd dd]),(1,.ob 0 5 x),(2,.ac 9 rs),(3,.ac 9 wt)]=>some (e7p tn hf bt rs wt pd dd x) | _,_=>none⟩
set_option maxHeartbeats 1000000 in
theorem c70 (args:List (SV U)) (its:a7 U) (r:FR U) (h:fsy.C args its=some r) (ho:n6 r.ob):r6 Tryz.prog U eT Gl 23 args its (2 * its.length) (fun k=>n6 r.hy->k r.v r.its r.n):=by
 unfold fsy at h
 simp only at h
 split at h
 . rename_i tn hf bt pd dd x rs wt
   cases h
   exact G8 (an:=d2h 23) a9o (l5 a9o C2 d2h 3) Tryz.func23 (n:=1) rfl (vs:=[.slot 0 (.err),.tree [] [.own (some 200) 82 [.to 1,.v (.int .i64),.v (.int .i64),.v (.str),.v (.acc 9),.v (.acc 9),.v (.bool)],.ob (some 201) 0]]) (X:=((u4 (⟨tn,hf,bt,rs,wt,decide pd,x⟩:Lg)).1,((((u4 (⟨tn,hf,bt,rs,wt,decide pd,x⟩:Lg)).2).turn,((u4 (⟨tn,hf,bt,rs,wt,decide pd,x⟩:Lg)).2).half,((u4 (⟨tn,hf,bt,rs,wt,decide pd,x⟩:Lg)).2).bytes,((u4 (⟨tn,hf,bt,rs,wt,decide pd,x⟩:Lg)).2).a0Y,((u4 (⟨tn,hf,bt,rs,wt,decide pd,x⟩:Lg)).2).wait,((u4 (⟨tn,hf,bt,rs,wt,decide pd,x⟩:Lg)).2).dead,()),((u4 (⟨tn,hf,bt,rs,wt,decide pd,x⟩:Lg)).2).d,()),())) rfl (kc (psy tn hf bt rs wt pd dd x ho.1) (by kernel_rfl))
 . cases h
def Nsy:Env:=(Nwr.a0K 23 Tryz.f23).a0N 23 fsy
theorem a7f:l7 Nsy:=(a9o.a0K Tryz.call23 Tryz.func23).a0N Tryz.call23 c70
def d2b:Nat->Ann:=fun | 24=>⟨37,nn,nn⟩ | _=>⟨0,nn,nn⟩
def a0m (hf:Int):=(1:Int)-hf
def Vco (tn:Int) (hf:Int) (bt:Str) (rs:List Str) (wt:List Str) (pd:Prop) (dd:Decidable pd) (x:Dk) (l:List Str) (Q:Err->Int->Int->Str->List Str->List Str->Bool->Dk->Prop):Prop :=
(pd->(Err.no (9:Int)≠Err.nil->Q (Err.no (9:Int)) tn hf bt rs wt (decide pd) x)/\(¬Err.no (9:Int)≠Err.nil->SmL l/\((l6 l).snd≠Err.nil->Q (l6 l).snd tn hf bt rs wt (decide pd) x)/\(¬(l6 l).snd≠Err.nil->x.Ok/\(c9 x * 256<(↑(List.length (l6 l).fst):Int)->Q (Err.no (6:Int)) tn hf bt rs wt (decide (decide pd=true)) x)/\(¬c9 x * 256<(↑(List.length (l6 l).fst):Int)->i6 (a0m hf)/\l.length<=1000000/\(x.Ok/\(0:Int)<=(1:Int)-hf/\(1:Int)-hf<=1/\(0:Int)<=0/\(0:Int)<=(↑(List.length (l6 l).fst):Int)/\List.length (l6 l).fst<=5000000/\(0:Int)<=tn/\tn<=2199023255552)/\Q (o3 (Lg.mk tn hf bt rs wt (decide (decide pd=true)) x) (a0m hf) (0:Int) (l6 l).fst l).fst (o3 (Lg.mk tn hf bt rs wt (decide (decide pd=true)) x) (a0m hf) (0:Int) (l6 l).fst l).snd.turn (o3 (Lg.mk tn hf bt rs wt (decide (decide pd=true)) x) (a0m hf) (0:Int) (l6 l).fst l).snd.half (o3 (Lg.mk tn hf bt rs wt (decide (decide pd=true)) x) (a0m hf) (0:Int) (l6 l).fst l).snd.bytes (o3 (Lg.mk tn hf bt rs wt (decide (decide pd=true)) x) (a0m hf) (0:Int) (l6 l).fst l).snd.a0Y (o3 (Lg.mk tn hf bt rs wt (decide (decide pd=true)) x) (a0m hf) (0:Int) (l6 l).fst l).snd.wait (decide ((o3 (Lg.mk tn hf bt rs wt (decide (decide pd=true)) x) (a0m hf) (0:Int) (l6 l).fst l).snd.dead=true)) (o3 (Lg.mk tn hf bt rs wt (decide (decide pd=true)) x) (a0m hf) (0:Int) (l6 l).fst l).snd.d))))/\(¬pd->(Err.nil≠Err.nil->Q Err.nil tn hf bt rs wt (decide pd) x)/\(¬Err.nil≠Err.nil->SmL l/\((l6 l).snd≠Err.nil->Q (l6 l).snd tn hf bt rs wt (decide pd) x)/\(¬(l6 l).snd≠Err.nil->x.Ok/\(c9 x * 256<(↑(List.length (l6 l).fst):Int)->Q (Err.no (6:Int)) tn hf bt rs wt (decide (decide pd=true)) x)/\(¬c9 x * 256<(↑(List.length (l6 l).fst):Int)->i6 (a0m hf)/\l.length<=1000000/\(x.Ok/\(0:Int)<=(1:Int)-hf/\(1:Int)-hf<=1/\(0:Int)<=0/\(0:Int)<=(↑(List.length (l6 l).fst):Int)/\List.length (l6 l).fst<=5000000/\(0:Int)<=tn/\tn<=2199023255552)/\Q (o3 (Lg.mk tn hf bt rs wt (decide (decide pd=true)) x) (a0m hf) (0:Int) (l6 l).fst l).fst (o3 (Lg.mk tn hf bt rs wt (decide (decide pd=true)) x) (a0m hf) (0:Int) (l6 l).fst l).snd.turn (o3 (Lg.mk tn hf bt rs wt (decide (decide pd=true)) x) (a0m hf) (0:Int) (l6 l).fst l).snd.half (o3 (Lg.mk tn hf bt rs wt (decide (decide pd=true)) x) (a0m hf) (0:Int) (l6 l).fst l).snd.bytes (o3 (Lg.mk tn hf bt rs wt (decide (decide pd=true)) x) (a0m hf) (0:Int) (l6 l).fst l).snd.a0Y (o3 (Lg.mk tn hf bt rs wt (decide (decide pd=true)) x) (a0m hf) (0:Int) (l6 l).fst l).snd.wait (decide ((o3 (Lg.mk tn hf bt rs wt (decide (decide pd=true)) x) (a0m hf) (0:Int) (l6 l).fst l).snd.dead=true)) (o3 (Lg.mk tn hf bt rs wt (decide (decide pd=true)) x) (a0m hf) (0:Int) (l6 l).fst l).snd.d))))
set_option maxHeartbeats 1000000 in
theorem pco (tn:Int) (hf:Int) (bt:Str) (rs:List Str) (wt:List Str) (pd:Prop) (dd:Decidable pd) (x:Dk) (l:List Str) (hb:LgB (⟨tn,hf,bt,rs,wt,decide pd,x⟩:Lg)) (hl:SmL l):Vco tn hf bt rs wt pd dd x l (fun y0 y1 y2 y3 y4 y5 y6 y7=>y0=(s7 (⟨tn,hf,bt,rs,wt,decide pd,x⟩:Lg) l).1/\y1=((s7 (⟨tn,hf,bt,rs,wt,decide pd,x⟩:Lg) l).2).turn/\y2=((s7 (⟨tn,hf,bt,rs,wt,decide pd,x⟩:Lg) l).2).half/\y3=((s7 (⟨tn,hf,bt,rs,wt,decide pd,x⟩:Lg) l).2).bytes/\y4=((s7 (⟨tn,hf,bt,rs,wt,decide pd,x⟩:Lg) l).2).a0Y/\y5=((s7 (⟨tn,hf,bt,rs,wt,decide pd,x⟩:Lg) l).2).wait/\y6=((s7 (⟨tn,hf,bt,rs,wt,decide pd,x⟩:Lg) l).2).dead/\y7=((s7 (⟨tn,hf,bt,rs,wt,decide pd,x⟩:Lg) l).2).d):=by
 unfold Vco a0m s7
 obtain ⟨ok,h0,h1,hb,t0,t1,hn,hw,hp⟩:=hb
 have ok:x.Ok:=ok
 have h0:0<=hf:=h0
 have h1:hf<=1:=h1
 have t0:0<=tn:=t0
 have t1:tn<=2199023255552:=t1
 have e9:Err.no 9≠Err.nil:=by simp
 obtain ⟨g0,g1,_⟩:=F9 ok
 rw [show decide (decide pd=true)=decide pd from b4J]
 refine ⟨fun hd=>⟨fun _=>?_,fun h=>absurd e9 h⟩,fun hd=>⟨fun h=>absurd rfl h,fun _=>⟨hl,fun h3=>?_,fun h3=>⟨ok,fun h4=>?_,fun h4=>⟨⟨by omega,by omega⟩,hl.1,⟨ok,by omega,by omega,b5G 0,by omega,by omega,t0,t1⟩,?_⟩⟩⟩⟩⟩
 . rw [if_pos (show (⟨tn,hf,bt,rs,wt,decide pd,x⟩:Lg).dead=true from b4R hd)]; exact ⟨rfl,rfl,rfl,rfl,rfl,rfl,rfl,rfl⟩
 . rw [if_neg (show ¬ (⟨tn,hf,bt,rs,wt,decide pd,x⟩:Lg).dead=true from fun h=>hd (b3V h)),if_pos h3]; exact ⟨rfl,rfl,rfl,rfl,rfl,rfl,rfl,rfl⟩
 . rw [if_neg (show ¬ (⟨tn,hf,bt,rs,wt,decide pd,x⟩:Lg).dead=true from fun h=>hd (b3V h)),if_neg h3,if_pos (show F8 ⟨tn,hf,bt,rs,wt,decide pd,x⟩<((l6 l).1.length:Int) from h4)]; exact ⟨rfl,rfl,rfl,rfl,rfl,rfl,rfl,rfl⟩
 . rw [if_neg (show ¬ (⟨tn,hf,bt,rs,wt,decide pd,x⟩:Lg).dead=true from fun h=>hd (b3V h)),if_neg h3,if_neg (show ¬ F8 ⟨tn,hf,bt,rs,wt,decide pd,x⟩<((l6 l).1.length:Int) from h4)]; exact ⟨rfl,rfl,rfl,rfl,rfl,rfl,by simp only [b4J],rfl⟩
def e6a (tn:Int) (hf:Int) (bt:Str) (rs:List Str) (wt:List Str) (pd:Prop) (dd:Decidable pd) (x:Dk) (l:List Str):FR U:=K8 Nsy [LgB (⟨tn,hf,bt,rs,wt,decide pd,x⟩:Lg),SmL l] [(0,.own 82 [.ref 1 0,.int .i64 tn,.int .i64 hf,.str bt,.acc 2,.acc 3,.bl pd dd]),(1,.ob (N:=U) 0 5 x),(2,.ac (N:=U) 9 rs),(3,.ac (N:=U) 9 wt)] 8 1 [.slot 0 (.err),.tree [] [.own (some 200) 82 [.to 1,.v (.int .i64),.v (.int .i64),.v (.str),.v (.acc 9),.v (.acc 9),.v (.bool)],.ob (some 201) 0]] ((s7 (⟨tn,hf,bt,rs,wt,decide pd,x⟩:Lg) l).1,((((s7 (⟨tn,hf,bt,rs,wt,decide pd,x⟩:Lg) l).2).turn,((s7 (⟨tn,hf,bt,rs,wt,decide pd,x⟩:Lg) l).2).half,((s7 (⟨tn,hf,bt,rs,wt,decide pd,x⟩:Lg) l).2).bytes,((s7 (⟨tn,hf,bt,rs,wt,decide pd,x⟩:Lg) l).2).a0Y,((s7 (⟨tn,hf,bt,rs,wt,decide pd,x⟩:Lg) l).2).wait,((s7 (⟨tn,hf,bt,rs,wt,decide pd,x⟩:Lg) l).2).dead,()),((s7 (⟨tn,hf,bt,rs,wt,decide pd,x⟩:Lg) l).2).d,()),())
def fco:FC U:=⟨[1],[],fun a its=>match a,its with | [.ref 0 0,.sl 9 l],[(0,.own 82 [.ref 1 0,.int .i64 tn,.int .i64 hf,.str bt,.acc 2,.acc 3,.bl pd dd]),(1,.ob 0 5 x),(2,.ac 9 rs),(3,.ac 9 wt)]=>some (e6a tn hf bt rs wt pd dd x l) | _,_=>none⟩
set_option maxHeartbeats 1000000 in
theorem d07 (args:List (SV U)) (its:a7 U) (r:FR U) (h:fco.C args its=some r) (ho:n6 r.ob):r6 Tryz.prog U eT Gl 24 args its (2 * its.length) (fun k=>n6 r.hy->k r.v r.its r.n):=by
 unfold fco at h
 simp only at h
 split at h
 . rename_i l tn hf bt pd dd x rs wt
   cases h
   exact G8 (an:=d2b 24) a7f (l5 a7f C2 d2b 3) Tryz.func24 (n:=1) rfl (vs:=[.slot 0 (.err),.tree [] [.own (some 200) 82 [.to 1,.v (.int .i64),.v (.int .i64),.v (.str),.v (.acc 9),.v (.acc 9),.v (.bool)],.ob (some 201) 0]]) (X:=((s7 (⟨tn,hf,bt,rs,wt,decide pd,x⟩:Lg) l).1,((((s7 (⟨tn,hf,bt,rs,wt,decide pd,x⟩:Lg) l).2).turn,((s7 (⟨tn,hf,bt,rs,wt,decide pd,x⟩:Lg) l).2).half,((s7 (⟨tn,hf,bt,rs,wt,decide pd,x⟩:Lg) l).2).bytes,((s7 (⟨tn,hf,bt,rs,wt,decide pd,x⟩:Lg) l).2).a0Y,((s7 (⟨tn,hf,bt,rs,wt,decide pd,x⟩:Lg) l).2).wait,((s7 (⟨tn,hf,bt,rs,wt,decide pd,x⟩:Lg) l).2).dead,()),((s7 (⟨tn,hf,bt,rs,wt,decide pd,x⟩:Lg) l).2).d,()),())) rfl (kc (pco tn hf bt rs wt pd dd x l ho.1 ho.2.1) (by kernel_rfl))
 . cases h
def Nco:Env:=(Nsy.a0K 24 Tryz.f24).a0N 24 fco
theorem b7u:l7 Nco:=(a7f.a0K Tryz.call24 Tryz.func24).a0N Tryz.call24 d07
def e37:Nat->Ann:=fun | 19=>⟨9,nn,nn⟩ | _=>⟨0,nn,nn⟩
def Vtu (tn:Int) (hf:Int) (bt:Str) (rs:List Str) (wt:List Str) (pd:Prop) (dd:Decidable pd) (x:Dk) (Q:Int->Int->Int->Str->List Str->List Str->Bool->Dk->Prop):Prop :=
Q tn tn hf bt rs wt (decide pd) x
theorem ptu (tn:Int) (hf:Int) (bt:Str) (rs:List Str) (wt:List Str) (pd:Prop) (dd:Decidable pd) (x:Dk)  : Vtu tn hf bt rs wt pd dd x (fun y0 y1 y2 y3 y4 y5 y6 y7=>y0=tn/\y1=tn/\y2=hf/\y3=bt/\y4=rs/\y5=wt/\y6=(decide pd)/\y7=x):=by
 unfold Vtu
 exact ⟨rfl,rfl,rfl,rfl,rfl,rfl,rfl,rfl⟩
def e6g (tn:Int) (hf:Int) (bt:Str) (rs:List Str) (wt:List Str) (pd:Prop) (dd:Decidable pd) (x:Dk):FR U:=K8 Nco [] [(0,.own 82 [.ref 1 0,.int .i64 tn,.int .i64 hf,.str bt,.acc 2,.acc 3,.bl pd dd]),(1,.ob (N:=U) 0 5 x),(2,.ac (N:=U) 9 rs),(3,.ac (N:=U) 9 wt)] 8 1 [.slot 0 (.int .i64),.tree [] [.own (some 200) 82 [.to 1,.v (.int .i64),.v (.int .i64),.v (.str),.v (.acc 9),.v (.acc 9),.v (.bool)],.ob (some 201) 0]] (tn,((tn,hf,bt,rs,wt,(decide pd),()),x,()),())
def ftu:FC U:=⟨[],[],fun a its=>match a,its with | [.ref 0 0],[(0,.own 82 [.ref 1 0,.int .i64 tn,.int .i64 hf,.str bt,.acc 2,.acc 3,.bl pd dd]),(1,.ob 0 5 x),(2,.ac 9 rs),(3,.ac 9 wt)]=>some (e6g tn hf bt rs wt pd dd x) | _,_=>none⟩
theorem e1l (args:List (SV U)) (its:a7 U) (r:FR U) (h:ftu.C args its=some r) (ho:n6 r.ob):r6 Tryz.prog U eT Gl 19 args its (2 * its.length) (fun k=>n6 r.hy->k r.v r.its r.n):=by
 unfold ftu at h
 simp only at h
 split at h
 . rename_i tn hf bt pd dd x rs wt
   cases h
   exact G8 (an:=e37 19) b7u (l5 b7u C2 e37 3) Tryz.func19 (n:=1) rfl (vs:=[.slot 0 (.int .i64),.tree [] [.own (some 200) 82 [.to 1,.v (.int .i64),.v (.int .i64),.v (.str),.v (.acc 9),.v (.acc 9),.v (.bool)],.ob (some 201) 0]]) (X:=(tn,((tn,hf,bt,rs,wt,(decide pd),()),x,()),())) rfl (kc (ptu tn hf bt rs wt pd dd x ) (by kernel_rfl))
 . cases h
def Ntu:Env:=(Nco.a0K 19 Tryz.f19).a0N 19 ftu
theorem b8k:l7 Ntu:=(b7u.a0K Tryz.call19 Tryz.func19).a0N Tryz.call19 e1l
def d6b:Nat->Ann:=fun | 16=>⟨10,nn,nn⟩ | _=>⟨0,nn,nn⟩
def e34 (tn:Int) (hf:Int) (bt:Str) (rs:List Str) (wt:List Str) (pd:Prop) (dd:Decidable pd) (x:Dk) (Q:Int->Int->Int->Str->List Str->List Str->Bool->Dk->Prop):Prop :=
Q (↑wt.length:Int) tn hf bt rs wt (decide pd) x
theorem e7h (tn:Int) (hf:Int) (bt:Str) (rs:List Str) (wt:List Str) (pd:Prop) (dd:Decidable pd) (x:Dk)  : e34 tn hf bt rs wt pd dd x (fun y0 y1 y2 y3 y4 y5 y6 y7=>y0=(wt.length:Int)/\y1=tn/\y2=hf/\y3=bt/\y4=rs/\y5=wt/\y6=(decide pd)/\y7=x):=by
 unfold e34
 exact ⟨rfl,rfl,rfl,rfl,rfl,rfl,rfl,rfl⟩
def e65 (tn:Int) (hf:Int) (bt:Str) (rs:List Str) (wt:List Str) (pd:Prop) (dd:Decidable pd) (x:Dk):FR U:=K8 Ntu [] [(0,.own 82 [.ref 1 0,.int .i64 tn,.int .i64 hf,.str bt,.acc 2,.acc 3,.bl pd dd]),(1,.ob (N:=U) 0 5 x),(2,.ac (N:=U) 9 rs),(3,.ac (N:=U) 9 wt)] 8 1 [.slot 0 (.int .i64),.tree [] [.own (some 200) 82 [.to 1,.v (.int .i64),.v (.int .i64),.v (.str),.v (.acc 9),.v (.acc 9),.v (.bool)],.ob (some 201) 0]] ((wt.length:Int),((tn,hf,bt,rs,wt,(decide pd),()),x,()),())
def d8b:FC U:=⟨[],[],fun a its=>match a,its with | [.ref 0 0],[(0,.own 82 [.ref 1 0,.int .i64 tn,.int .i64 hf,.str bt,.acc 2,.acc 3,.bl pd dd]),(1,.ob 0 5 x),(2,.ac 9 rs),(3,.ac 9 wt)]=>some (e65 tn hf bt rs wt pd dd x) | _,_=>none⟩
theorem d4r (args:List (SV U)) (its:a7 U) (r:FR U) (h:d8b.C args its=some r) (ho:n6 r.ob):r6 Tryz.prog U eT Gl 16 args its (2 * its.length) (fun k=>n6 r.hy->k r.v r.its r.n):=by
 unfold d8b at h
 simp only at h
 split at h
 . rename_i tn hf bt pd dd x rs wt
   cases h
   exact G8 (an:=d6b 16) b8k (l5 b8k C2 d6b 3) Tryz.func16 (n:=1) rfl (vs:=[.slot 0 (.int .i64),.tree [] [.own (some 200) 82 [.to 1,.v (.int .i64),.v (.int .i64),.v (.str),.v (.acc 9),.v (.acc 9),.v (.bool)],.ob (some 201) 0]]) (X:=((wt.length:Int),((tn,hf,bt,rs,wt,(decide pd),()),x,()),())) rfl (kc (e7h tn hf bt rs wt pd dd x ) (by kernel_rfl))
 . cases h
def e1x:Env:=(Ntu.a0K 16 Tryz.f16).a0N 16 d8b
theorem b3i:l7 e1x:=(b8k.a0K Tryz.call16 Tryz.func16).a0N Tryz.call16 d4r
def d5s:Nat->Ann:=fun | 14=>⟨10,nn,nn⟩ | _=>⟨0,nn,nn⟩
def e62 (tn:Int) (hf:Int) (bt:Str) (rs:List Str) (wt:List Str) (pd:Prop) (dd:Decidable pd) (x:Dk) (Q:List Str->Int->Int->Str->List Str->List Str->Bool->Dk->Prop):Prop :=
rs.length<=1000000/\Q rs tn hf bt rs wt (decide pd) x
theorem prec (tn:Int) (hf:Int) (bt:Str) (rs:List Str) (wt:List Str) (pd:Prop) (dd:Decidable pd) (x:Dk) (h0:rs.length<=1000000):e62 tn hf bt rs wt pd dd x (fun y0 y1 y2 y3 y4 y5 y6 y7=>y0=rs/\y1=tn/\y2=hf/\y3=bt/\y4=rs/\y5=wt/\y6=(decide pd)/\y7=x):=by
 unfold e62
 exact ⟨h0,rfl,rfl,rfl,rfl,rfl,rfl,rfl,rfl⟩
def e3o (tn:Int) (hf:Int) (bt:Str) (rs:List Str) (wt:List Str) (pd:Prop) (dd:Decidable pd) (x:Dk):FR U:=K8 e1x [List.length (α:=Str) rs<=1000000] [(0,.own 82 [.ref 1 0,.int .i64 tn,.int .i64 hf,.str bt,.acc 2,.acc 3,.bl pd dd]),(1,.ob (N:=U) 0 5 x),(2,.ac (N:=U) 9 rs),(3,.ac (N:=U) 9 wt)] 8 1 [.slot 0 (.acc 9),.tree [] [.own (some 200) 82 [.to 1,.v (.int .i64),.v (.int .i64),.v (.str),.v (.acc 9),.v (.acc 9),.v (.bool)],.ob (some 201) 0]] (rs,((tn,hf,bt,rs,wt,(decide pd),()),x,()),())
def d8j:FC U:=⟨[],[],fun a its=>match a,its with | [.ref 0 0],[(0,.own 82 [.ref 1 0,.int .i64 tn,.int .i64 hf,.str bt,.acc 2,.acc 3,.bl pd dd]),(1,.ob 0 5 x),(2,.ac 9 rs),(3,.ac 9 wt)]=>some (e3o tn hf bt rs wt pd dd x) | _,_=>none⟩
theorem d5b (args:List (SV U)) (its:a7 U) (r:FR U) (h:d8j.C args its=some r) (ho:n6 r.ob):r6 Tryz.prog U eT Gl 14 args its (2 * its.length) (fun k=>n6 r.hy->k r.v r.its r.n):=by
 unfold d8j at h
 simp only at h
 split at h
 . rename_i tn hf bt pd dd x rs wt
   cases h
   exact G8 (an:=d5s 14) b3i (l5 b3i C2 d5s 3) Tryz.func14 (n:=1) rfl (vs:=[.slot 0 (.acc 9),.tree [] [.own (some 200) 82 [.to 1,.v (.int .i64),.v (.int .i64),.v (.str),.v (.acc 9),.v (.acc 9),.v (.bool)],.ob (some 201) 0]]) (X:=(rs,((tn,hf,bt,rs,wt,(decide pd),()),x,()),())) rfl (kc (prec tn hf bt rs wt pd dd x ho.1) (by kernel_rfl))
 . cases h
def e3s:Env:=(e1x.a0K 14 Tryz.f14).a0N 14 d8j
theorem b3x:l7 e3s:=(b3i.a0K Tryz.call14 Tryz.func14).a0N Tryz.call14 d5b
def e5y:Nat->Ann:=fun | 6=>⟨15,fun | 4=>some ⟨[0],[.slot 3 (.int .i64)]⟩ | _=>none,nn⟩ | _=>⟨0,nn,nn⟩
def Vno (e:Err) (Q:Int->Prop):Prop :=
(e=Err.nil->Q (0:Int))/\(¬e=Err.nil->∃ (I:Int->Prop),∃ (m:Int->Nat),I (1:Int)/\∀ (x:Int),I x->(x<=16->(e.is x->Q x)/\(¬e.is x->i6 (x+1)/\I (x+1)/\m (x+1)<m x))/\(¬x<=16->Q (-1:Int)))
theorem b5b {e:Err} {n:Int} (h:¬ e=.nil) (hn:e.num=some n):e.nr=if 1<=n/\n<=16 then n else -1:=by
 cases e with
 | nil=>exact absurd rfl h
 | _=>unfold Err.nr; simp only [hn]
theorem d0m {e:Err} (h:¬ e=.nil) (hn:e.num=none):e.nr=-1:=by
 cases e with
 | nil=>exact absurd rfl h
 | _=>unfold Err.nr; simp only [hn]
theorem pno (e:Err)  : Vno e (fun y0=>y0=e.nr):=by
 unfold Vno
 refine ⟨fun h=>by subst h; rfl,fun h=>⟨fun x=>1<=x/\x<=17/\∀ j:Int,1<=j->j<x->¬ e.is j,fun x=>(17-x).toNat,⟨by omega,by omega,fun j _ _=>by omega⟩,?_⟩⟩
 rintro x ⟨h0,h1,h2⟩
 refine ⟨fun hx=>⟨fun hi=>?_,fun hi=>⟨⟨by omega,by omega⟩,⟨by omega,by omega,fun j j0 j1=>?_⟩,by dsimp only; omega⟩⟩,fun hx=>?_⟩
 . have hi:e.num=some x:=hi
   rw [b5b h hi,if_pos ⟨h0,hx⟩]
 . by_cases e1:j=x
   . subst e1; exact hi
   . exact h2 j j0 (by omega)
 . cases hn:e.num with
   | none=>rw [d0m h hn]
   | some n=>rw [b5b h hn,if_neg (fun hh=>h2 n hh.1 (by omega) hn)]
def cno (a:List (SV U)):Option (Q1 U):=match a with | [.err e]=>some ⟨[],[],.int .i64 e.nr⟩ | _=>none
def Nno:Env:=e3s.a1R 6 cno
theorem b7j:l7 Nno:=b3x.a1R Tryz.call6 fun (args:List (SV U)) (q:Q1 U) (h:cno args=some q) ho=>by
 unfold cno at h
 split at h
 . rename_i e
   cases h
   exact a05 (an:=e5y 6) b3x (l5 b3x C2 e5y 2) Tryz.func6 (k:=.int .i64) (x:=e.nr) trivial (kc (pno e ) (by kernel_rfl)) 0
 . cases h
def c5n:Nat->Ann:=fun | 13=>⟨26,fun | 4=>some ⟨[0,1],[.slot 5 (.int .i64)]⟩ | _=>none,nn⟩ | _=>⟨0,nn,nn⟩
def d6l (a:List Str) (b:List Str) (Q:Bool->Prop):Prop :=
((↑a.length:Int)≠(↑b.length:Int)->Q false)/\(¬(↑a.length:Int)≠(↑b.length:Int)->∃ (I:Int->Prop),∃ (m:Int->Nat),I (0:Int)/\∀ (x:Int),I x->(x<(↑a.length:Int)->(0:Int)<=x/\x<(↑a.length:Int)/\(0:Int)<=x/\x<(↑b.length:Int)/\(ix a x≠ix b x->Q false)/\(¬ix a x≠ix b x->i6 (x+1)/\I (x+1)/\m (x+1)<m x))/\(¬x<(↑a.length:Int)->Q true))
theorem e3a (a:List Str) (b:List Str) (ha:a.length<=1000000):d6l a b (fun y0=>y0=v7 a b):=by
 unfold d6l v7
 refine ⟨fun h=>(b5K (p:=a=b) fun e=>h (by rw [e])).symm,fun h=>?_⟩
 have hl:a.length=b.length:=by omega
 refine ⟨fun i=>0<=i/\∀ j:Int,0<=j->j<i->ix a j=ix b j,fun i=>((a.length:Int)-i).toNat,⟨by omega,fun j h0 h1=>absurd h1 (by omega)⟩,?_⟩
 rintro i ⟨i0,hi⟩
 refine ⟨fun h1=>⟨i0,h1,i0,by omega,fun hn=>(b5K (p:=a=b) fun e=>hn (by rw [e])).symm,fun he=>⟨⟨by omega,by omega⟩,⟨by omega,fun j j0 j1=>?_⟩,by dsimp only; omega⟩⟩,fun h1=>(b4R (p:=a=b) (e29 hl fun j j0 j1=>hi j j0 (by omega))).symm⟩
 by_cases e:j=i
 . subst e; exact b4N.1 he
 . exact hi j j0 (by omega)
def c7m (a:List (SV U)):Option (Q1 U):=match a with | [.sl 9 a,.sl 9 b]=>some ⟨[List.length (α:=Str) a<=1000000],[],blB (v7 a b)⟩ | _=>none
def c0t:Env:=Nno.a1R 13 c7m
theorem a1i:l7 c0t:=b7j.a1R Tryz.call13 fun (args:List (SV U)) (q:Q1 U) (h:c7m args=some q) ho=>by
 unfold c7m at h
 split at h
 . rename_i a b
   cases h
   exact a05 (an:=c5n 13) b7j (l5 b7j C2 c5n 2) Tryz.func13 (k:=.bool) (x:=v7 a b) trivial (kc (e3a a b ho.1) (by kernel_rfl)) 0
 . cases h
end Go.Proofs.YtckpdliipjekgaaGreat
end
section
namespace Go.Proofs.YtckpdliipjekgaaGreat
open Go Go.Wk Go.Wl Go.Rx Go.Wa Go.Wa
theorem b0u (x:Int):((UInt8.ofInt x).toNat:Int)=x % 256:=by
 unfold UInt8.ofInt
 have h:(0:Int)<=x % 256:=Int.emod_nonneg _ (by decide)
 have h2:x % 256<256:=Int.emod_lt_of_pos _ (by decide)
 show (((UInt8.ofNat (x % 2 ^ 8).toNat).toNat:Nat):Int)=_
 rw [b8M]
 have e:(x % 2 ^ 8:Int)=x % 256:=rfl
 rw [e]
 omega
theorem a6r:∀ (k:Nat) (x:Int),0<=x->x<256 ^ k->leN (leB x k)=x
 | 0,x,h0,h1=>by
  have h1:x<1:=h1
  show (0:Int)=x
  omega
 | k+1,x,h0,h1=>by
  have e:x.fdiv 256=x / 256:=b5W _ (by decide)
  have h1:x<256 ^ k * 256:=by rw [<- c0E]; exact h1
  unfold leB leN
  rw [a6r k (x.fdiv 256) (by omega) (by rw [e]; omega),b0u,e]
  omega
theorem a02 {a b:Str} {n:Nat} (h:a.length=n):(a++b).take n=a:=by rw [<- h,List.take_left]
theorem a1u {a b:Str} {n:Nat} (h:a.length=n):(a++b).drop n=b:=by rw [<- h,List.drop_left]
theorem c9n {x:Int} (h0:0<=x) (h1:x<4294967296):R6 (leB x 4)=x:=by
 unfold R6
 rw [a6r 4 x h0 h1,W3]
 omega
theorem b0x {r t:Str} (h:r.length<=30000):C4 (B4 r++t)=(r,t,.nil):=by
 have hs:B4 r++t=H7 r++(leB (K7 [H7 r,r]) 4++(r++t)):=by
  unfold B4; simp only [b4L]
 have h3:=a7a r
 have h4:(leB (K7 [H7 r,r]) 4).length=4:=D7 _ _
 have e3:(B4 r++t).take 3=H7 r:=by rw [hs]; exact a02 h3
 have e7:(B4 r++t).take 7=H7 r++leB (K7 [H7 r,r]) 4:=by
  rw [hs,<- b4L]; exact a02 (by rw [b3P,h3,h4])
 have eL:C7 (B4 r++t)=(r.length:Int):=by
  unfold C7
  rw [e3]
  unfold H7
  rw [a6r 3 _ (by omega) (show (r.length:Int)+1<16777216 by omega)]
  omega
 have hf:(B4 r).length=7+r.length:=a0e r
 have hn:(7+(r.length:Int)).toNat=7+r.length:=by omega
 have et:(B4 r++t).take (7+(r.length:Int)).toNat=B4 r:=by rw [hn]; exact a02 hf
 have ed:(B4 r).drop 7=r:=by
  have:B4 r=(H7 r++leB (K7 [H7 r,r]) 4)++r:=rfl
  rw [this]; exact a1u (by rw [b3P,h3,h4])
 have e43:((B4 r++t).take 7).drop 3=leB (K7 [H7 r,r]) 4:=by rw [e7]; exact a1u h3
 obtain ⟨s0,s1⟩:=a4j [H7 r,r]
 have hlen:((B4 r++t).length:Int)=7+r.length+t.length:=by rw [b3P,hf]; omega
 unfold C4
 rw [eL,et,ed,e3,e43,c9n s0 s1,hlen,if_neg (by omega),if_neg (by omega),if_neg (by omega),if_neg (fun h=>h rfl),hn,a1u hf]
theorem b3g:C4 []=([],[],.w 144 [] (.no 4)):=by
 unfold C4
 rw [if_pos (show ((([]:Str).length:Nat):Int)<7 by decide)]
theorem R4:∀ (l:List Str),ShL l->o4 (i7 l)=l/\D8 (i7 l)=[]
 | [],_=>by
  have e:i7 []=[]:=rfl
  have hn:(C4 []).2.2≠.nil:=by rw [b3g]; simp
  rw [e,P2 hn,U2 hn]; exact ⟨rfl,rfl⟩
 | r::t,h=>by
  have e:i7 (r::t)=B4 r++i7 t:=by unfold i7; rw [b4W,b6C]
  have h1:=b0x (t:=i7 t) (h r (b6B ..))
  obtain ⟨g1,g2⟩:=R4 t fun s hs=>h s (b5O _ hs)
  have hn:(C4 (B4 r++i7 t)).2.2=.nil:=by rw [h1]
  rw [e,U0 hn,U3 hn,h1]
  exact ⟨by rw [g1],g2⟩
def Q7 (x:Dk) (i:Int):Str:=(s9 x.fresh i).getD (ix x.a0B i)
structure Pow (x:Dk):Prop where
 ok:x.Ok
 left:x.left=-1
 off:x.off=false
theorem b63 {x:Dk} (p:Pow x) {i:Int} (h0:0<=i) (h1:i<x.a0B.length):x.read i=(Q7 x i,0):=by
 unfold Dk.read
 rw [show x.a0I i=0 from by rw [Dk.a0I,if_neg (by omega)],if_neg (by decide),p.off,if_neg (by decide)]; rfl
theorem c40 {x:Dk} (p:Pow x) {a:Int} {b:Str} (h0:0<=a) (h1:a<x.a0B.length) (hb:b.length=256):(x.write a b).1=0/\Pow (x.write a b).2/\(x.write a b).2.a0B=x.a0B/\∀ i,Q7 (x.write a b).2 i=if a=i then b else Q7 x i:=by
 have h:=c5m p.left p.off h0 h1 hb
 have ok:=a01 p.ok a b
 rw [h] at ok ⊢
 refine ⟨rfl,⟨ok,p.left,p.off⟩,rfl,fun i=>?_⟩
 show (s9 (O4 x.fresh a b) i).getD (ix x.a0B i)=_
 rw [b44]
 by_cases e:a=i
 . rw [if_pos e.symm,if_pos e]; rfl
 . rw [if_neg fun h=>e h.symm,if_neg e]; rfl
theorem a0b:∀ (l:List Str) {x:Dk} {a:Int},Pow x->0<=a->a+l.length<=x.a0B.length->(∀ s∈l,s.length=256) ->
  (a8 x a l).1=.nil/\Pow (a8 x a l).2/\(a8 x a l).2.fresh=[]/\(a8 x a l).2.a0B.length=x.a0B.length/\∀ i:Int,0<=i->i<x.a0B.length->ix (a8 x a l).2.a0B i=if a<=i/\i<a+l.length then ix l (i-a) else Q7 x i
 | [],x,a,p,h0,h1,_=>by
  obtain ⟨g1,g2,g3,g4,g5,g6⟩:=b5p p.ok p.left p.off
  unfold a8
  rw [g1]
  refine ⟨d5g (w:=sFl),⟨a4g p.ok,g5,g6⟩,g4,g2,fun i i0 i1=>?_⟩
  rw [if_neg (by rw [b5R]; omega)]
  exact g3 i i0 i1
 | b::r,x,a,p,h0,h1,hl=>by
  rw [b4F] at h1
  obtain ⟨g1,g2,g3,g4⟩:=c40 p h0 (by omega) (hl b (b6B ..))
  obtain ⟨k1,k2,k3,k4,k5⟩:=a0b r (x:=(x.write a b).2) (a:=a+1) g2 (by omega) (by rw [g3]; omega) fun s hs=>hl s (b5O _ hs)
  unfold a8
  rw [if_pos g1]
  rw [g3] at k4 k5
  refine ⟨k1,k2,k3,k4,fun i i0 i1=>?_⟩
  rw [k5 i i0 i1,b4F]
  by_cases e:a=i
  . subst e
    rw [if_neg (by omega),if_pos (by omega),g4,if_pos rfl,Int.sub_self]; rfl
  . rw [g4,if_neg e]
    by_cases e2:a+1<=i/\i<a+1+r.length
    . rw [if_pos e2,if_pos (by omega)]
      have e3:i-a=(i-(a+1))+1:=by omega
      rw [e3]
      have hn:(i-(a+1)).toNat<r.length:=by omega
      rw [C5 (l:=r) (by omega),C5 (l:=b::r) (by rw [b4F]; omega)]
      have e4:(i-(a+1)+1).toNat=(i-(a+1)).toNat+1:=by omega
      simp only [e4,List.getElem_cons_succ]
    . rw [if_neg e2,if_neg (by omega)]
theorem d1k {s:Str} (h:s.length=256):Y4 s=s:=by
 unfold Y4
 rw [b4Q (by omega),h,b8P,b7R,b4M]
theorem a29 (s:Str):∀ t∈o8 s,t.length=256:=by
 by_cases h:s.length=0
 . rw [a4x h]; intro t ht; cases ht
 . rw [P8 h]
   intro t ht
   rcases b4D.1 ht with e | ht
   . subst e; exact d2v s
   . exact a29 (s.drop 256) t ht
termination_by s.length
decreasing_by rw [b3W]; omega
theorem H8 (s:Str):(o8 s).length=(s.length+255) / 256:=by
 by_cases h:s.length=0
 . rw [a4x h,h]; rfl
 . rw [P8 h,b4F,H8 (s.drop 256),b3W]
   omega
termination_by s.length
decreasing_by rw [b3W]; omega
theorem a2h (s:Str) (j:Nat) (hj:j<(o8 s).length):(o8 s)[j]=Y4 (s.drop (256 * j)):=by
 by_cases h:s.length=0
 . rw [H8,h] at hj; omega
 . cases j with
   | zero=>simp only [P8 h,List.getElem_cons_zero,Nat.mul_zero,b7E]
   | succ j =>
    have hj2:j<(o8 (s.drop 256)).length:=by rw [P8 h,b4F] at hj; omega
    simp only [P8 h,List.getElem_cons_succ]
    rw [a2h (s.drop 256) j hj2,b6R,show 256+256 * j=256 * (j+1) by omega]
termination_by s.length
decreasing_by rw [b3W]; omega
theorem a2d (t h n:Int):o8 (q5 t h n)=[q5 t h n]:=by
 have hl:=a1o t h n
 rw [P8 (by omega),d1k hl,a4x (by rw [b3W]; omega)]
structure Put (x y:Dk) (F:Int->Option Str):Prop where
 pow:Pow y
 fresh:y.fresh=[]
 len:y.a0B.length=x.a0B.length
 at_:∀ i:Int,0<=i->i<x.a0B.length->ix y.a0B i=(F i).getD (Q7 x i)
theorem b6f {g:Lg} {hh th:Int} {by_:Str} {rc:List Str} (p:Pow g.d) (hl:2<=g.d.a0B.length) (t0:0<=g.turn) :
  ∃ y,V4 g hh th by_ rc=(.nil,⟨g.turn+1,hh,by_,rc,[],g.dead,y⟩)/\Put g.d y (fun i=>if i=(g.turn+1).tmod 2 then some (q5 (g.turn+1) hh (by_.length:Int)) else none):=by
 have tm:0<=(g.turn+1).tmod 2/\(g.turn+1).tmod 2<=1:=by rw [b5I (by omega)]; omega
 have hs:=a2d (g.turn+1) hh (by_.length:Int)
 obtain ⟨k1,k2,k3,k4,k5⟩:=a0b (o8 (q5 (g.turn+1) hh (by_.length:Int))) (a:=(g.turn+1).tmod 2) p tm.1 (by rw [hs,b4Y]; omega) (a29 _)
 refine ⟨_,?_,k2,k3,k4,fun i i0 i1=>?_⟩
 . unfold V4
   rw [if_neg (by rw [k1]; simp)]
 . rw [k5 i i0 i1]
   simp only [hs,b4Y]
   by_cases e:i=(g.turn+1).tmod 2
   . rw [if_pos (by omega),if_pos e,e,Int.sub_self]; rfl
   . rw [if_neg (by omega),if_neg e]; rfl
def P9 (x:Dk) (tn hh th:Int) (by_:Str) (i:Int):Option Str :=
 if i=(tn+1).tmod 2 then some (q5 (tn+1) hh (by_.length:Int)) else
 if th≠(by_.length:Int)/\2+hh * c9 x+th / 256<=i/\i<2+hh * c9 x+((by_.length:Int)+255) / 256 then some (Y4 (by_.drop (256 * (i-2-hh * c9 x)).toNat)) else none
theorem b0b {g:Lg} {hh th:Int} {by_:Str} {rc:List Str} (p:Pow g.d) (hl:6<=g.d.a0B.length) (t0:0<=g.turn) (h0:0<=hh) (h1:hh<=1) (h2:0<=th) (h3:th<=(by_.length:Int)) (h4:(by_.length:Int)<=F8 g) :
  ∃ y,o3 g hh th by_ rc=(.nil,⟨g.turn+1,hh,by_,rc,[],g.dead,y⟩)/\Put g.d y (P9 g.d g.turn hh th by_):=by
 obtain ⟨f0,f1,f2⟩:=F9 p.ok
 have f2:=f2 (by omega)
 have tm:0<=(g.turn+1).tmod 2/\(g.turn+1).tmod 2<=1:=by rw [b5I (by omega)]; omega
 have e0:th.tdiv 256=th / 256:=b5P h2
 have h4:(by_.length:Int)<=c9 g.d * 256:=h4
 have hm:hh * c9 g.d=0 ∨ hh * c9 g.d=c9 g.d:=by
  have hh':hh=0 ∨ hh=1:=by omega
  rcases hh' with e | e
  . left; rw [e,b8B]
  . right; rw [e,b8G]
 by_cases ht:th=(by_.length:Int)
 . obtain ⟨g1,g2,g3,g4,g5,g6⟩:=b5p p.ok p.left p.off
   have hne:¬ inE sFl (erN g.d.flush.1)≠.nil:=by rw [g1,d5g (w:=sFl)]; simp
   obtain ⟨y,e1,q⟩:=b6f (g:={ g with d:=g.d.flush.2 }) (hh:=hh) (th:=th) (by_:=by_) (rc:=rc) ⟨a4g p.ok,g5,g6⟩ (by show 2<=g.d.flush.2.a0B.length; omega) t0
   refine ⟨y,?_,q.pow,q.fresh,q.len.trans g2,fun i i0 i1=>?_⟩
   . unfold o3; rw [if_pos ht,if_neg hne]; exact e1
   . have hi:=q.at_ i i0 (by show i<(g.d.flush.2.a0B.length:Int); omega)
     rw [hi]
     unfold P9
     by_cases e:i=(g.turn+1).tmod 2
     . rw [if_pos e,if_pos e]; rfl
     . rw [if_neg e,if_neg e,if_neg (fun h=>h.1 ht)]
       show Q7 g.d.flush.2 i=Q7 g.d i
       unfold Q7
       rw [g4,g3 i i0 i1]; rfl
 . have hs:=H8 (by_.drop (th.tdiv 256 * 256).toNat)
   rw [b3W] at hs
   have hr:0<=hh * c9 g.d/\hh * c9 g.d<=c9 g.d:=by omega
   obtain ⟨k1,k2,k3,k4,k5⟩:=a0b (o8 (by_.drop (th.tdiv 256 * 256).toNat)) (x:=g.d) (a:=2+hh * c9 g.d+th.tdiv 256) p (by omega) (by rw [hs]; omega) (a29 _)
   have hne:¬ (a8 g.d (2+hh * c9 g.d+th.tdiv 256) (o8 (by_.drop (th.tdiv 256 * 256).toNat))).1≠.nil:=by rw [k1]; simp
   obtain ⟨y,e1,q⟩:=b6f (g:={ g with d:=(a8 g.d (2+hh * c9 g.d+th.tdiv 256) (o8 (by_.drop (th.tdiv 256 * 256).toNat))).2 }) (hh:=hh) (th:=th) (by_:=by_) (rc:=rc) k2 (by show 2<=(a8 g.d (2+hh * c9 g.d+th.tdiv 256) (o8 (by_.drop (th.tdiv 256 * 256).toNat))).2.a0B.length; omega) t0
   refine ⟨y,?_,q.pow,q.fresh,q.len.trans k4,fun i i0 i1=>?_⟩
   . unfold o3; rw [if_neg ht,if_neg hne]; exact e1
   . have hi:=q.at_ i i0 (by show i<((a8 g.d (2+hh * c9 g.d+th.tdiv 256) (o8 (by_.drop (th.tdiv 256 * 256).toNat))).2.a0B.length:Int); omega)
     rw [hi]
     unfold P9
     by_cases e:i=(g.turn+1).tmod 2
     . rw [if_pos e,if_pos e]; rfl
     . rw [if_neg e,if_neg e]
       show Q7 (a8 g.d (2+hh * c9 g.d+th.tdiv 256) (o8 (by_.drop (th.tdiv 256 * 256).toNat))).2 i=_
       unfold Q7
       rw [k3]
       show ix (a8 g.d (2+hh * c9 g.d+th.tdiv 256) (o8 (by_.drop (th.tdiv 256 * 256).toNat))).2.a0B i=_
       rw [k5 i i0 i1]
       by_cases e2:2+hh * c9 g.d+th / 256<=i/\i<2+hh * c9 g.d+((by_.length:Int)+255) / 256
       . rw [if_pos (by rw [hs]; omega),if_pos ⟨ht,e2⟩]
         have hj:(i-(2+hh * c9 g.d+th.tdiv 256)).toNat<(o8 (by_.drop (th.tdiv 256 * 256).toNat)).length:=by rw [hs]; omega
         rw [C5 hj,a2h _ _ hj,b6R]
         show Y4 _=Y4 _
         congr 2
         omega
       . rw [if_neg (by rw [hs]; omega),if_neg (fun h=>e2 h.2)]; rfl
theorem K3:∀ (l:List Str),7 * l.length<=(i7 l).length
 | []=>b4H 0
 | r::t=>by
  have e:i7 (r::t)=B4 r++i7 t:=by unfold i7; rw [b4W,b6C]
  have:=K3 t
  rw [e,b3P,a0e,b4F]; omega
theorem T6 {l:List Str} (h:ShL l):l6 l=(i7 l,.nil):=by rw [a4l,if_pos h]
theorem a6p {l:List Str} (h:¬ ShL l):l6 l=([],.no 4):=by rw [a4l,if_neg h]
theorem ShL.app {a b:List Str} (ha:ShL a) (hb:ShL b):ShL (a++b):=fun s hs=>by
 rcases b5Y.1 hs with h | h
 . exact ha s h
 . exact hb s h
theorem ShL.nil:ShL []:=fun _ h=>absurd h b6K
structure Run (g:Lg):Prop where
 pow:Pow g.d
 len:6<=g.d.a0B.length
 h0:0<=g.half
 h1:g.half<=1
 t0:1<=g.turn
 dead:g.dead=false
 sw:ShL g.wait
 sr:ShL g.a0Y
 by_:g.bytes=i7 g.a0Y
 room:(g.bytes.length:Int)+((i7 g.wait).length:Int)<=F8 g
theorem Run.size {g:Lg} (r:Run g):0<=F8 g/\F8 g<=1048320:=by
 obtain ⟨g0,g1,_⟩:=F9 r.pow.ok
 unfold F8; omega
theorem Run.small {l:List Str} (h:ShL l) (hl:(i7 l).length<=1048320):SmL l:=by
 have:=K3 l
 exact ⟨by omega,fun s hs=>by have:=h s hs; omega⟩
theorem Run.lgB {g:Lg} (r:Run g) (t1:g.turn<=2199023255552):LgB g:=by
 obtain ⟨s0,s1⟩:=r.size
 have hr:=r.room
 have t0:=r.t0
 have hb:=r.by_
 have f1:=K3 g.a0Y
 have f2:=K3 g.wait
 rw [<- hb] at f1
 exact ⟨r.pow.ok,r.h0,r.h1,by omega,by omega,t1,by omega,Run.small r.sw (by omega),by rw [T6 r.sw]; show (i7 g.wait).length<=_; omega⟩
theorem Run.a1W {g:Lg} (r:Run g):Go.Proofs.YtckpdliipjekgaaGreat.a1W g=F8 g-(g.bytes.length:Int)-((i7 g.wait).length:Int):=by
 unfold Go.Proofs.YtckpdliipjekgaaGreat.a1W
 rw [X2 r.sw]
theorem a5l {g g':Lg} (h:g'.d.a0B.length=g.d.a0B.length):F8 g'=F8 g:=by
 unfold F8 c9; rw [h]
theorem c3s {g:Lg} (r:Run g) (h:g.wait=[]):u4 g=(.nil,g):=by
 unfold u4
 rw [if_neg (by rw [r.dead]; decide),if_pos (by rw [h]; rfl)]
theorem c8g {g:Lg} (r:Run g) (h:g.wait≠[]) :
  ∃ y,u4 g=(.nil,⟨g.turn+1,g.half,g.bytes++i7 g.wait,g.a0Y++g.wait,[],false,y⟩)/\Put g.d y (P9 g.d g.turn g.half (g.bytes.length:Int) (g.bytes++i7 g.wait))/\Run ⟨g.turn+1,g.half,g.bytes++i7 g.wait,g.a0Y++g.wait,[],false,y⟩:=by
 have t0:=r.t0
 have hr:=r.room
 obtain ⟨y,e,q⟩:=b0b (g:=g) (hh:=g.half) (th:=(g.bytes.length:Int)) (by_:=g.bytes++i7 g.wait) (rc:=g.a0Y++g.wait) r.pow r.len (by omega) r.h0 r.h1 (by omega) (by rw [b3P]; omega) (by rw [b3P]; omega)
 refine ⟨y,?_,q,⟨q.pow,by rw [q.len]; exact r.len,r.h0,r.h1,by show 1<=g.turn+1; omega,rfl,ShL.nil,r.sr.app r.sw,by show g.bytes++i7 g.wait=_; rw [a3l,<- r.by_],?_⟩⟩
 . unfold u4
   rw [if_neg (by rw [r.dead]; decide),if_neg (fun e=>h (b4O e)),T6 r.sw,if_neg (by simp)]
   show o3 g g.half (g.bytes.length:Int) (g.bytes++i7 g.wait) (g.a0Y++g.wait)=_
   rw [e,r.dead]
 . rw [a5l (g:=g) q.len]
   show ((g.bytes++i7 g.wait).length:Int)+((i7 []).length:Int)<=_
   rw [b3P]
   show ((g.bytes.length+(i7 g.wait).length:Nat):Int)+((0:Nat):Int)<=_
   omega
theorem d4c {g:Lg} (r:Run g) {l:List Str} (h:¬ (ShL l/\((i7 l).length:Int)<=F8 g)):(s7 g l).1≠.nil/\(s7 g l).2=g:=by
 unfold s7
 rw [if_neg (by rw [r.dead]; decide)]
 by_cases hs:ShL l
 . rw [T6 hs,if_neg (by simp),if_pos (show F8 g<((i7 l).length:Int) from Int.not_le.1 fun e=>h ⟨hs,e⟩)]
   exact ⟨by simp,rfl⟩
 . rw [a6p hs,if_pos (by simp)]
   exact ⟨by simp,rfl⟩
theorem c58 {g:Lg} (r:Run g) {l:List Str} (hs:ShL l) (hl:((i7 l).length:Int)<=F8 g) :
  ∃ y,s7 g l=(.nil,⟨g.turn+1,1-g.half,i7 l,l,[],false,y⟩)/\Put g.d y (P9 g.d g.turn (1-g.half) 0 (i7 l))/\Run ⟨g.turn+1,1-g.half,i7 l,l,[],false,y⟩:=by
 have t0:=r.t0
 have h0:=r.h0
 have h1:=r.h1
 obtain ⟨y,e,q⟩:=b0b (g:=g) (hh:=1-g.half) (th:=0) (by_:=i7 l) (rc:=l) r.pow r.len (by omega) (by omega) (by omega) (by omega) (by omega) hl
 refine ⟨y,?_,q,⟨q.pow,by rw [q.len]; exact r.len,by show 0<=1-g.half; omega,by show 1-g.half<=1; omega,by show 1<=g.turn+1; omega,rfl,ShL.nil,hs,rfl,?_⟩⟩
 . unfold s7
   rw [if_neg (by rw [r.dead]; decide),T6 hs,if_neg (by simp),if_neg (show ¬ F8 g<((i7 l).length:Int) by omega)]
   show o3 g (1-g.half) 0 (i7 l) l=_
   rw [e,r.dead]
 . rw [a5l (g:=g) q.len]
   show ((i7 l).length:Int)+((0:Nat):Int)<=_
   omega
theorem e2b {g:Lg} (r:Run g) {l:List Str} (h:¬ ShL l):B5 g l=(.no 4,g):=by
 unfold B5
 rw [if_neg (by rw [r.dead]; decide),a6p h,if_pos (by simp)]
theorem c6k {g:Lg} (r:Run g) {l:List Str} (hs:ShL l) (h:Go.Proofs.YtckpdliipjekgaaGreat.a1W g<((i7 l).length:Int)):B5 g l=(.no 6,g):=by
 unfold B5
 rw [if_neg (by rw [r.dead]; decide),T6 hs,if_neg (by simp),if_pos h]
theorem d3j {g:Lg} (r:Run g) {l:List Str} (hs:ShL l) (h:((i7 l).length:Int)<=Go.Proofs.YtckpdliipjekgaaGreat.a1W g):B5 g l=(.nil,{ g with wait:=g.wait++l })/\Run { g with wait:=g.wait++l }:=by
 have hr:=r.a1W
 refine ⟨?_,⟨r.pow,r.len,r.h0,r.h1,r.t0,r.dead,r.sw.app hs,r.sr,r.by_,?_⟩⟩
 . unfold B5
   rw [if_neg (by rw [r.dead]; decide),T6 hs,if_neg (by simp),if_neg (show ¬ Go.Proofs.YtckpdliipjekgaaGreat.a1W g<((i7 l).length:Int) by omega)]
 . show (g.bytes.length:Int)+((i7 (g.wait++l)).length:Int)<=F8 g
   rw [a3l,b3P]
   omega
theorem a3w {k:Nat} {x:Int} (h0:0<=x) (h1:x<256 ^ k) (h2:x<9223372036854775808):D2 (leB x k)=x:=by
 unfold D2
 rw [a6r k x h0 h1,I0]; omega
theorem c0o (t h n:Int):(q5 t h n).take 8=leB t 8:=by
 have e:q5 t h n=leB t 8++(leB h 1++(leB n 4++(List.replicate 235 0++leB t 8))):=by unfold q5; simp only [b4L]
 rw [e]; exact a02 (D7 _ _)
theorem d1z (t h n:Int):((q5 t h n).take 9).drop 8=leB h 1:=by
 have e:q5 t h n=(leB t 8++leB h 1)++(leB n 4++(List.replicate 235 0++leB t 8)):=by unfold q5; simp only [b4L]
 rw [e,a02 (show (leB t 8++leB h 1).length=9 by rw [b3P,D7,D7]),a1u (D7 _ _)]
theorem d4y (t h n:Int):((q5 t h n).take 13).drop 9=leB n 4:=by
 have e:q5 t h n=((leB t 8++leB h 1)++leB n 4)++(List.replicate 235 0++leB t 8):=by unfold q5; simp only [b4L]
 rw [e,a02 (show ((leB t 8++leB h 1)++leB n 4).length=13 by rw [b3P,b3P,D7,D7,D7]),a1u (show (leB t 8++leB h 1).length=9 by rw [b3P,D7,D7])]
theorem c8q {t h n a:Int} (t1:1<=t) (t2:t<=1099511627776) (ht:t.tmod 2=a) (h0:0<=h) (h1:h<=1) (n0:0<=n) (n1:n<4294967296):hdT (q5 t h n) a=(t,h,n):=by
 have e1:D2 ((q5 t h n).take 8)=t:=by rw [c0o]; exact a3w (by omega) (show t<18446744073709551616 by omega) (by omega)
 have e2:D2 (((q5 t h n).take 9).drop 8)=h:=by rw [d1z]; exact a3w h0 (show h<256 by omega) (by omega)
 have e3:D2 (((q5 t h n).take 13).drop 9)=n:=by rw [d4y]; exact a3w n0 (show n<4294967296 by omega) (by omega)
 unfold hdT
 rw [e1, e2, e3, if_neg (by rintro (h | h | h | h | h)
                            . omega
                            . omega
                            . exact h ht
                            . omega
                            . exact h rfl)]
theorem d8v {t h n a:Int} (t1:1<=t) (t2:t<=1099511627776):(hdT (q5 t h n) a).1<=t:=by
 have e1:D2 ((q5 t h n).take 8)=t:=by rw [c0o]; exact a3w (by omega) (show t<18446744073709551616 by omega) (by omega)
 unfold hdT
 split
 . show (0:Int)<=t; omega
 . rw [e1]; exact b5G _
structure Laid (g:Lg):Prop where
 fresh:g.d.fresh=[]
 hd:ix g.d.a0B (g.turn.tmod 2)=q5 g.turn g.half (g.bytes.length:Int)
 other:(hdT (ix g.d.a0B ((g.turn+1).tmod 2)) ((g.turn+1).tmod 2)).1<g.turn
 data:∀ j:Nat,256 * j<g.bytes.length->(ix g.d.a0B (2+g.half * c9 g.d+j)).take (g.bytes.length-256 * j)=(g.bytes.drop (256 * j)).take 256
theorem a9s {t:Int} (h:0<=t):(t+1).tmod 2=1-t.tmod 2/\0<=t.tmod 2/\t.tmod 2<=1/\(t+1+1).tmod 2=t.tmod 2:=by
 rw [b5I h,b5I (by omega),b5I (by omega)]
 omega
theorem c9x {s:Str} {n:Nat} (h:n<=s.length):(Y4 s).take n=(s.take 256).take n:=by
 unfold Y4
 by_cases h2:n<=256
 . rw [b9F (by rw [b3U]; omega)]
 . have e:256-s.length=0:=by omega
   rw [e,b7R,b4M]
theorem a9f {g:Lg} {y:Dk} {hh th:Int} {by_:Str} {rc:List Str} (r:Run g) (l:Laid g) (t2:g.turn<=1099511627776) (h0:0<=hh) (h1:hh<=1) (h2:0<=th) (h3:th<=(by_.length:Int)) (h4:(by_.length:Int)<=F8 g)
  (hk:∀ j:Nat,256 * j<by_.length->(j:Int)<th / 256 ∨ th=(by_.length:Int)->(ix g.d.a0B (2+hh * c9 g.d+j)).take (by_.length-256 * j)=(by_.drop (256 * j)).take 256)
  (q:Put g.d y (P9 g.d g.turn hh th by_)):Laid ⟨g.turn+1,hh,by_,rc,[],false,y⟩:=by
 have t0:=r.t0
 have hl:=r.len
 obtain ⟨m1,m2,m3,m4⟩:=a9s (t:=g.turn) (by omega)
 obtain ⟨f0,f1,f2⟩:=F9 r.pow.ok
 have f2:=f2 (by omega)
 have h4:(by_.length:Int)<=c9 g.d * 256:=h4
 have hm:hh * c9 g.d=0 ∨ hh * c9 g.d=c9 g.d:=by
  have hh':hh=0 ∨ hh=1:=by omega
  rcases hh' with e | e
  . left; rw [e,b8B]
  . right; rw [e,b8G]
 have nw:∀ i,Q7 g.d i=ix g.d.a0B i:=fun i=>by unfold Q7; rw [l.fresh]; rfl
 have hY:c9 y=c9 g.d:=by unfold c9; rw [q.len]
 refine ⟨q.fresh,?_,?_,fun j hj=>?_⟩
 . show ix y.a0B ((g.turn+1).tmod 2)=q5 (g.turn+1) hh (by_.length:Int)
   rw [q.at_ _ (by omega) (by omega)]
   unfold P9
   rw [if_pos rfl]; rfl
 . show (hdT (ix y.a0B ((g.turn+1+1).tmod 2)) ((g.turn+1+1).tmod 2)).1<g.turn+1
   rw [m4,q.at_ _ m2 (by omega)]
   unfold P9
   rw [if_neg (by omega), if_neg (by rintro ⟨_, h, _⟩; have : 0 <= th / 256 := by omega
                                     omega)]
   show (hdT (Q7 g.d (g.turn.tmod 2)) (g.turn.tmod 2)).1<g.turn+1
   rw [nw,l.hd]
   have:=d8v (t:=g.turn) (h:=g.half) (n:=(g.bytes.length:Int)) (a:=g.turn.tmod 2) t0 t2
   omega
 . show (ix y.a0B (2+hh * c9 y+j)).take (by_.length-256 * j)=(by_.drop (256 * j)).take 256
   have hj:256 * j<by_.length:=hj
   rw [hY,q.at_ _ (by omega) (by omega)]
   unfold P9
   rw [if_neg (by omega)]
   by_cases hc:(j:Int)<th / 256 ∨ th=(by_.length:Int)
   . rw [if_neg (by rintro ⟨a, b, _⟩; rcases hc with h | h
                    . omega
                    . exact a h)]
     show (Q7 g.d _).take _=_
     rw [nw]; exact hk j hj hc
   . rw [if_pos ⟨fun e=>hc (.inr e),by have:=fun h=>hc (.inl h); omega,by omega⟩]
     show (Y4 _).take _=_
     have ej:(256 * (2+hh * c9 g.d+(j:Int)-2-hh * c9 g.d)).toNat=256 * j:=by omega
     rw [ej,c9x (by rw [b3W]; exact b4H _),b4Q (l:=List.take 256 _) (by rw [b3U,b3W]; omega)]
theorem a7y {d:Dk} {F n:Int} {by_:Str} (p:Pow d) (n0:n=(by_.length:Int)) (f0:0<=F) (hin:∀ j:Nat,j<A0 n->F+j<d.a0B.length)
  (hd:∀ j:Nat,256 * j<by_.length->(Q7 d (F+j)).take (by_.length-256 * j)=(by_.drop (256 * j)).take 256) :
  ∀ (k j:Nat) (b:Str),j+k=A0 n->b.length=256 * j->b.take by_.length=by_.take (256 * j)->∃ B,I9 d k (F+j) b=(B,.nil)/\B.take by_.length=by_
 | 0,j,b,hk,hb,ht=>⟨b,rfl,by
   rw [ht,b4Q]
   unfold A0 at hk; omega⟩
 | k+1,j,b,hk,hb,ht=>by
  have hj:256 * j<by_.length:=by unfold A0 at hk; omega
  have hr:=b63 p (i:=F+j) (by omega) (hin j (by omega))
  have hz:(d.read (F+j)).2=0:=by rw [hr]
  have hl:=a9c p.ok hz
  rw [hr] at hl
  have hl:(Q7 d (F+j)).length=256:=hl
  obtain ⟨B,h1,h2⟩:=a7y p n0 f0 hin hd k (j+1) (b++Q7 d (F+j)) (by omega) (by rw [b3P,hb,hl]; omega) (by
   rw [List.take_append,ht,hb,hd j hj,show 256 * (j+1)=256 * j+256 by omega,List.take_add])
  refine ⟨B,?_,h2⟩
  unfold I9
  rw [if_pos hz,hr]
  have e:F+(j:Int)+1=F+((j+1:Nat):Int):=by omega
  rw [e]; exact h1
theorem c0g {d:Dk} (p:Pow d) {a:Int} (h0:0<=a) (h1:a<d.a0B.length):hdA d a=((hdT (Q7 d a) a).1,(hdT (Q7 d a) a).2.1,(hdT (Q7 d a) a).2.2,.nil):=by
 unfold hdA
 rw [b63 p h0 h1,if_pos rfl]
theorem c38 {g:Lg} {d:Dk} (r:Run g) (l:Laid g) (t2:g.turn<=1099511627776) (p:Pow d) (hl:d.a0B.length=g.d.a0B.length) (hn:∀ i:Int,0<=i->i<g.d.a0B.length->Q7 d i=ix g.d.a0B i) :
  s8 d=(.nil,g.turn,g.half,g.bytes,g.a0Y):=by
 have t0:=r.t0
 have h6:=r.len
 have h0:=r.h0
 have h1:=r.h1
 have hr:=r.room
 obtain ⟨m1,m2,m3,_⟩:=a9s (t:=g.turn) (by omega)
 obtain ⟨f0,f1,f2⟩:=F9 r.pow.ok
 have f2:=f2 (by omega)
 have hH:c9 d=c9 g.d:=by unfold c9; rw [hl]
 have hs:F8 g=c9 g.d * 256:=rfl
 have hb:(g.bytes.length:Int)<=c9 g.d * 256:=by omega
 have hm:g.half * c9 g.d=0 ∨ g.half * c9 g.d=c9 g.d:=by
  have hh':g.half=0 ∨ g.half=1:=by omega
  rcases hh' with e | e
  . left; rw [e,b8B]
  . right; rw [e,b8G]
 have a0:=c0g p (a:=0) (by omega) (by omega)
 have a1:=c0g p (a:=1) (by omega) (by omega)
 rw [hn 0 (by omega) (by omega)] at a0
 rw [hn 1 (by omega) (by omega)] at a1
 have hg:=c8q (t:=g.turn) (h:=g.half) (n:=(g.bytes.length:Int)) (a:=g.turn.tmod 2) t0 t2 rfl h0 h1 (by omega) (by omega)
 have ho:=l.other
 rw [<- l.hd] at hg
 have eH:opH d=(.nil,g.turn,g.half,(g.bytes.length:Int)):=by
  have e2:opH d=(.nil,a1a (a1a (0,0,0) (hdT (ix g.d.a0B 0) 0)) (hdT (ix g.d.a0B 1) 1)):=by
   show a6i d 2 0 (0,0,0)=_
   unfold a6i
   rw [a0,if_neg (by simp)]
   unfold a6i
   rw [show (0:Int)+1=1 from rfl,a1,if_neg (by simp)]
   rfl
  rw [e2]
  have hc:g.turn.tmod 2=0 ∨ g.turn.tmod 2=1:=by omega
  rcases hc with e | e
  . rw [m1,e] at ho
    rw [e] at hg
    have ho:(hdT (ix g.d.a0B 1) 1).1<g.turn:=ho
    rw [hg]
    have q1:a1a (0,0,0) (g.turn,g.half,(g.bytes.length:Int))=(g.turn,g.half,(g.bytes.length:Int)):=by unfold a1a; rw [if_pos (show (0:Int)<g.turn by omega)]
    rw [q1]
    unfold a1a
    rw [if_neg (show ¬ g.turn<(hdT (ix g.d.a0B 1) 1).1 by omega)]
  . rw [m1,e] at ho
    rw [e] at hg
    have ho:(hdT (ix g.d.a0B 0) 0).1<g.turn:=ho
    rw [hg]
    have q1:(a1a (0,0,0) (hdT (ix g.d.a0B 0) 0)).1<g.turn:=by
     unfold a1a
     split
     . exact ho
     . show (0:Int)<g.turn; omega
    generalize a1a (0,0,0) (hdT (ix g.d.a0B 0) 0)=P at q1
    unfold a1a
    rw [if_pos q1]
 obtain ⟨B,k1,k2⟩:=a7y (d:=d) (F:=2+g.half * c9 g.d) (n:=(g.bytes.length:Int)) (by_:=g.bytes) p rfl (by omega) (fun j hj=>by unfold A0 at hj; omega) (fun j hj=>by
  rw [hn _ (by omega) (by omega)]; exact l.data j hj) (A0 (g.bytes.length:Int)) 0 [] (by omega) rfl (by rw [List.take_nil,Nat.mul_zero,List.take_zero])
 have k1:I9 d (A0 (g.bytes.length:Int)) (2+g.half * c9 g.d) []=(B,.nil):=by
  have e:2+g.half * c9 g.d+((0:Nat):Int)=2+g.half * c9 g.d:=by omega
  rw [e] at k1; exact k1
 obtain ⟨s1,s2⟩:=R4 g.a0Y r.sr
 rw [<- r.by_] at s1 s2
 have et:B.take ((g.bytes.length:Int)).toNat=g.bytes:=k2
 unfold s8
 rw [a5b (by omega),if_neg (by simp)]
 unfold b6a
 rw [eH,if_neg (by simp)]
 unfold a6h
 dsimp only
 rw [hH,k1]
 dsimp only
 rw [et,s1,s2,if_neg (by omega),if_neg (by omega),if_neg (by simp),if_neg (by rw [b5R]; omega)]
theorem c4b:(hdT (List.replicate 256 0) 0).1=0:=by
 unfold hdT
 have e:D2 ((List.replicate 256 (0:UInt8)).take 8)=0:=by
  rw [b9L]; rfl
 rw [e,if_pos (.inl (by decide))]
theorem c5r:Y4 (List.replicate 512 0)=List.replicate 256 0:=by
 unfold Y4
 rw [b9L,b3X,show min 256 512=256 from rfl,show 256-512=0 from rfl,b7R,b4M]
theorem b5f {x:Dk} (p:Pow x) (h6:6<=x.a0B.length):∃ y,J4 x=(.nil,y)/\y.a0B.length=x.a0B.length/\Run ⟨1,0,[],[],[],false,y⟩/\Laid ⟨1,0,[],[],[],false,y⟩/\ix y.a0B 0=List.replicate 256 0:=by
 have hz:(o8 (List.replicate 512 (0:UInt8))).length=2:=by rw [H8,b3X]
 obtain ⟨k1,k2,k3,k4,k5⟩:=a0b (o8 (List.replicate 512 0)) (x:=x) (a:=0) p (by omega) (by rw [hz]; omega) (a29 _)
 have hs:=a2d 1 0 0
 obtain ⟨j1,j2,j3,j4,j5⟩:=a0b (o8 (q5 1 0 0)) (x:=(a8 x 0 (o8 (List.replicate 512 0))).2) (a:=1) k2 (by omega) (by rw [hs,b4Y]; omega) (a29 _)
 have e1:=j5 1 (by omega) (by omega)
 rw [if_pos (by rw [hs,b4Y]; omega)] at e1
 have e0:=j5 0 (by omega) (by omega)
 rw [if_neg (by omega)] at e0
 have e0':Q7 (a8 x 0 (o8 (List.replicate 512 0))).2 0=List.replicate 256 0:=by
  unfold Q7
  rw [k3]
  show ix (a8 x 0 (o8 (List.replicate 512 0))).2.a0B 0=_
  rw [k5 0 (by omega) (by omega),if_pos (by rw [hz]; omega),C5 (by rw [hz]; decide)]
  have:=a2h (List.replicate 512 0) 0 (by rw [hz]; decide)
  rw [Nat.mul_zero,b7E,c5r] at this
  exact this
 refine ⟨_,?_,j4.trans k4,⟨j2,by show 6<=(a8 _ _ _).2.a0B.length; omega,b5G 0,by show (0:Int)<=1; decide,b5G 1,rfl,ShL.nil,ShL.nil,rfl,?_⟩,⟨j3,?_,?_,fun j hj=>absurd hj (c0I _)⟩,?_⟩
 . unfold J4
   rw [a5b h6,if_neg (by simp),if_neg (by rw [k1]; simp)]
   exact c0D j1 rfl
 . obtain ⟨f0,_,_⟩:=F9 j2.ok
   show ((0:Nat):Int)+((0:Nat):Int)<=c9 (a8 (a8 x 0 (o8 (List.replicate 512 0))).2 1 (o8 (q5 1 0 0))).2 * 256
   omega
 . show ix (a8 (a8 x 0 (o8 (List.replicate 512 0))).2 1 (o8 (q5 1 0 0))).2.a0B 1=q5 1 0 0
   rw [e1]
   show ix (o8 (q5 1 0 0)) 0=_
   rw [hs]; rfl
 . show (hdT (ix (a8 (a8 x 0 (o8 (List.replicate 512 0))).2 1 (o8 (q5 1 0 0))).2.a0B 0) 0).1<1
   rw [e0,e0',c4b]; decide
 . rw [e0]; exact e0'
theorem d3y {x:Dk} (p:Pow x) (h6:6<=x.a0B.length):∃ y,J4 x=(.nil,y)/\y.a0B.length=x.a0B.length/\Run ⟨1,0,[],[],[],false,y⟩/\Laid ⟨1,0,[],[],[],false,y⟩:=by
 obtain ⟨y,a,b,c,d,_⟩:=b5f p h6
 exact ⟨y,a,b,c,d⟩
theorem c33 {g:Lg} {y:Dk} (r:Run g) (l:Laid g) (t2:g.turn<=1099511627776) (q:Put g.d y (P9 g.d g.turn g.half (g.bytes.length:Int) (g.bytes++i7 g.wait))):Laid ⟨g.turn+1,g.half,g.bytes++i7 g.wait,g.a0Y++g.wait,[],false,y⟩:=by
 have hr:=r.room
 have h6:=r.len
 obtain ⟨f0,f1,f2⟩:=F9 r.pow.ok
 have f2:=f2 (by omega)
 have hs:F8 g=c9 g.d * 256:=rfl
 have hm:g.half * c9 g.d=0 ∨ g.half * c9 g.d=c9 g.d:=by
  have h0:=r.h0
  have h1:=r.h1
  have hh':g.half=0 ∨ g.half=1:=by omega
  rcases hh' with e | e
  . left; rw [e,b8B]
  . right; rw [e,b8G]
 refine a9f r l t2 r.h0 r.h1 (by omega) (by rw [b3P]; omega) (by rw [b3P]; omega) (fun j hj hc=>?_) q
 rw [b3P] at hj
 by_cases hlt:256 * j+256<=g.bytes.length
 . have hd:=l.data j (by omega)
   have h256:(ix g.d.a0B (2+g.half * c9 g.d+(j:Int))).length=256:=r.pow.ok.len _ (Q4 (by omega) (by omega))
   rw [b4Q (by omega)] at hd
   rw [b4Q (by rw [b3P]; omega),hd,List.drop_append_of_le_length (by omega),b9F (by rw [b3W]; omega)]
 . have hz:(i7 g.wait).length=0:=by
     rcases hc with h | h
     . omega
     . rw [b3P] at h; omega
   have he:=b4O hz
   rw [he,b4M]
   exact l.data j (by omega)
theorem c41 {g:Lg} {y:Dk} {ls:List Str} (r:Run g) (l:Laid g) (t2:g.turn<=1099511627776) (hl:((i7 ls).length:Int)<=F8 g) (q:Put g.d y (P9 g.d g.turn (1-g.half) 0 (i7 ls))):Laid ⟨g.turn+1,1-g.half,i7 ls,ls,[],false,y⟩:=by
 have h0:=r.h0
 have h1:=r.h1
 exact a9f r l t2 (by omega) (by omega) (by omega) (by omega) hl (fun j hj hc=>by omega) q
theorem c8a {g:Lg} (r:Run g) (l:Laid g) (t2:g.turn<=1099511627776):s8 g.d=(.nil,g.turn,g.half,g.bytes,g.a0Y) :=
 c38 r l t2 r.pow rfl fun i _ _=>by unfold Q7; rw [l.fresh]; rfl
end Go.Proofs.YtckpdliipjekgaaGreat
end
section
namespace Go.Proofs.YtckpdliipjekgaaGreat
open Go Go.Wk Go.Wl Go.Rx Go.Wa 
attribute [local irreducible] o9
def c14:Nat->Ann:=fun | 21=>⟨31,nn,nn⟩ | _=>⟨0,nn,nn⟩
def a3x (n:Int):=s8 (J4 (Dk.new n)).snd
def a2b  := Err.no (2:Int)
def e3b (n:Int) (Q:Int->Int->Str->List Str->List Str->Bool->Dk->Prop):Prop :=
((1:Int)<=n/\n<=8192->(Err.nil.nr≠0->False)/\(¬Err.nil.nr≠0->(Dk.new n).Ok/\((J4 (Dk.new n)).fst.nr≠0->False)/\(¬(J4 (Dk.new n)).fst.nr≠0->(J4 (Dk.new n)).snd.Ok/\(((a3x n).fst=Err.nil->False)->((a3x n).fst.nr≠0->False)/\(¬(a3x n).fst.nr≠0->False))/\((a3x n).fst=Err.nil->(Err.nil.nr≠0->False)/\(¬Err.nil.nr≠0->Q (a3x n).snd.fst (a3x n).snd.snd.fst (a3x n).snd.snd.snd.fst (a3x n).snd.snd.snd.snd [] (decide (false=true)) (J4 (Dk.new n)).snd)))))/\(¬((1:Int)<=n/\n<=8192)->(a2b.nr≠0->False)/\(¬a2b.nr≠0->((0:Int)=0->(Err.no (1:Int)≠Err.nil->((Err.no (1:Int)).nr≠0->False)/\(¬(Err.no (1:Int)).nr≠0->((0:Int)=0->(Err.no (1:Int)≠Err.nil->((Err.no (1:Int)).nr≠0->False)/\(¬(Err.no (1:Int)).nr≠0->False))/\(¬Err.no (1:Int)≠Err.nil->False))/\(¬(0:Int)=0->((0:Int)<6->(Err.no (2:Int)≠Err.nil->(a2b.nr≠0->False)/\(¬a2b.nr≠0->False))/\(¬Err.no (2:Int)≠Err.nil->False))/\(¬(0:Int)<6->(Err.nil≠Err.nil->(Err.nil.nr≠0->False)/\(¬Err.nil.nr≠0->False))/\(¬Err.nil≠Err.nil->False)))))/\(¬Err.no (1:Int)≠Err.nil->(0:Int)<=512/\(512:Int)=512/\(↑((some (1:Nat)).getD (0:Nat)):Int) * 512<=140737488355328/\False))/\(¬(0:Int)=0->((0:Int)<6->(Err.no (2:Int)≠Err.nil->(a2b.nr≠0->False)/\(¬a2b.nr≠0->((0:Int)=0->(Err.no (1:Int)≠Err.nil->((Err.no (1:Int)).nr≠0->False)/\(¬(Err.no (1:Int)).nr≠0->False))/\(¬Err.no (1:Int)≠Err.nil->False))/\(¬(0:Int)=0->((0:Int)<6->(Err.no (2:Int)≠Err.nil->(a2b.nr≠0->False)/\(¬a2b.nr≠0->False))/\(¬Err.no (2:Int)≠Err.nil->False))/\(¬(0:Int)<6->(Err.nil≠Err.nil->(Err.nil.nr≠0->False)/\(¬Err.nil.nr≠0->False))/\(¬Err.nil≠Err.nil->False)))))/\(¬Err.no (2:Int)≠Err.nil->(0:Int)<=512/\(512:Int)=512/\(↑((some (1:Nat)).getD (0:Nat)):Int) * 512<=140737488355328/\False))/\(¬(0:Int)<6->(Err.nil≠Err.nil->(Err.nil.nr≠0->False)/\(¬Err.nil.nr≠0->((0:Int)=0->(Err.no (1:Int)≠Err.nil->((Err.no (1:Int)).nr≠0->False)/\(¬(Err.no (1:Int)).nr≠0->False))/\(¬Err.no (1:Int)≠Err.nil->False))/\(¬(0:Int)=0->((0:Int)<6->(Err.no (2:Int)≠Err.nil->(a2b.nr≠0->False)/\(¬a2b.nr≠0->False))/\(¬Err.no (2:Int)≠Err.nil->False))/\(¬(0:Int)<6->(Err.nil≠Err.nil->(Err.nil.nr≠0->False)/\(¬Err.nil.nr≠0->False))/\(¬Err.nil≠Err.nil->False)))))/\(¬Err.nil≠Err.nil->(0:Int)<=512/\(512:Int)=512/\(↑((some (1:Nat)).getD (0:Nat)):Int) * 512<=140737488355328/\False)))))
theorem e4m (n:Int) (h6:6<=n) (h8:n<=8192):e3b n (fun y0 y1 y2 y3 y4 y5 y6=>y0=(1:Int)/\y1=(0:Int)/\y2=([]:Str)/\y3=([]:List Str)/\y4=([]:List Str)/\y5=false/\y6=(J4 (Dk.new n)).2):=by
 unfold e3b a2b a3x
 have hN:(Dk.new n).a0B.length=n.toNat:=b3X
 have okn:(Dk.new n).Ok:=b9f (by omega) h8
 obtain ⟨y,e1,e2,r,l⟩:=d3y (x:=Dk.new n) ⟨okn,rfl,rfl⟩ (by omega)
 have eo:s8 y=(.nil,1,0,[],[]):=c8a r l (by show (1:Int)<=1099511627776; decide)
 rw [e1]
 refine ⟨fun _=>⟨fun h=>absurd rfl h,fun _=>⟨okn,fun h=>absurd rfl h,fun _=>⟨r.pow.ok,fun h=>(h (by show (s8 y).1=.nil; rw [eo])).elim,fun _=>⟨fun h=>absurd rfl h,fun _=>?_⟩⟩⟩⟩,fun hn=>absurd ⟨by omega,h8⟩ hn⟩
 have e3:s8 ((Err.nil,y):Err×Dk).snd=(.nil,1,0,[],[]):=eo
 rw [e3]
 exact ⟨rfl,rfl,rfl,rfl,rfl,rfl,rfl⟩
def e4l (n:Int):FR U:=K8 c0t [6<=n,n<=8192] [] 0 2 [.tree [(0,1),(1,0)] [.own none 82 [.to 1,.v (.int .i64),.v (.int .i64),.v (.str),.v (.acc 9),.v (.acc 9),.v (.bool)],.ob none 0]] ((((1:Int),(0:Int),([]:Str),([]:List Str),([]:List Str),false,()),(J4 (Dk.new n)).2,()),())
def d8r:FC U:=⟨[],[],fun a its=>match a,its with | [.int .i64 n],[]=>some (e4l n) | _,_=>none⟩
theorem d2n (args:List (SV U)) (its:a7 U) (r:FR U) (h:d8r.C args its=some r) (ho:n6 r.ob):r6 Tryz.prog U eT Gl 21 args its (2 * its.length) (fun k=>n6 r.hy->k r.v r.its r.n):=by
 unfold d8r at h
 simp only at h
 split at h
 . rename_i n
   cases h
   exact G8 (an:=c14 21) a1i (l5 a1i C2 c14 3) Tryz.func21 (n:=2) rfl (vs:=[.tree [(0,1),(1,0)] [.own none 82 [.to 1,.v (.int .i64),.v (.int .i64),.v (.str),.v (.acc 9),.v (.acc 9),.v (.bool)],.ob none 0]]) (X:=((((1:Int),(0:Int),([]:Str),([]:List Str),([]:List Str),false,()),(J4 (Dk.new n)).2,()),())) rfl (kc (e4m n ho.1 ho.2.1) (by kernel_rfl))
 . cases h
def e2q:Env:=(c0t.a0K 21 Tryz.f21).a0N 21 d8r
theorem b39:l7 e2q:=(a1i.a0K Tryz.call21 Tryz.func21).a0N Tryz.call21 d2n
def d6z:Nat->Ann:=fun | 39=>⟨9,nn,nn⟩ | _=>⟨0,nn,nn⟩
def e5t (a:Act) (Q:List Str->Prop):Prop :=
([a.S].length+a.a0T.length) * (some (16:Nat)).getD (0:Nat)<=140737488355328/\Q ([a.S]++a.a0T)
theorem e7t (a:Act) (h0:a.a0T.length<=1000000):e5t a (fun y0=>y0=(a.S::a.a0T)):=by
 unfold e5t
 refine ⟨?_,rfl⟩
 show (1+a.a0T.length) * 16<=_
 omega
def e3l (a:Act) (nx:Nat):CR U:=⟨[List.length (α:=Str) a.a0T<=1000000],[],.acc nx,[.ac 9 ((a.S::a.a0T))]⟩
def e0n (a:List (SV U)) (nx:Nat):Option (CR U):=match a with | [.agg [.int .i64 a0,.str a1,.sl 9 a2,.int .i64 a3,.int .i64 a4,.sl 3 a5]]=>some (e3l (⟨a0,a1,a2,a3,a4,a5⟩) nx) | _=>none
def e45:Env:=e2q.a2A 39 e0n
theorem b30:l7 e45:=b39.a2A Tryz.call39 fun (args:List (SV U)) nx (c:CR U) (h:e0n args nx=some c) hp ho=>by
 unfold e0n at h
 split at h
 . rename_i a0 a1 a2 a3 a4 a5
   cases h
   exact b4q (an:=d6z 39) b39 (l5 b39 C2 d6z 2) Tryz.func39 (k:=.acc 9) hp (kc (e7t (⟨a0,a1,a2,a3,a4,a5⟩) ho.1) (by kernel_rfl))
 . cases h
def d6o:Nat->Ann:=fun | 8=>⟨81,fun | 3=>some ⟨[0],[.slot 3 (.int .i64),.slot 4 (.int .i64)]⟩ | 7=>some ⟨[0,4],[.slot 3 (.int .i64),.slot 5 (.int .i64)]⟩ | _=>none,nn⟩ | _=>⟨0,nn,nn⟩
def d0z (x:Int) (l:List Act) (x_1:Int):=(x+bif false then max (↑(List.length (ix l x_1).S):Int) (100000:Int) else min (↑(List.length (ix l x_1).S):Int) (100000:Int))+bif false then max (↑(ix l x_1).Kept.length:Int) (1000:Int) else min (↑(ix l x_1).Kept.length:Int) (1000:Int)
def c8r (x:Int) (l:List Act) (x_1:Int):=(d0z x l x_1)+bif false then max (↑(ix l x_1).a0T.length:Int) (1000:Int) else min (↑(ix l x_1).a0T.length:Int) (1000:Int)
def e3u (l:List Act) (Q:Bool->Prop):Prop :=
∃ (I:Int->Int->Prop),∃ (m:Int->Int->Nat),I (0:Int) (0:Int)/\∀ (x x_1:Int),I x x_1->(x_1<(↑l.length:Int)/\x_1<=60->(0:Int)<=x_1/\x_1<(↑l.length:Int)/\(i6 (ix l x_1).Kind->i6 (ix l x_1).N->i6 (ix l x_1).Cut->i6 (x+bif false then max (↑(List.length (ix l x_1).S):Int) (100000:Int) else min (↑(List.length (ix l x_1).S):Int) (100000:Int))/\(0:Int)<=x_1/\x_1<(↑l.length:Int)/\(i6 (ix l x_1).Kind->i6 (ix l x_1).N->i6 (ix l x_1).Cut->i6 (d0z x l x_1)/\(0:Int)<=x_1/\x_1<(↑l.length:Int)/\(i6 (ix l x_1).Kind->i6 (ix l x_1).N->i6 (ix l x_1).Cut->i6 (c8r x l x_1)/\∃ (I_1:Int->Int->Prop),∃ (m_1:Int->Int->Nat),I_1 (c8r x l x_1) (0:Int)/\∀ (x_2 x_3:Int),I_1 x_2 x_3->(0:Int)<=x_1/\x_1<(↑l.length:Int)/\(i6 (ix l x_1).Kind->i6 (ix l x_1).N->i6 (ix l x_1).Cut->(x_3<(↑(ix l x_1).a0T.length:Int)/\x_3<=50->(0:Int)<=x_1/\x_1<(↑l.length:Int)/\(i6 (ix l x_1).Kind->i6 (ix l x_1).N->i6 (ix l x_1).Cut->(0:Int)<=x_3/\x_3<(↑(ix l x_1).a0T.length:Int)/\i6 (x_2+bif false then max (↑(ix (ix l x_1).a0T x_3).length:Int) (100000:Int) else min (↑(ix (ix l x_1).a0T x_3).length:Int) (100000:Int))/\i6 (x_3+1)/\I_1 (x_2+bif false then max (↑(ix (ix l x_1).a0T x_3).length:Int) (100000:Int) else min (↑(ix (ix l x_1).a0T x_3).length:Int) (100000:Int)) (x_3+1)/\m_1 (x_2+bif false then max (↑(ix (ix l x_1).a0T x_3).length:Int) (100000:Int) else min (↑(ix (ix l x_1).a0T x_3).length:Int) (100000:Int)) (x_3+1)<m_1 x_2 x_3))/\(¬(x_3<(↑(ix l x_1).a0T.length:Int)/\x_3<=50)->(¬(40000:Int)<x_2->(0:Int)<=x_1)/\(¬(40000:Int)<x_2->x_1<(↑l.length:Int))/\((¬(40000:Int)<x_2->i6 (ix l x_1).Kind)->(¬(40000:Int)<x_2->i6 (ix l x_1).N)->(¬(40000:Int)<x_2->i6 (ix l x_1).Cut)->((40000:Int)<x_2 ∨ (50:Int)<(↑(ix l x_1).a0T.length:Int)->Q false)/\(¬((40000:Int)<x_2 ∨ (50:Int)<(↑(ix l x_1).a0T.length:Int))->i6 (x_1+1)/\I x_2 (x_1+1)/\m x_2 (x_1+1)<m x x_1))))))))/\(¬(x_1<(↑l.length:Int)/\x_1<=60)->Q (decide ((↑l.length:Int)<=60)))
set_option maxHeartbeats 1000000 in
theorem e7u (l:List Act)  : e3u l (fun y0=>y0=b3j l):=by
 unfold e3u c8r d0z
 have hT:(l.take 61).length=min 61 l.length:=b3U
 have b0:∀ a b:Int,(bif false then max a b else min a b)=min a b:=fun _ _=>rfl
 refine ⟨fun x i=>0<=i/\i<=(l.take 61).length/\0<=x/\x<=40000/\b4n x ((l.take 61).drop i.toNat)=b4n 0 (l.take 61),fun _ i=>(((l.take 61).length:Int)-i).toNat,⟨by omega,by omega,by omega,by omega,rfl⟩,?_⟩
 rintro x i ⟨i0,i1,x0,x1,hx⟩
 refine ⟨fun h=>?_,fun h=>?_⟩
 . have hi:i<(l.take 61).length:=by omega
   rw [H5 i0 hi,c08 i0 (by omega) h.1,b4n,b7f] at hx
   generalize ix l i=a at hx ⊢
   rw [b0,b0,b0]
   have hM:(a.a0T.take 51).length=min 51 a.a0T.length:=b3U
   refine ⟨i0,h.1,fun _ _ _=>⟨⟨by omega,by omega⟩,i0,h.1,fun _ _ _=>⟨⟨by omega,by omega⟩,i0,h.1,fun _ _ _=>⟨⟨by omega,by omega⟩,?_⟩⟩⟩⟩
   generalize hn:x+min (a.S.length:Int) 100000+min (a.Kept.length:Int) 1000+min (a.a0T.length:Int) 1000=n at hx ⊢
   have n0:0<=n/\n<=142000:=by omega
   refine ⟨fun y k=>0<=k/\k<=(a.a0T.take 51).length/\0<=y/\y<=142000+100000 * k/\a4d y ((a.a0T.take 51).drop k.toNat)=a4d n (a.a0T.take 51),fun _ k=>(((a.a0T.take 51).length:Int)-k).toNat,⟨by omega,by omega,by omega,by omega,rfl⟩,?_⟩
   rintro y k ⟨k0,k1,y0,y1,hy⟩
   refine ⟨i0,h.1,fun _ _ _=>⟨fun h2=>?_,fun h2=>?_⟩⟩
   . have hk:k<(a.a0T.take 51).length:=by omega
     rw [H5 k0 hk,c08 k0 (by omega) h2.1,a4d] at hy
     rw [b0]
     exact ⟨i0,h.1,fun _ _ _=>⟨k0,h2.1,⟨by omega,by omega⟩,⟨by omega,by omega⟩,⟨by omega,by omega,by omega,by omega,hy⟩,by dsimp only; omega⟩⟩
   . rw [b5F (by omega),a4d] at hy
     rw [<- hy] at hx
     refine ⟨fun _=>i0,fun _=>h.1,fun _ _ _=>⟨fun h3=>?_,fun h3=>?_⟩⟩
     . rw [if_pos h3] at hx
       unfold b3j
       rw [<- hx]; rfl
     . rw [if_neg h3] at hx
       exact ⟨⟨by omega,by omega⟩,⟨by omega,by omega,y0,by omega,by rw [show (i+1).toNat=(i+1).toNat from rfl]; exact hx⟩,by dsimp only; omega⟩
 . rw [b5F (by omega),b4n] at hx
   unfold b3j
   rw [<- hx,if_pos rfl]
def e20 (a:List (SV U)):Option (Q1 U):=match a with | [.sl 44 l]=>some ⟨[],[],blB (b3j l)⟩ | _=>none
def e4k:Env:=e45.a1R 8 e20
theorem d1l:l7 e4k:=b30.a1R Tryz.call8 fun (args:List (SV U)) (q:Q1 U) (h:e20 args=some q) ho=>by
 unfold e20 at h
 split at h
 . rename_i l
   cases h
   exact a05 (an:=d6o 8) b30 (l5 b30 C2 d6o 2) Tryz.func8 (k:=.bool) (x:=b3j l) trivial (kc (e7u l ) (by kernel_rfl)) 0
 . cases h
end Go.Proofs.YtckpdliipjekgaaGreat
end
section
namespace Go.Proofs.YtckpdliipjekgaaGreat
open Go Go.Wk Go.Wl Go.Rx Go.Wa Go.Wa
theorem e14 {w0:World} {d:Nat} {x:Dk} {F:List Nat} (h:B9 d w0 x F) (ok:x.Ok) :
  A6 Tryz.prog 74 [.pointer (some ⟨d,0,none⟩)] w0 (fun v w'=>v=.int .i64 (c9 x)/\w'=w0):=by
 have h1:=ok.pos
 have h2:=ok.max
 obtain ⟨g1,g2,_⟩:=F9 ok
 refine a17 Tryz.func74 rfl rfl rfl rfl ?_
 refine k8 ?_
 refine b9 ?_
 refine j6 rfl ?_
 refine b8 ?_
 refine k8 ?_
 refine b9 ?_
 refine k9 rfl ?_
 refine a14 Tryz.call55 rfl (a6o h ok) rfl ?_
 refine c0f rfl rfl (by omega) rfl ?_
 refine c11 rfl rfl (by decide) rfl ?_
 refine j6 rfl ?_
 refine b8 ?_
 refine F4 ?_
 have e:IntKind.i64.wrap (((x.a0B.length:Int)-2).tdiv 2)=c9 x:=by
  show IntKind.i64.wrap (c9 x)=c9 x
  rw [I0]; omega
 show Value.int .i64 (IntKind.i64.wrap (((x.a0B.length:Int)-2).tdiv 2))=.int .i64 (c9 x)/\w0=w0
 rw [e]
 exact ⟨rfl,rfl⟩
theorem e1v {w0:World} {a d:Nat} {x:Dk} {F:List Nat} {cs:List Value} (h:B9 d w0 x F) (ok:x.Ok) (ha:Own w0 a 82 cs) (hc:cs[0]?=some (.pointer (some ⟨d,0,none⟩))) :
  A6 Tryz.prog 45 [.pointer (some ⟨a,0,none⟩)] w0 (fun v w'=>v=.int .i64 (c9 x * 256)/\w'=w0):=by
 obtain ⟨g1,g2,_⟩:=F9 ok
 refine a17 Tryz.func45 rfl rfl rfl rfl ?_
 refine k8 ?_
 refine b9 ?_
 refine j6 rfl ?_
 refine b8 ?_
 refine k8 ?_
 refine b9 ?_
 refine k9 rfl ?_
 refine r7 rfl rfl ?_
 refine q6 Tryz.runUnderlying82 rfl Tryz.sizeOf23 rfl rfl ?_
 refine C3 Tryz.isAgg23 rfl (Own.at ha hc) rfl ?_
 refine a14 Tryz.call74 rfl (e14 h ok) rfl ?_
 refine d6e rfl rfl (by omega) rfl ?_
 refine j6 rfl ?_
 refine b8 ?_
 refine F4 ?_
 show Value.int .i64 (c9 x * 256)=.int .i64 (c9 x * 256)/\w0=w0
 exact ⟨rfl,rfl⟩
def cRz (args:List (SV U)) (its:a7 U):Option (Q1 U):=match args with
 | [.ref i 0]=>(match lk its i with
  | some (.own 82 (.ref j 0::_))=>(match lk its j with
   | some (.ob 0 _ x)=>some ⟨[Dk.Ok x],[],.int .i64 (c9 x * 256)⟩
   | _=>none)
  | _=>none)
 | _=>none
theorem e1z (args:List (SV U)) (its:a7 U) (q:Q1 U) (h:cRz args its=some q) (ho:n6 q.ob):c0n Tryz.prog U eT Gl 45 args its q:=by
 unfold cRz at h
 split at h
 . rename_i i
   split at h
   . rename_i j r hi
     split at h
     . rename_i f x hj
       cases h
       intro ρ Z w vs _ hh ha
       obtain ⟨L,cs,hL,hbs,how,hr⟩:=hh _ _ hi
       obtain ⟨L2,Lf,hL2,hLf,hob⟩:=hh _ _ hj
       obtain ⟨v1,r1,rfl,h1,ha⟩:=Rep.a0H ha
       obtain rfl:=E4 ha
       cases h1 with | ref hL' =>
       rw [hL] at hL'; cases hL'
       obtain ⟨v2,r2,rfl,h2,_,hr⟩:=j8.cons_inv hr
       cases h2 with | ref hL' =>
       rw [hL2] at hL'; cases hL'
       have ok:x.Ok:=ho.1
       obtain ⟨g1,g2,_⟩:=F9 ok
       exact (e1v (show B9 L2.b w x Lf.bs from hob) ok how rfl).mono fun v w' ⟨e1,e2⟩=>by
        subst e1; subst e2
        exact ⟨Ext.refl _ _,.int fun _=>⟨by omega,by omega⟩,trivial⟩
     . cases h
   . cases h
 . cases h
end Go.Proofs.YtckpdliipjekgaaGreat
end
section
namespace Go.Proofs.YtckpdliipjekgaaGreat
open Go Go.Wk Go.Wl Go.Rx Go.Wa 
def NRz:Env:=e4k.a6N 45 cRz
theorem b7s:l7 NRz:=d1l.a6N Tryz.call45 e1z
end Go.Proofs.YtckpdliipjekgaaGreat
end
section
namespace Go.Proofs.YtckpdliipjekgaaGreat
open Go Go.Wk Go.Wl Go.Rx Go.Wa 
attribute [local irreducible] o9
def e2w:Nat->Ann:=fun | 17=>⟨26,nn,nn⟩ | _=>⟨0,nn,nn⟩
def Vrm (tn:Int) (hf:Int) (bt:Str) (rs:List Str) (wt:List Str) (pd:Prop) (dd:Decidable pd) (x:Dk) (Q:Int->Int->Int->Str->List Str->List Str->Bool->Dk->Prop):Prop :=
x.Ok/\i6 (c9 x * 256-(↑(List.length bt):Int))/\SmL wt/\i6 (c9 x * 256-(↑(List.length bt):Int)-z8 wt)/\Q (c9 x * 256-(↑(List.length bt):Int)-z8 wt) tn hf bt rs wt (decide pd) x
theorem b6o:∀ (l:List Str) (x:Int),(∀ s∈l,s.length<=1000000)->0<=x->0<=a1y x l/\a1y x l<=x+1000007 * l.length
 | [],x,_,h0=>⟨h0,by show x<=x+1000007 * ((0:Nat):Int); omega⟩
 | s::r,x,h,h0=>by
  have hs:=h s (b6B ..)
  have h1:=b6o r (x+(7+(s.length:Int))) (fun t ht=>h t (b5O _ ht)) (by omega)
  rw [a1y,b4F]
  split <;> omega
set_option maxHeartbeats 4000000 in
theorem prm (tn:Int) (hf:Int) (bt:Str) (rs:List Str) (wt:List Str) (pd:Prop) (dd:Decidable pd) (x:Dk) (hb:LgB (⟨tn,hf,bt,rs,wt,decide pd,x⟩:Lg)):Vrm tn hf bt rs wt pd dd x (fun y0 y1 y2 y3 y4 y5 y6 y7=>y0=(c9 x * 256-(List.length (α:=UInt8) bt:Int)-z8 wt)/\y1=tn/\y2=hf/\y3=bt/\y4=rs/\y5=wt/\y6=(decide pd)/\y7=x):=by
 unfold Vrm
 obtain ⟨ok,h0,h1,hb,t0,t1,hn,hw,hp⟩:=hb
 have ok:x.Ok:=ok
 have hb:bt.length<=2000000:=hb
 have hw:SmL wt:=hw
 obtain ⟨g0,g1,_⟩:=F9 ok
 have hq:0<=z8 wt/\z8 wt<=1000007 * wt.length:=by
  have:=b6o wt 0 hw.2 (b5G 0)
  exact ⟨this.1,by have:=this.2; show a1y 0 wt<=_; omega⟩
 have:=hw.1
 refine ⟨ok,⟨by omega,by omega⟩,hw,?_,rfl,rfl,rfl,rfl,rfl,rfl,rfl,rfl⟩
 generalize z8 wt=z at hq
 exact ⟨by omega,by omega⟩
def e6m (tn:Int) (hf:Int) (bt:Str) (rs:List Str) (wt:List Str) (pd:Prop) (dd:Decidable pd) (x:Dk):FR U:=K8 NRz [LgB (⟨tn,hf,bt,rs,wt,decide pd,x⟩:Lg)] [(0,.own 82 [.ref 1 0,.int .i64 tn,.int .i64 hf,.str bt,.acc 2,.acc 3,.bl pd dd]),(1,.ob (N:=U) 0 5 x),(2,.ac (N:=U) 9 rs),(3,.ac (N:=U) 9 wt)] 8 1 [.slot 0 (.int .i64),.tree [] [.own (some 200) 82 [.to 1,.v (.int .i64),.v (.int .i64),.v (.str),.v (.acc 9),.v (.acc 9),.v (.bool)],.ob (some 201) 0]] ((c9 x * 256-(List.length (α:=UInt8) bt:Int)-z8 wt),((tn,hf,bt,rs,wt,(decide pd),()),x,()),())
def frm:FC U:=⟨[],[],fun a its=>match a,its with | [.ref 0 0],[(0,.own 82 [.ref 1 0,.int .i64 tn,.int .i64 hf,.str bt,.acc 2,.acc 3,.bl pd dd]),(1,.ob 0 5 x),(2,.ac 9 rs),(3,.ac 9 wt)]=>some (e6m tn hf bt rs wt pd dd x) | _,_=>none⟩
set_option maxHeartbeats 4000000 in
theorem d7v (args:List (SV U)) (its:a7 U) (r:FR U) (h:frm.C args its=some r) (ho:n6 r.ob):r6 Tryz.prog U eT Gl 17 args its (2 * its.length) (fun k=>n6 r.hy->k r.v r.its r.n):=by
 unfold frm at h
 simp only at h
 split at h
 . rename_i tn hf bt pd dd x rs wt
   cases h
   exact G8 (an:=e2w 17) b7s (l5 b7s C2 e2w 3) Tryz.func17 (n:=1) rfl (vs:=[.slot 0 (.int .i64),.tree [] [.own (some 200) 82 [.to 1,.v (.int .i64),.v (.int .i64),.v (.str),.v (.acc 9),.v (.acc 9),.v (.bool)],.ob (some 201) 0]]) (X:=((c9 x * 256-(List.length (α:=UInt8) bt:Int)-z8 wt),((tn,hf,bt,rs,wt,(decide pd),()),x,()),())) rfl (kc (prm tn hf bt rs wt pd dd x ho.1) (by kernel_rfl))
 . cases h
def Nrm:Env:=(NRz.a0K 17 Tryz.f17).a0N 17 frm
theorem a9n:l7 Nrm:=(b7s.a0K Tryz.call17 Tryz.func17).a0N Tryz.call17 d7v
def d2c:Nat->Ann:=fun | 22=>⟨36,nn,nn⟩ | _=>⟨0,nn,nn⟩
def Vap (tn:Int) (hf:Int) (bt:Str) (rs:List Str) (wt:List Str) (pd:Prop) (dd:Decidable pd) (x:Dk) (l:List Str) (Q:Err->Int->Int->Str->List Str->List Str->Bool->Dk->Prop):Prop :=
(pd->(Err.no (9:Int)≠Err.nil->Q (Err.no (9:Int)) tn hf bt rs wt (decide pd) x)/\(¬Err.no (9:Int)≠Err.nil->SmL l/\((l6 l).snd≠Err.nil->Q (l6 l).snd tn hf bt rs wt (decide pd) x)/\(¬(l6 l).snd≠Err.nil->LgB (Lg.mk tn hf bt rs wt (decide pd) x)/\(c9 x * 256-(↑(List.length bt):Int)-z8 wt<(↑(List.length (l6 l).fst):Int)->Q (Err.no (6:Int)) tn hf bt rs wt (decide (decide pd=true)) x)/\(¬c9 x * 256-(↑(List.length bt):Int)-z8 wt<(↑(List.length (l6 l).fst):Int)->(wt.length+l.length) * (some (16:Nat)).getD (0:Nat)<=140737488355328/\Q Err.nil tn hf bt rs (wt++l) (decide (decide pd=true)) x))))/\(¬pd->(Err.nil≠Err.nil->Q Err.nil tn hf bt rs wt (decide pd) x)/\(¬Err.nil≠Err.nil->SmL l/\((l6 l).snd≠Err.nil->Q (l6 l).snd tn hf bt rs wt (decide pd) x)/\(¬(l6 l).snd≠Err.nil->LgB (Lg.mk tn hf bt rs wt (decide pd) x)/\(c9 x * 256-(↑(List.length bt):Int)-z8 wt<(↑(List.length (l6 l).fst):Int)->Q (Err.no (6:Int)) tn hf bt rs wt (decide (decide pd=true)) x)/\(¬c9 x * 256-(↑(List.length bt):Int)-z8 wt<(↑(List.length (l6 l).fst):Int)->(wt.length+l.length) * (some (16:Nat)).getD (0:Nat)<=140737488355328/\Q Err.nil tn hf bt rs (wt++l) (decide (decide pd=true)) x))))
set_option maxHeartbeats 1000000 in
theorem pap (tn:Int) (hf:Int) (bt:Str) (rs:List Str) (wt:List Str) (pd:Prop) (dd:Decidable pd) (x:Dk) (l:List Str) (hb:LgB (⟨tn,hf,bt,rs,wt,decide pd,x⟩:Lg)) (hl:SmL l):Vap tn hf bt rs wt pd dd x l (fun y0 y1 y2 y3 y4 y5 y6 y7=>y0=(B5 (⟨tn,hf,bt,rs,wt,decide pd,x⟩:Lg) l).1/\y1=((B5 (⟨tn,hf,bt,rs,wt,decide pd,x⟩:Lg) l).2).turn/\y2=((B5 (⟨tn,hf,bt,rs,wt,decide pd,x⟩:Lg) l).2).half/\y3=((B5 (⟨tn,hf,bt,rs,wt,decide pd,x⟩:Lg) l).2).bytes/\y4=((B5 (⟨tn,hf,bt,rs,wt,decide pd,x⟩:Lg) l).2).a0Y/\y5=((B5 (⟨tn,hf,bt,rs,wt,decide pd,x⟩:Lg) l).2).wait/\y6=((B5 (⟨tn,hf,bt,rs,wt,decide pd,x⟩:Lg) l).2).dead/\y7=((B5 (⟨tn,hf,bt,rs,wt,decide pd,x⟩:Lg) l).2).d):=by
 unfold Vap B5
 have e9:Err.no 9≠Err.nil:=by simp
 have hn:rs.length+wt.length<=1000000:=hb.n
 have hl0:=hl.1
 have e16:(some 16).getD 0=16:=rfl
 have dd2:decide (decide pd=true)=decide pd:=b4J
 refine ⟨fun hd=>⟨fun _=>?_,fun h=>absurd e9 h⟩,fun hd=>⟨fun h=>absurd rfl h,fun _=>⟨hl,fun h3=>?_,fun h3=>⟨hb,fun h4=>?_,fun h4=>⟨by rw [e16]; omega,?_⟩⟩⟩⟩⟩
 . rw [if_pos (show (⟨tn,hf,bt,rs,wt,decide pd,x⟩:Lg).dead=true from b4R hd)]; exact ⟨rfl,rfl,rfl,rfl,rfl,rfl,rfl,rfl⟩
 . rw [if_neg (show ¬ (⟨tn,hf,bt,rs,wt,decide pd,x⟩:Lg).dead=true from fun h=>hd (b3V h)),if_pos h3]; exact ⟨rfl,rfl,rfl,rfl,rfl,rfl,rfl,rfl⟩
 . rw [if_neg (show ¬ (⟨tn,hf,bt,rs,wt,decide pd,x⟩:Lg).dead=true from fun h=>hd (b3V h)),if_neg h3,if_pos (show a1W ⟨tn,hf,bt,rs,wt,decide pd,x⟩<((l6 l).1.length:Int) from h4)]; exact ⟨rfl,rfl,rfl,rfl,rfl,rfl,dd2,rfl⟩
 . rw [if_neg (show ¬ (⟨tn,hf,bt,rs,wt,decide pd,x⟩:Lg).dead=true from fun h=>hd (b3V h)),if_neg h3,if_neg (show ¬ a1W ⟨tn,hf,bt,rs,wt,decide pd,x⟩<((l6 l).1.length:Int) from h4)]; exact ⟨rfl,rfl,rfl,rfl,rfl,rfl,dd2,rfl⟩
def e6i (tn:Int) (hf:Int) (bt:Str) (rs:List Str) (wt:List Str) (pd:Prop) (dd:Decidable pd) (x:Dk) (l:List Str):FR U:=K8 Nrm [LgB (⟨tn,hf,bt,rs,wt,decide pd,x⟩:Lg),SmL l] [(0,.own 82 [.ref 1 0,.int .i64 tn,.int .i64 hf,.str bt,.acc 2,.acc 3,.bl pd dd]),(1,.ob (N:=U) 0 5 x),(2,.ac (N:=U) 9 rs),(3,.ac (N:=U) 9 wt)] 8 1 [.slot 0 (.err),.tree [] [.own (some 200) 82 [.to 1,.v (.int .i64),.v (.int .i64),.v (.str),.v (.acc 9),.v (.acc 9),.v (.bool)],.ob (some 201) 0]] ((B5 (⟨tn,hf,bt,rs,wt,decide pd,x⟩:Lg) l).1,((((B5 (⟨tn,hf,bt,rs,wt,decide pd,x⟩:Lg) l).2).turn,((B5 (⟨tn,hf,bt,rs,wt,decide pd,x⟩:Lg) l).2).half,((B5 (⟨tn,hf,bt,rs,wt,decide pd,x⟩:Lg) l).2).bytes,((B5 (⟨tn,hf,bt,rs,wt,decide pd,x⟩:Lg) l).2).a0Y,((B5 (⟨tn,hf,bt,rs,wt,decide pd,x⟩:Lg) l).2).wait,((B5 (⟨tn,hf,bt,rs,wt,decide pd,x⟩:Lg) l).2).dead,()),((B5 (⟨tn,hf,bt,rs,wt,decide pd,x⟩:Lg) l).2).d,()),())
def fap:FC U:=⟨[1],[],fun a its=>match a,its with | [.ref 0 0,.sl 9 l],[(0,.own 82 [.ref 1 0,.int .i64 tn,.int .i64 hf,.str bt,.acc 2,.acc 3,.bl pd dd]),(1,.ob 0 5 x),(2,.ac 9 rs),(3,.ac 9 wt)]=>some (e6i tn hf bt rs wt pd dd x l) | _,_=>none⟩
set_option maxHeartbeats 1000000 in
theorem c6v (args:List (SV U)) (its:a7 U) (r:FR U) (h:fap.C args its=some r) (ho:n6 r.ob):r6 Tryz.prog U eT Gl 22 args its (2 * its.length) (fun k=>n6 r.hy->k r.v r.its r.n):=by
 unfold fap at h
 simp only at h
 split at h
 . rename_i l tn hf bt pd dd x rs wt
   cases h
   exact G8 (an:=d2c 22) a9n (l5 a9n C2 d2c 3) Tryz.func22 (n:=1) rfl (vs:=[.slot 0 (.err),.tree [] [.own (some 200) 82 [.to 1,.v (.int .i64),.v (.int .i64),.v (.str),.v (.acc 9),.v (.acc 9),.v (.bool)],.ob (some 201) 0]]) (X:=((B5 (⟨tn,hf,bt,rs,wt,decide pd,x⟩:Lg) l).1,((((B5 (⟨tn,hf,bt,rs,wt,decide pd,x⟩:Lg) l).2).turn,((B5 (⟨tn,hf,bt,rs,wt,decide pd,x⟩:Lg) l).2).half,((B5 (⟨tn,hf,bt,rs,wt,decide pd,x⟩:Lg) l).2).bytes,((B5 (⟨tn,hf,bt,rs,wt,decide pd,x⟩:Lg) l).2).a0Y,((B5 (⟨tn,hf,bt,rs,wt,decide pd,x⟩:Lg) l).2).wait,((B5 (⟨tn,hf,bt,rs,wt,decide pd,x⟩:Lg) l).2).dead,()),((B5 (⟨tn,hf,bt,rs,wt,decide pd,x⟩:Lg) l).2).d,()),())) rfl (kc (pap tn hf bt rs wt pd dd x l ho.1 ho.2.1) (by kernel_rfl))
 . cases h
def Nap:Env:=(Nrm.a0K 22 Tryz.f22).a0N 22 fap
theorem e1r:l7 Nap:=(a9n.a0K Tryz.call22 Tryz.func22).a0N Tryz.call22 c6v
def e6d (tn:Int) (hf:Int) (bt:Str) (rs:List Str) (wt:List Str) (pd:Prop) (dd:Decidable pd) (x:Dk) (l:List Str):PT U:=fun k=>cj [LgB (⟨tn,hf,bt,rs,wt,decide pd,x⟩:Lg),SmL l] (∀ (e':Err) (tn':Int) (hf':Int) (bt':Str) (rs':List Str) (wt':List Str) (dd':Bool) (x':Dk),(e',(⟨tn',hf',bt',rs',wt',dd',x'⟩:Lg))=B5 (⟨tn,hf,bt,rs,wt,decide pd,x⟩:Lg) l->a3r Nrm [(0,.own 82 [.ref 1 0,.int .i64 tn,.int .i64 hf,.str bt,.acc 2,.acc 3,.bl pd dd]),(1,.ob (N:=U) 0 5 x),(2,.ac (N:=U) 9 rs),(3,.ac (N:=U) 9 wt)] 8 1 [[.slot 0 (.err),.tree [] [.own (some 200) 82 [.to 1,.v (.int .i64),.v (.int .i64),.v (.str),.v (.acc 9),.v (.acc 9),.v (.bool)],.ob (some 201) 0]]] (([],(e',((tn',hf',bt',rs',wt',dd',()),x',()),())),()) k)
def gap:GD U:=⟨[1],[],fun a its=>match a,its with | [.ref 0 0,.sl 9 l],[(0,.own 82 [.ref 1 0,.int .i64 tn,.int .i64 hf,.str bt,.acc 2,.acc 3,.bl pd dd]),(1,.ob 0 5 x),(2,.ac 9 rs),(3,.ac 9 wt)]=>some (e6d tn hf bt rs wt pd dd x l) | _,_=>none⟩
set_option maxHeartbeats 4000000 in
theorem e0z (args:List (SV U)) (its:a7 U) (S:PT U) (h:gap.C args its=some S):r6 Tryz.prog U eT Gl 22 args its (2 * its.length) S:=by
 unfold gap at h
 simp only at h
 split at h
 . rename_i l tn hf bt pd dd x rs wt
   cases h
   intro k hk
   obtain ⟨ho,hk⟩:=R2 hk
   exact a44 (an:=d2c 22) a9n (l5 a9n C2 d2c 3) Tryz.func22 (n:=1) rfl (ss:=[[.slot 0 (.err),.tree [] [.own (some 200) 82 [.to 1,.v (.int .i64),.v (.int .i64),.v (.str),.v (.acc 9),.v (.acc 9),.v (.bool)],.ob (some 201) 0]]]) (R:=(([],((B5 (⟨tn,hf,bt,rs,wt,decide pd,x⟩:Lg) l).1,((((B5 (⟨tn,hf,bt,rs,wt,decide pd,x⟩:Lg) l).2).turn,((B5 (⟨tn,hf,bt,rs,wt,decide pd,x⟩:Lg) l).2).half,((B5 (⟨tn,hf,bt,rs,wt,decide pd,x⟩:Lg) l).2).bytes,((B5 (⟨tn,hf,bt,rs,wt,decide pd,x⟩:Lg) l).2).a0Y,((B5 (⟨tn,hf,bt,rs,wt,decide pd,x⟩:Lg) l).2).wait,((B5 (⟨tn,hf,bt,rs,wt,decide pd,x⟩:Lg) l).2).dead,()),((B5 (⟨tn,hf,bt,rs,wt,decide pd,x⟩:Lg) l).2).d,()),())),())) (obs:=[]) rfl (fun _=>kc (pap tn hf bt rs wt pd dd x l ho.1 ho.2.1) (by kernel_rfl)) k (hk (B5 (⟨tn,hf,bt,rs,wt,decide pd,x⟩:Lg) l).1 (B5 (⟨tn,hf,bt,rs,wt,decide pd,x⟩:Lg) l).2.turn (B5 (⟨tn,hf,bt,rs,wt,decide pd,x⟩:Lg) l).2.half (B5 (⟨tn,hf,bt,rs,wt,decide pd,x⟩:Lg) l).2.bytes (B5 (⟨tn,hf,bt,rs,wt,decide pd,x⟩:Lg) l).2.a0Y (B5 (⟨tn,hf,bt,rs,wt,decide pd,x⟩:Lg) l).2.wait (B5 (⟨tn,hf,bt,rs,wt,decide pd,x⟩:Lg) l).2.dead (B5 (⟨tn,hf,bt,rs,wt,decide pd,x⟩:Lg) l).2.d rfl)
 . cases h
def e7j (tn:Int) (hf:Int) (bt:Str) (rs:List Str) (wt:List Str) (pd:Prop) (dd:Decidable pd) (x:Dk):PT U:=fun k=>cj [LgB (⟨tn,hf,bt,rs,wt,decide pd,x⟩:Lg)] (∀ (e':Err) (tn':Int) (hf':Int) (bt':Str) (rs':List Str) (wt':List Str) (dd':Bool) (x':Dk),(e',(⟨tn',hf',bt',rs',wt',dd',x'⟩:Lg))=u4 (⟨tn,hf,bt,rs,wt,decide pd,x⟩:Lg)->a3r Nwr [(0,.own 82 [.ref 1 0,.int .i64 tn,.int .i64 hf,.str bt,.acc 2,.acc 3,.bl pd dd]),(1,.ob (N:=U) 0 5 x),(2,.ac (N:=U) 9 rs),(3,.ac (N:=U) 9 wt)] 8 1 [[.slot 0 (.err),.tree [] [.own (some 200) 82 [.to 1,.v (.int .i64),.v (.int .i64),.v (.str),.v (.acc 9),.v (.acc 9),.v (.bool)],.ob (some 201) 0]]] (([],(e',((tn',hf',bt',rs',wt',dd',()),x',()),())),()) k)
def gsy:GD U:=⟨[],[],fun a its=>match a,its with | [.ref 0 0],[(0,.own 82 [.ref 1 0,.int .i64 tn,.int .i64 hf,.str bt,.acc 2,.acc 3,.bl pd dd]),(1,.ob 0 5 x),(2,.ac 9 rs),(3,.ac 9 wt)]=>some (e7j tn hf bt rs wt pd dd x) | _,_=>none⟩
set_option maxHeartbeats 4000000 in
theorem e05 (args:List (SV U)) (its:a7 U) (S:PT U) (h:gsy.C args its=some S):r6 Tryz.prog U eT Gl 23 args its (2 * its.length) S:=by
 unfold gsy at h
 simp only at h
 split at h
 . rename_i tn hf bt pd dd x rs wt
   cases h
   intro k hk
   obtain ⟨ho,hk⟩:=R2 hk
   exact a44 (an:=d2h 23) a9o (l5 a9o C2 d2h 3) Tryz.func23 (n:=1) rfl (ss:=[[.slot 0 (.err),.tree [] [.own (some 200) 82 [.to 1,.v (.int .i64),.v (.int .i64),.v (.str),.v (.acc 9),.v (.acc 9),.v (.bool)],.ob (some 201) 0]]]) (R:=(([],((u4 (⟨tn,hf,bt,rs,wt,decide pd,x⟩:Lg)).1,((((u4 (⟨tn,hf,bt,rs,wt,decide pd,x⟩:Lg)).2).turn,((u4 (⟨tn,hf,bt,rs,wt,decide pd,x⟩:Lg)).2).half,((u4 (⟨tn,hf,bt,rs,wt,decide pd,x⟩:Lg)).2).bytes,((u4 (⟨tn,hf,bt,rs,wt,decide pd,x⟩:Lg)).2).a0Y,((u4 (⟨tn,hf,bt,rs,wt,decide pd,x⟩:Lg)).2).wait,((u4 (⟨tn,hf,bt,rs,wt,decide pd,x⟩:Lg)).2).dead,()),((u4 (⟨tn,hf,bt,rs,wt,decide pd,x⟩:Lg)).2).d,()),())),())) (obs:=[]) rfl (fun _=>kc (psy tn hf bt rs wt pd dd x ho.1) (by kernel_rfl)) k (hk (u4 (⟨tn,hf,bt,rs,wt,decide pd,x⟩:Lg)).1 (u4 (⟨tn,hf,bt,rs,wt,decide pd,x⟩:Lg)).2.turn (u4 (⟨tn,hf,bt,rs,wt,decide pd,x⟩:Lg)).2.half (u4 (⟨tn,hf,bt,rs,wt,decide pd,x⟩:Lg)).2.bytes (u4 (⟨tn,hf,bt,rs,wt,decide pd,x⟩:Lg)).2.a0Y (u4 (⟨tn,hf,bt,rs,wt,decide pd,x⟩:Lg)).2.wait (u4 (⟨tn,hf,bt,rs,wt,decide pd,x⟩:Lg)).2.dead (u4 (⟨tn,hf,bt,rs,wt,decide pd,x⟩:Lg)).2.d rfl)
 . cases h
def e7r (tn:Int) (hf:Int) (bt:Str) (rs:List Str) (wt:List Str) (pd:Prop) (dd:Decidable pd) (x:Dk) (l:List Str):PT U:=fun k=>cj [LgB (⟨tn,hf,bt,rs,wt,decide pd,x⟩:Lg),SmL l] (∀ (e':Err) (tn':Int) (hf':Int) (bt':Str) (rs':List Str) (wt':List Str) (dd':Bool) (x':Dk),(e',(⟨tn',hf',bt',rs',wt',dd',x'⟩:Lg))=s7 (⟨tn,hf,bt,rs,wt,decide pd,x⟩:Lg) l->a3r Nsy [(0,.own 82 [.ref 1 0,.int .i64 tn,.int .i64 hf,.str bt,.acc 2,.acc 3,.bl pd dd]),(1,.ob (N:=U) 0 5 x),(2,.ac (N:=U) 9 rs),(3,.ac (N:=U) 9 wt)] 8 1 [[.slot 0 (.err),.tree [] [.own (some 200) 82 [.to 1,.v (.int .i64),.v (.int .i64),.v (.str),.v (.acc 9),.v (.acc 9),.v (.bool)],.ob (some 201) 0]]] (([],(e',((tn',hf',bt',rs',wt',dd',()),x',()),())),()) k)
def gco:GD U:=⟨[1],[],fun a its=>match a,its with | [.ref 0 0,.sl 9 l],[(0,.own 82 [.ref 1 0,.int .i64 tn,.int .i64 hf,.str bt,.acc 2,.acc 3,.bl pd dd]),(1,.ob 0 5 x),(2,.ac 9 rs),(3,.ac 9 wt)]=>some (e7r tn hf bt rs wt pd dd x l) | _,_=>none⟩
set_option maxHeartbeats 4000000 in
theorem d8a (args:List (SV U)) (its:a7 U) (S:PT U) (h:gco.C args its=some S):r6 Tryz.prog U eT Gl 24 args its (2 * its.length) S:=by
 unfold gco at h
 simp only at h
 split at h
 . rename_i l tn hf bt pd dd x rs wt
   cases h
   intro k hk
   obtain ⟨ho,hk⟩:=R2 hk
   exact a44 (an:=d2b 24) a7f (l5 a7f C2 d2b 3) Tryz.func24 (n:=1) rfl (ss:=[[.slot 0 (.err),.tree [] [.own (some 200) 82 [.to 1,.v (.int .i64),.v (.int .i64),.v (.str),.v (.acc 9),.v (.acc 9),.v (.bool)],.ob (some 201) 0]]]) (R:=(([],((s7 (⟨tn,hf,bt,rs,wt,decide pd,x⟩:Lg) l).1,((((s7 (⟨tn,hf,bt,rs,wt,decide pd,x⟩:Lg) l).2).turn,((s7 (⟨tn,hf,bt,rs,wt,decide pd,x⟩:Lg) l).2).half,((s7 (⟨tn,hf,bt,rs,wt,decide pd,x⟩:Lg) l).2).bytes,((s7 (⟨tn,hf,bt,rs,wt,decide pd,x⟩:Lg) l).2).a0Y,((s7 (⟨tn,hf,bt,rs,wt,decide pd,x⟩:Lg) l).2).wait,((s7 (⟨tn,hf,bt,rs,wt,decide pd,x⟩:Lg) l).2).dead,()),((s7 (⟨tn,hf,bt,rs,wt,decide pd,x⟩:Lg) l).2).d,()),())),())) (obs:=[]) rfl (fun _=>kc (pco tn hf bt rs wt pd dd x l ho.1 ho.2.1) (by kernel_rfl)) k (hk (s7 (⟨tn,hf,bt,rs,wt,decide pd,x⟩:Lg) l).1 (s7 (⟨tn,hf,bt,rs,wt,decide pd,x⟩:Lg) l).2.turn (s7 (⟨tn,hf,bt,rs,wt,decide pd,x⟩:Lg) l).2.half (s7 (⟨tn,hf,bt,rs,wt,decide pd,x⟩:Lg) l).2.bytes (s7 (⟨tn,hf,bt,rs,wt,decide pd,x⟩:Lg) l).2.a0Y (s7 (⟨tn,hf,bt,rs,wt,decide pd,x⟩:Lg) l).2.wait (s7 (⟨tn,hf,bt,rs,wt,decide pd,x⟩:Lg) l).2.dead (s7 (⟨tn,hf,bt,rs,wt,decide pd,x⟩:Lg) l).2.d rfl)
 . cases h
def e47 (n:Int):PT U:=fun k=>cj [6<=n,n<=8192] (∀ (x':Dk),x'=(J4 (Dk.new n)).2->a3r c0t [] 0 2 [[.tree [(0,1),(1,0)] [.own none 82 [.to 1,.v (.int .i64),.v (.int .i64),.v (.str),.v (.acc 9),.v (.acc 9),.v (.bool)],.ob none 0]]] (([],((((1:Int),(0:Int),([]:Str),([]:List Str),([]:List Str),false,()),x',()),())),()) k)
def e0w:GD U:=⟨[],[],fun a its=>match a,its with | [.int .i64 n],[]=>some (e47 n) | _,_=>none⟩
set_option maxHeartbeats 4000000 in
theorem d2p (args:List (SV U)) (its:a7 U) (S:PT U) (h:e0w.C args its=some S):r6 Tryz.prog U eT Gl 21 args its (2 * its.length) S:=by
 unfold e0w at h
 simp only at h
 split at h
 . rename_i n
   cases h
   intro k hk
   obtain ⟨ho,hk⟩:=R2 hk
   exact a44 (an:=c14 21) a1i (l5 a1i C2 c14 3) Tryz.func21 (n:=2) rfl (ss:=[[.tree [(0,1),(1,0)] [.own none 82 [.to 1,.v (.int .i64),.v (.int .i64),.v (.str),.v (.acc 9),.v (.acc 9),.v (.bool)],.ob none 0]]]) (R:=(([],((((1:Int),(0:Int),([]:Str),([]:List Str),([]:List Str),false,()),(J4 (Dk.new n)).2,()),())),())) (obs:=[]) rfl (fun _=>kc (e4m n ho.1 ho.2.1) (by kernel_rfl)) k (hk _ rfl)
 . cases h
def b9z {α:Type} (l:List Nat) (f:Nat->Option α):Nat->Option α:=fun k=>bif l.elem k then none else f k
theorem b0g {α:Type} {l:List Nat} {f:Nat->Option α} {k:Nat} {x:α} (h:b9z l f k=some x):f k=some x:=by
 unfold b9z at h
 cases hb:l.elem k with
 | true=>rw [hb,b4G] at h; cases h
 | false=>rw [hb,b4X] at h; exact h
theorem b78 {α:Type} {l:List Nat} {f:Nat->Option α} {k:Nat} (h:(b9z l f k).isSome=true):(f k).isSome=true:=by
 obtain ⟨y,hy⟩:=b5T.1 h
 rw [b0g hy]; rfl
def d5y (E:Env) (l:List Nat):Env:=⟨E.P,E.N,E.T,E.ty,E.zob,E.con,E.a1Y,E.obc,E.inl,E.G,E.wrc,E.rws,b9z l E.fnc,E.roc,E.yl⟩
theorem c9h {E:Env} (h:l7 E) (l:List Nat):l7 (d5y E l) :=
 ⟨h.mixed,h.zob,h.call,h.inl,h.con,h.a1Y,h.obc,h.wrc,fun k hk=>h.a3K k (b78 hk),fun k o args its r ho hr hob=>h.fnc k o args its r (b0g ho) hr hob,h.a3N,h.roc,h.yl⟩
def NL:Env:=d5y Nap [22,23,24,21]
theorem c7c:l7 NL:=c9h e1r [22,23,24,21]
def HL:Nat->Option (GD U):=S7 21 e0w (S7 24 gco (S7 23 gsy (S7 22 gap (d6n))))
theorem a04:∀ K o args its S,HL K=some o->o.C args its=some S->r6 Tryz.prog U eT Gl K args its (2 * its.length) S:=I8 d2p (I8 d8a (I8 e05 (I8 e0z (C2))))
end Go.Proofs.YtckpdliipjekgaaGreat
end
section
namespace Go.Proofs.YtckpdliipjekgaaGreat
open Go Go.Wk Go.Wl Go.Rx Go.Wa Go.Wa
structure c8s (g:Lg):Prop where
 ok:g.d.Ok
 len:6<=g.d.a0B.length
 h0:0<=g.half
 h1:g.half<=1
 t0:1<=g.turn
 sr:ShL g.a0Y
 by_:g.bytes=i7 g.a0Y
 room:(g.bytes.length:Int)<=F8 g
structure e4f (g:Lg):Prop where
 l:Laid g
 was:∃ t h n:Int,0<=t/\t<g.turn/\ix g.d.a0B ((g.turn+1).tmod 2)=q5 t h n
theorem Run.b {g:Lg} (r:Run g):c8s g:=⟨r.pow.ok,r.len,r.h0,r.h1,r.t0,r.sr,r.by_,by have:=r.room; omega⟩
theorem c8s.run {g:Lg} {z:Dk} (r:c8s g) (p:Pow z) (hl:z.a0B.length=g.d.a0B.length):Run ⟨g.turn,g.half,g.bytes,g.a0Y,[],false,z⟩ :=
 ⟨p,by rw [hl]; exact r.len,r.h0,r.h1,r.t0,rfl,ShL.nil,r.sr,r.by_,by
  have h:=r.room
  have e:F8 ⟨g.turn,g.half,g.bytes,g.a0Y,[],false,z⟩=F8 g:=a5l hl
  rw [e]; show (g.bytes.length:Int)+((0:Nat):Int)<=_; omega⟩
theorem c8s.half {g:Lg} (r:c8s g) {hh:Int} (h0:0<=hh) (h1:hh<=1):c9 g.d=((g.d.a0B.length:Int)-2) / 2/\0<=c9 g.d/\(hh * c9 g.d=0/\hh=0 ∨ hh * c9 g.d=c9 g.d/\hh=1):=by
 obtain ⟨f0,f1,f2⟩:=F9 r.ok
 have hl:=r.len
 refine ⟨f2 (by omega),f0,?_⟩
 have hh':hh=0 ∨ hh=1:=by omega
 rcases hh' with e | e
 . left; exact ⟨by rw [e,b8B],e⟩
 . right; exact ⟨by rw [e,b8G],e⟩
structure M5 (g:Lg) (n:Nat):Prop where
 run:Run g
 laid:e4f g
 len:g.d.a0B.length=n
theorem c1j {g g':Lg} {hh th:Int} {by_:Str} (r:Run g) (l:Laid g) (h0:0<=hh) (h1:hh<=1) (h2:0<=th) (q:Put g.d g'.d (P9 g.d g.turn hh th by_)) (ht:g'.turn=g.turn+1):∃ t h n:Int,0<=t/\t<g'.turn/\ix g'.d.a0B ((g'.turn+1).tmod 2)=q5 t h n:=by
 have t0:=r.t0
 have hl:=r.len
 obtain ⟨m1,m2,m3,m4⟩:=a9s (t:=g.turn) (by omega)
 obtain ⟨f1,f0,fm⟩:=r.b.half h0 h1
 refine ⟨g.turn,g.half,(g.bytes.length:Int),by omega,by omega,?_⟩
 rw [ht,m4,q.at_ _ m2 (by omega)]
 unfold P9
 rw [if_neg (by omega), if_neg (by rintro ⟨_, h, _⟩; have : 0 <= th / 256 := by omega
                                   omega)]
 show Q7 g.d (g.turn.tmod 2)=_
 unfold Q7
 rw [l.fresh]
 exact l.hd
theorem b9a:q5 0 0 0=List.replicate 256 0:=by
 have e8:leB 0 8=List.replicate 8 0:=by decide
 have e1:leB 0 1=List.replicate 1 0:=by decide
 have e4:leB 0 4=List.replicate 4 0:=by decide
 unfold q5
 rw [e8,e1,e4]
 simp only [b7S]
theorem c7v {n:Int} (h6:6<=n) (h8:n<=8192):M5 ⟨1,0,[],[],[],false,(J4 (Dk.new n)).2⟩ n.toNat:=by
 have hN:(Dk.new n).a0B.length=n.toNat:=b3X
 have okn:(Dk.new n).Ok:=b9f (by omega) h8
 obtain ⟨y,e1,e2,r,l,z⟩:=b5f (x:=Dk.new n) ⟨okn,rfl,rfl⟩ (by omega)
 rw [e1]
 exact ⟨r,⟨l,0,0,0,b5G 0,by show (0:Int)<1; decide,by show ix y.a0B 0=_; rw [z,b9a]⟩,e2.trans hN⟩
theorem M5.app {g:Lg} {n:Nat} (h:M5 g n) (l:List Str) :
  (ShL l/\((i7 l).length:Int)<=a1W g/\B5 g l=(.nil,⟨g.turn,g.half,g.bytes,g.a0Y,g.wait++l,g.dead,g.d⟩)/\M5 ⟨g.turn,g.half,g.bytes,g.a0Y,g.wait++l,g.dead,g.d⟩ n) ∨
  ((¬ ShL l/\B5 g l=(.no 4,g)) ∨ (ShL l/\a1W g<((i7 l).length:Int)/\B5 g l=(.no 6,g))):=by
 by_cases hs:ShL l
 . by_cases hr:((i7 l).length:Int)<=a1W g
   . obtain ⟨a,b⟩:=d3j h.run hs hr
     exact .inl ⟨hs,hr,a,b,⟨⟨h.laid.l.fresh,h.laid.l.hd,h.laid.l.other,h.laid.l.data⟩,h.laid.was⟩,h.len⟩
   . exact .inr (.inr ⟨hs,by omega,c6k h.run hs (by omega)⟩)
 . exact .inr (.inl ⟨hs,e2b h.run hs⟩)
theorem M5.sync {g:Lg} {n:Nat} (h:M5 g n) (t2:g.turn<=1099511627776) :
  (g.wait=[]/\u4 g=(.nil,g)) ∨ (g.wait≠[]/\∃ y,u4 g=(.nil,⟨g.turn+1,g.half,g.bytes++i7 g.wait,g.a0Y++g.wait,[],false,y⟩)/\M5 ⟨g.turn+1,g.half,g.bytes++i7 g.wait,g.a0Y++g.wait,[],false,y⟩ n):=by
 by_cases hw:g.wait=[]
 . exact .inl ⟨hw,c3s h.run hw⟩
 . obtain ⟨y,e,q,r⟩:=c8g h.run hw
   have hl:=c33 h.run h.laid.l t2 q
   exact .inr ⟨hw,y,e,r,⟨hl,c1j (g':=⟨g.turn+1,g.half,g.bytes++i7 g.wait,g.a0Y++g.wait,[],false,y⟩) h.run h.laid.l h.run.h0 h.run.h1 (by omega) q rfl⟩,q.len.trans h.len⟩
theorem M5.comp {g:Lg} {n:Nat} (h:M5 g n) (t2:g.turn<=1099511627776) (l:List Str) :
  (ShL l/\((i7 l).length:Int)<=F8 g/\∃ y,s7 g l=(.nil,⟨g.turn+1,1-g.half,i7 l,l,[],false,y⟩)/\M5 ⟨g.turn+1,1-g.half,i7 l,l,[],false,y⟩ n) ∨ (¬ (ShL l/\((i7 l).length:Int)<=F8 g)/\(s7 g l).1≠.nil/\(s7 g l).2=g):=by
 have h0:=h.run.h0
 have h1:=h.run.h1
 by_cases hs:ShL l/\((i7 l).length:Int)<=F8 g
 . obtain ⟨y,e,q,r⟩:=c58 h.run hs.1 hs.2
   have hl:=c41 h.run h.laid.l t2 hs.2 q
   exact .inl ⟨hs.1,hs.2,y,e,r,⟨hl,c1j (g':=⟨g.turn+1,1-g.half,i7 l,l,[],false,y⟩) h.run h.laid.l (by omega) (by omega) (b5G 0) q rfl⟩,q.len.trans h.len⟩
 . exact .inr ⟨hs,d4c h.run hs⟩
theorem M5.lgB {g:Lg} {n:Nat} (h:M5 g n) (t:g.turn<=1099511627776):LgB g:=h.run.lgB (by omega)
theorem M5.size {g:Lg} {n:Nat} (h:M5 g n):F8 g=((n:Int)-2) / 2 * 256:=by
 have hl:=h.run.len
 obtain ⟨_,_,f2⟩:=F9 h.run.pow.ok
 unfold F8
 rw [f2 (by omega),h.len]
theorem M5.room {g:Lg} {n:Nat} (h:M5 g n):c9 g.d * 256-(g.bytes.length:Int)-z8 g.wait=((n:Int)-2) / 2 * 256-(g.bytes.length:Int)-((i7 g.wait).length:Int):=by
 have h1:=h.size
 have h2:=h.run.a1W
 rw [h1] at h2
 exact h2
theorem M5.a0Y {g:Lg} {n:Nat} (h:M5 g n):g.a0Y.length<=1000000:=by
 obtain ⟨s0,s1⟩:=h.run.size
 have hr:=h.run.room
 have f1:=K3 g.a0Y
 rw [<- h.run.by_] at f1
 omega
theorem a8x:Err.nr .nil=0:=rfl
theorem e3d {k:Int} (h0:1<=k) (h1:k<=16):Err.nr (.no k)=k:=by
 show (match Err.num (.no k) with | some n=>if 1<=n/\n<=16 then n else -1 | none=>-1)=k
 show (if 1<=k/\k<=16 then k else -1)=k
 rw [if_pos ⟨h0,h1⟩]
theorem Q2 (r:Str) (t:List Str):(i7 (r::t)).length=7+r.length+(i7 t).length:=by
 have e:i7 (r::t)=B4 r++i7 t:=by unfold i7; rw [b4W,b6C]
 rw [e,b3P,a0e]
theorem Z9:(i7 []).length=0:=rfl
theorem c87 {l:List Str} (h:l.all (fun s=>Nat.ble s.length 30000)=true):ShL l:=fun s hs=>by
 have:=b5A.1 h s hs
 exact b4T this
theorem c62 {l:List Str} (h:ShL l) (hl:l.length<=1000000):SmL l:=⟨hl,fun s hs=>by have:=h s hs; omega⟩
theorem a86 (a:List Str):v7 a a=true:=b4R rfl
end Go.Proofs.YtckpdliipjekgaaGreat
end
section
namespace Go.Proofs.YtckpdliipjekgaaGreat
open Go Go.Wk Go.Wl Go.Rx Go.Wa 
attribute [local irreducible] o9
def e4y:Nat->Ann:=fun | 7=>⟨79,nn,nn⟩ | _=>⟨0,nn,nn⟩
def Val  (Q:Bool->Prop):Prop :=
(6:Int)<=(10:Int) /\
 (10:Int)<=(8192:Int) /\
  ∀ (x':Dk),
   x'=(J4 (Dk.new (10:Int))).snd ->
    True ->
     LgB (Lg.mk (1:Int) (0:Int) [] [] [] (decide (false=true)) x') /\
      (c9 x' * (256:Int)-(↑([]:List UInt8).length:Int)-z8 []≠(1024:Int)->Q false) /\
       (¬c9 x' * (256:Int)-(↑([]:List UInt8).length:Int)-z8 []≠(1024:Int) ->
        LgB (Lg.mk (1:Int) (0:Int) [] [] [] (decide (decide (false=true)=true)) x') /\
         SmL [[(97:UInt8)]] /\
          ∀ (e':Err) (tn' hf':Int) (bt':List UInt8) (rs' wt':List (List UInt8)) (dd':Bool) (x'_1:Dk),
           (e',Lg.mk tn' hf' bt' rs' wt' dd' x'_1)=B5 (Lg.mk (1:Int) (0:Int) [] [] [] (decide (decide (false=true)=true)) x') [[(97:UInt8)]] ->
            True ->
             (e'.nr≠(0:Int)->Q false) /\
              (¬e'.nr≠(0:Int) ->
               LgB (Lg.mk tn' hf' bt' rs' wt' (decide (dd'=true)) x'_1) /\
                (c9 x'_1 * (256:Int)-(↑bt'.length:Int)-z8 wt'≠(1016:Int)->Q false) /\
                 (¬c9 x'_1 * (256:Int)-(↑bt'.length:Int)-z8 wt'≠(1016:Int) ->
                  ((↑wt'.length:Int)≠(1:Int)->Q false) /\
                   (¬(↑wt'.length:Int)≠(1:Int) ->
                    rs'.length<=(1000000:Nat) /\
                     ((↑rs'.length:Int)≠(0:Int)->Q false) /\
                      (¬(↑rs'.length:Int)≠(0:Int) ->
                       LgB (Lg.mk tn' hf' bt' rs' wt' (decide (decide (decide (decide (dd'=true)=true)=true)=true)) x'_1) /\
                        ∀ (e':Err) (tn'_1 hf'_1:Int) (bt'_1:List UInt8) (rs'_1 wt'_1:List (List UInt8)) (dd'_1:Bool) (x':Dk),
                         (e',Lg.mk tn'_1 hf'_1 bt'_1 rs'_1 wt'_1 dd'_1 x') =
                           u4 (Lg.mk tn' hf' bt' rs' wt' (decide (decide (decide (decide (dd'=true)=true)=true)=true)) x'_1) ->
                          True ->
                           (e'.nr≠(0:Int)->Q false) /\
                            (¬e'.nr≠(0:Int) ->
                             rs'_1.length<=(1000000:Nat) /\
                              rs'_1.length<=(1000000:Nat) /\
                               (v7 rs'_1 [[(97:UInt8)]]=true/\tn'_1=(2:Int) ->
                                 LgB (Lg.mk tn'_1 hf'_1 bt'_1 rs'_1 wt'_1 (decide (decide (decide (dd'_1=true)=true)=true)) x') /\
                                  SmL [[(98:UInt8)],[(99:UInt8)]] /\
                                   ∀ (e':Err) (tn' hf':Int) (bt':List UInt8) (rs' wt':List (List UInt8)) (dd':Bool) (x'_2:Dk),
                                    (e',Lg.mk tn' hf' bt' rs' wt' dd' x'_2) =
                                      s7 (Lg.mk tn'_1 hf'_1 bt'_1 rs'_1 wt'_1 (decide (decide (decide (dd'_1=true)=true)=true)) x')
                                       [[(98:UInt8)],[(99:UInt8)]] ->
                                     True ->
                                      (e'.nr=(0:Int) ->
                                        rs'.length<=(1000000:Nat) /\
                                         rs'.length<=(1000000:Nat) /\
                                          (v7 rs' [[(98:UInt8)],[(99:UInt8)]]=true ->
                                            LgB (Lg.mk tn' hf' bt' rs' wt' (decide (decide (dd'=true)=true)) x'_2) /\
                                             (c9 x'_2 * (256:Int)-(↑bt'.length:Int)-z8 wt'=(1008:Int)->Q (decide (tn'=(3:Int)))) /\
                                              (¬c9 x'_2 * (256:Int)-(↑bt'.length:Int)-z8 wt'=(1008:Int)->Q false)) /\
                                           (¬v7 rs' [[(98:UInt8)],[(99:UInt8)]]=true->Q false)) /\
                                       (¬e'.nr=(0:Int)->Q false)) /\
                                (¬(v7 rs'_1 [[(97:UInt8)]]=true/\tn'_1=(2:Int))->Q false)))))))
set_option maxHeartbeats 1000000 in
theorem pal   : Val  (fun y0=>y0=true):=by
 unfold Val
 simp only [b4J]
 refine ⟨by decide,by decide,?_⟩
 rintro x rfl _
 have L0:=c7v (n:=10) (by decide) (by decide)
 generalize (J4 (Dk.new 10)).2=x at L0 ⊢
 have R0:=L0.room
 have s1:ShL [[97]]:=c87 rfl
 have s2:ShL [[98],[99]]:=c87 rfl
 refine ⟨L0.lgB (by show (1:Int)<=_; decide),fun h=>absurd R0 h,fun _=>⟨L0.lgB (by show (1:Int)<=_; decide),c62 s1 (by decide),?_⟩⟩
 rintro e tn hf bt rs wt dd y he _
 rcases L0.app [[97]] with ⟨_,_,h1,L1⟩ | ⟨h,_⟩ | ⟨_,h,_⟩
 rotate_left
 . exact absurd s1 h
 . have R:a1W ⟨1,0,[],[],[],false,x⟩=1024:=R0
   rw [R,Q2,Z9] at h
   exact absurd h (by decide)
 rw [h1] at he
 simp only [b4P,Lg.mk.injEq] at he
 obtain ⟨rfl,rfl,rfl,rfl,rfl,rfl,rfl,rfl⟩:=he
 have R1:=L1.room
 simp only [b6A,Q2,Z9] at R1 L1 ⊢
 refine ⟨fun h=>absurd a8x h,fun _=>⟨L1.lgB (by show (1:Int)<=_; decide),fun h=>absurd R1 h,fun _=>⟨fun h=>absurd rfl h,fun _=>⟨by decide,fun h=>absurd rfl h,fun _=>⟨L1.lgB (by show (1:Int)<=_; decide),?_⟩⟩⟩⟩⟩
 rintro e tn hf bt rs wt dd y he _
 rcases L1.sync (by show (1:Int)<=_; decide) with ⟨h,_⟩ | ⟨_,z,h2,L2⟩
 . cases h
 rw [h2] at he
 simp only [b4P,Lg.mk.injEq] at he
 obtain ⟨rfl,rfl,rfl,rfl,rfl,rfl,rfl,rfl⟩:=he
 simp only [b6A] at L2 ⊢
 refine ⟨fun h=>absurd a8x h,fun _=>⟨by decide,by decide,fun _=>⟨L2.lgB (by show (1:Int)+1<=_; decide),c62 s2 (by decide),?_⟩,fun h=>absurd ⟨a86 _,rfl⟩ h⟩⟩
 rintro e tn hf bt rs wt dd y he _
 rcases L2.comp (by show (1:Int)+1<=_; decide) [[98],[99]] with ⟨_,_,z3,h3,L3⟩ | ⟨h,_⟩
 . rw [h3] at he
   simp only [b4P,Lg.mk.injEq] at he
   obtain ⟨rfl,rfl,rfl,rfl,rfl,rfl,rfl,rfl⟩:=he
   have R3:=L3.room
   simp only [Q2,Z9] at R3
   refine ⟨fun _=>⟨by decide,by decide,fun _=>⟨L3.lgB (by show (1:Int)+1+1<=_; decide),fun _=>rfl,fun h=>?_⟩,fun h=>absurd (a86 _) h⟩,fun h=>absurd a8x h⟩
   refine absurd ?_ h
   rw [show ((i7 [[98],[99]]).length:Int)=16 by rw [Q2,Q2,Z9]; rfl]
   exact R3
 . refine absurd ⟨s2,?_⟩ h
   rw [L2.size,Q2,Q2,Z9]
   decide
def cal (a:List (SV U)):Option (Q1 U):=match a with | []=>some ⟨[],[],blB true⟩ | _=>none
def Nal:Env:=NL.a1R 7 cal
theorem b83:l7 Nal:=c7c.a1R Tryz.call7 fun (args:List (SV U)) (q:Q1 U) (h:cal args=some q) ho=>by
 unfold cal at h
 split at h
 . cases h
   exact a05 (an:=e4y 7) c7c (l5 c7c a04 e4y 2) Tryz.func7 (k:=.bool) (x:=true) trivial (kc (pal  ) (by kernel_rfl)) 0
 . cases h
end Go.Proofs.YtckpdliipjekgaaGreat
end
section
namespace Go.Proofs.YtckpdliipjekgaaGreat
open Go Go.Wk Go.Wl Go.Rx Go.Wa Go.Wa
theorem b1w {z:Int} (h0:0<=z) (h1:z<4294967296):IntKind.u32.wrap (z.tdiv 2)=b4m z:=by
 have e:z.tdiv 2=z / 2:=b5P h0
 have e2:b4m z=z / 2:=by
  unfold b4m
  exact b5W z (by decide)
 rw [e,e2,W3]; omega
theorem c1y {z:Int} (h0:0<=z) (h1:z<4294967296):(IntKind.u32.wrap ((BitVec.ofInt IntKind.u32.bits z &&& BitVec.ofInt IntKind.u32.bits 1).toNat:Int)=1)↔z.tmod 2=1:=by
 have e:z.tmod 2=z % 2:=b5I h0
 show IntKind.u32.wrap ((BitVec.ofInt 32 z &&& BitVec.ofInt 32 1).toNat:Int)=1↔_
 rw [e,W3,BitVec.toNat_and]
 have hz:((BitVec.ofInt 32 z).toNat:Int)=z:=by rw [b9O]; omega
 have h2:(BitVec.ofInt 32 1).toNat=1:=by decide
 rw [h2,Nat.and_one_is_mod]
 omega
theorem d7p {z:Int} (h0:0<=z) (h1:z<4294967296):0<=b06 z/\b06 z<4294967296:=by
 unfold b06
 split
 . exact a6x _ _
 . rw [<- b1w h0 h1,W3]; omega
theorem d1h (x:Int):a77 x 4294967295=a77 (if IntKind.u32.signed=true then -1 else IntKind.u32.max) x:=by
 show a77 x 4294967295=a77 4294967295 x
 unfold a77
 rw [BitVec.xor_comm]
theorem b51 (x:Int):UInt8.ofInt (x % 256)=UInt8.ofInt x:=by
 unfold UInt8.ofInt
 congr 1
 omega
theorem b4p:∀ (s:Str) (k:Nat),leN (s.drop k)<=leN s
 | s,0=>by rw [b7E]; exact b5G _
 | [],_+1=>by rw [List.drop_nil]; exact b5G _
 | c::r,k+1=>by
  have h:=b4p r k
  have:=Y5 r
  rw [List.drop_succ_cons]
  show _<=(c.toNat:Int)+256 * leN r
  omega
theorem d8p {s:Str} {i:Int} (h0:0<=i) (h1:i<s.length):256 * leN (s.drop (i+1).toNat)+((ix s i).toNat:Int)=leN (s.drop i.toNat)/\leN (s.drop i.toNat)<=leN s:=by
 refine ⟨?_,b4p s _⟩
 rw [H5 h0 h1]
 show _=((ix s i).toNat:Int)+256 * leN _
 omega
theorem a7c:∀ {l:List (Int×Str)} {a:Int} {s:Str},G5 l a=some s->(a,s)∈l
 | p::r,a,s,h=>by
  unfold G5 at h
  split at h
  . rename_i u hu
    cases h
    exact b5O _ (a7c hu)
  . split at h
    . rename_i he
      cases h; subst he
      exact b6B ..
    . cases h
theorem b3v {x:Rk} (ok:x.Ok) {a:Int} {s:Str} (h:x.now a=some s):0<=a/\a<x.a0C.length/\s.length=256:=by
 have hm:=b8K (a7c h)
 obtain ⟨h0,h1⟩:=ok.inn a hm.1
 exact ⟨h0,h1,ok.a4B s hm.2⟩
theorem a55:∀ (L:List (Int×Str)) (l:List Str),(L.foldl a0h l).length=l.length
 | [],_=>rfl
 | p::r,l=>by rw [b7T,a55 r,a0h,b6G]
theorem b73 {ta:List Int} {fr la:List Str} {i:Int} (h0:0<=i) (h1:i<ta.length) (hs:ta.length=fr.length) :
  ((ta.zip fr).take (i+1).toNat).foldl a0h la=(((ta.zip fr).take i.toNat).foldl a0h la).set (ix ta i).toNat (ix fr i):=by
 have hl:i.toNat<(ta.zip fr).length:=by rw [List.length_zip]; omega
 rw [show (i+1).toNat=i.toNat+1 by omega,b9W,b3T hl,b7X,List.getElem_zip]
 rw [C5 (show i.toNat<ta.length by omega),C5 (show i.toNat<fr.length by omega)]
 rfl
theorem b17 {x:Rk}:x.flush=if x.Left=0 then (9,{ x with Off:=true }) else if x.Off=true then (9,x) else
  (0,⟨(x.At.zip x.a0D).foldl a0h x.a0C,[],[],if 0<x.Left then x.Left-1 else x.Left,x.Off⟩):=by
 unfold Rk.flush Rk.act
 repeat' split
 all_goals first | rfl | contradiction | simp_all
theorem b1n (x:Rk):∀ (kk:List Int) (l:List Str),(kk.foldl (X4 x) l).length=l.length
 | [],_=>rfl
 | k::r,l=>by
  rw [b7T,b1n x r]
  unfold X4
  split
  . rw [b6G]
  . rfl
theorem a8b {x:Rk} {kk:List Int} {l:List Str} {i:Int} (h0:0<=i) (h1:i<kk.length):(kk.take (i+1).toNat).foldl (X4 x) l=X4 x ((kk.take i.toNat).foldl (X4 x) l) (ix kk i):=by
 have hl:i.toNat<kk.length:=by omega
 rw [show (i+1).toNat=i.toNat+1 by omega,b9W,b3T hl,b7X,C5 hl]
 rfl
theorem c46 (x:Rk) (t c:Int):(x.a0W t c).length=x.a0C.length:=by
 unfold Rk.a0W
 split
 . rw [b6G]
 . rfl
def l9:Rk->Int->List Str->Int×Rk
 | x,_,[]=>x.flush
 | x,a,b::r=>if (x.write a b).1=0 then l9 (x.write a b).2 (a+1) r else x.write a b
def shN (l:List Str):Int:=if ShL l then 0 else 4
theorem b25:∀ (b:Str),leB (leN b) b.length=b
 | []=>rfl
 | c::r=>by
  have hc:c.toNat<256:=c.toNat_lt
  rw [b4F,leB]
  have e:leN (c::r)=(c.toNat:Int)+256 * leN r:=rfl
  rw [e,b5W _ (by decide),show ((c.toNat:Int)+256 * leN r) / 256=leN r by omega,b25 r]
  congr 1
  rw [<- b51,show ((c.toNat:Int)+256 * leN r) % 256=(c.toNat:Int) by omega]
  apply b8I.1
  have:=b0u (c.toNat:Int)
  omega
theorem e1c {b:Str} {x:Int} (hb:b.length=4) (h:x=R6 b):b=leB x 4:=by
 have h1:=a5y b
 have h0:=Y5 b
 rw [hb] at h1
 have h1:leN b<4294967296:=h1
 have e:R6 b=leN b:=by unfold R6; rw [W3]; omega
 rw [h,e]
 have:=b25 b
 rw [hb] at this
 exact this.symm
theorem c0c {r:Str} (h0:0<=C7 r) (h1:C7 r<=30000) (h2:7+C7 r<=r.length) :
  r.take (7+C7 r).toNat=B4 ((r.take (7+C7 r).toNat).drop 7)↔(C4 r).2.2=.nil:=by
 have hl:(r.take (7+C7 r).toNat).length=(7+C7 r).toNat:=by rw [b3U]; omega
 have hc:((r.take (7+C7 r).toNat).drop 7).length=(C7 r).toNat:=by rw [b3W,hl]; omega
 have hr:r.take (7+C7 r).toNat=r.take 3++(r.take 7).drop 3++(r.take (7+C7 r).toNat).drop 7:=by
  have a1:(r.take 7)=r.take 3++(r.take 7).drop 3:=by
   have:=(b6I 3 (r.take 7)).symm
   rw [List.take_take] at this
   exact this
  have a2:(r.take (7+C7 r).toNat)=r.take 7++(r.take (7+C7 r).toNat).drop 7:=by
   have:=(b6I 7 (r.take (7+C7 r).toNat)).symm
   rw [List.take_take,show min 7 (7+C7 r).toNat=7 by omega] at this
   exact this
  rw [<- a1]; exact a2
 generalize hR:(r.take (7+C7 r).toNat).drop 7=c at hr hc
 have hlong:H7 c=r.take 3:=by
  have h3:(r.take 3).length=3:=by rw [b3U]; omega
  have:=b25 (r.take 3)
  rw [h3] at this
  unfold H7
  have e:(c.length:Int)+1=leN (r.take 3):=by
   have:C7 r=leN (r.take 3)-1:=rfl
   omega
  rw [e]; exact this
 have h4:((r.take 7).drop 3).length=4:=by rw [b3W,b3U]; omega
 have key:r.take (7+C7 r).toNat=B4 c↔K7 [r.take 3,c]=R6 ((r.take 7).drop 3):=by
  rw [hr]
  unfold B4
  rw [hlong]
  constructor
  . intro h
    have h:=List.append_cancel_right h
    have h:=List.append_cancel_left h
    rw [h,c9n (a4j _).1 (a4j _).2]
  . intro h
    rw [<- e1c h4 h]
 rw [key]
 unfold C4
 rw [if_neg (by omega),if_neg (by omega),if_neg (by omega),hR]
 constructor
 . intro h; rw [if_neg (fun hn=>hn h)]
 . intro h
   split at h
   . simp at h
   . rename_i hn; exact b4N.1 hn
theorem c5w {r:Str} (h:(C4 r).2.2=.nil):C4 r=((r.take (7+C7 r).toNat).drop 7,r.drop (7+C7 r).toNat,.nil):=by
 unfold C4 at h ⊢
 repeat' split
 all_goals first | rfl | (rename_i hh; simp_all)
theorem b7n {r:Str} (h:(r.length:Int)<7 ∨ (C7 r<0 ∨ 30000<C7 r) ∨ (r.length:Int)<7+C7 r):(C4 r).2.2≠.nil:=by
 unfold C4
 split
 . simp
 split
 . simp
 split
 . simp
 . omega
theorem a5r {s:Str} {l:List Str} {i:Int} (i0:0<=i) (i1:i<=s.length) (h0:l++o4 (s.drop i.toNat)=o4 s) (h1:D8 (s.drop i.toNat)=D8 s) (h:(C4 (s.drop i.toNat)).2.2≠.nil) :
  l=o4 s/\i=(s.length:Int)-((D8 s).length:Int):=by
 rw [P2 h,b4M] at h0
 rw [U2 h] at h1
 rw [<- h1,b3W]
 exact ⟨h0,by omega⟩
end Go.Proofs.YtckpdliipjekgaaGreat
end
section
namespace Go.Proofs.YtckpdliipjekgaaGreat
open Go Go.Wk Go.Wl Go.Rx Go.Wa 
attribute [local irreducible] o9
def e42:Nat->Ann:=fun | 83=>⟨32,fun | 3=>some ⟨[0],[.slot 3 (.int .u32),.slot 4 (.int .i64)]⟩ | 7=>some ⟨[0,4],[.slot 3 (.int .u32),.slot 5 (.int .i64)]⟩ | _=>none,nn⟩ | _=>⟨0,nn,nn⟩
def e21 (x_2:Int):=IntKind.u32.wrap (↑(BitVec.ofInt IntKind.u32.bits (IntKind.u32.wrap (x_2.tdiv (2:Int))) ^^^ BitVec.ofInt IntKind.u32.bits (3988292384:Int)).toNat:Int)
def VfS (s:Str) (Q:Int->Prop):Prop :=
∃ (I:Int->Int->Prop),∃ (m:Int->Int->Nat),I (4294967295:Int) (0:Int)/\∀ (x x_1:Int),I x x_1->(x_1<(↑(List.length s):Int)->(0:Int)<=x_1/\x_1<(↑(List.length s):Int)/\∃ (I_1:Int->Int->Prop),∃ (m_1:Int->Int->Nat),I_1 (IntKind.u32.wrap (↑(BitVec.ofInt IntKind.u32.bits x ^^^ BitVec.ofInt IntKind.u32.bits (↑(ix s x_1).toNat:Int)).toNat:Int)) (0:Int)/\∀ (x_2 x_3:Int),I_1 x_2 x_3->(x_3<8->(2:Int)≠0/\(x_2.tmod (2:Int)=1->(2:Int)≠0/\i6 (x_3+1)/\I_1 (e21 x_2) (x_3+1)/\m_1 (e21 x_2) (x_3+1)<m_1 x_2 x_3)/\(¬x_2.tmod (2:Int)=1->(2:Int)≠0/\i6 (x_3+1)/\I_1 (IntKind.u32.wrap (x_2.tdiv (2:Int))) (x_3+1)/\m_1 (IntKind.u32.wrap (x_2.tdiv (2:Int))) (x_3+1)<m_1 x_2 x_3))/\(¬x_3<8->i6 (x_1+1)/\I x_2 (x_1+1)/\m x_2 (x_1+1)<m x x_1))/\(¬x_1<(↑(List.length s):Int)->Q (IntKind.u32.wrap (↑(BitVec.ofInt IntKind.u32.bits x ^^^ BitVec.ofInt IntKind.u32.bits (4294967295:Int)).toNat:Int)))
theorem pfS (s:Str) (h0:s.length<=100000000):VfS s (fun y0=>y0=K7 [s]):=by
 unfold VfS e21
 refine ⟨fun x i=>0<=i/\i<=s.length/\0<=x/\x<4294967296/\a32 x (s.drop i.toNat)=a32 4294967295 s,fun _ i=>((s.length:Int)-i).toNat,⟨by omega,by omega,by omega,by omega,rfl⟩,?_⟩
 rintro x i ⟨i0,i1,x0,x1,hx⟩
 refine ⟨fun h=>⟨i0,h,?_⟩,fun h=>?_⟩
 . rw [H5 i0 h,a32] at hx
   refine ⟨fun z k=>0<=k/\k<=8/\0<=z/\z<4294967296/\a68 (8-k).toNat z=c20 x (ix s i),fun _ k=>(8-k).toNat,⟨by omega,by omega,(a6x _ _).1,(a6x _ _).2,rfl⟩,?_⟩
   rintro z k ⟨k0,k1,z0,z1,hz⟩
   refine ⟨fun h3=>?_,fun h3=>?_⟩
   . rw [show (8-k).toNat=(8-(k+1)).toNat+1 by omega,a68] at hz
     obtain ⟨b0,b1⟩:=d7p z0 z1
     refine ⟨by decide,fun hb=>?_,fun hb=>?_⟩
     . have e:b06 z=IntKind.u32.wrap ((BitVec.ofInt IntKind.u32.bits (IntKind.u32.wrap (z.tdiv 2)) ^^^ BitVec.ofInt IntKind.u32.bits 3988292384).toNat:Int):=by
         rw [b1w z0 z1]; unfold b06; rw [if_pos ((c1y z0 z1).2 hb)]; rfl
       rw [<- e]
       exact ⟨by decide,⟨by omega,by omega⟩,⟨by omega,by omega,b0,b1,hz⟩,by dsimp only; omega⟩
     . have e:b06 z=IntKind.u32.wrap (z.tdiv 2):=by
         rw [b1w z0 z1]; unfold b06; rw [if_neg (fun h=>hb ((c1y z0 z1).1 h))]
       rw [<- e]
       exact ⟨by decide,⟨by omega,by omega⟩,⟨by omega,by omega,b0,b1,hz⟩,by dsimp only; omega⟩
   . rw [show (8-k).toNat=0 by omega,a68] at hz
     exact ⟨⟨by omega,by omega⟩,⟨by omega,by omega,z0,z1,by rw [hz]; exact hx⟩,by dsimp only; omega⟩
 . rw [b5F (by omega),a32] at hx
   rw [hx]
   unfold K7
   rw [<- d1h,b6C,c0H,b4M]; rfl
def cfS (a:List (SV U)):Option (Q1 U):=match a with | [.str s]=>some ⟨[List.length (α:=UInt8) s<=100000000],[],.int .u32 (K7 [s])⟩ | _=>none
def NfS:Env:=Nal.a1R 83 cfS
theorem b6v:l7 NfS:=b83.a1R Tryz.call83 fun (args:List (SV U)) (q:Q1 U) (h:cfS args=some q) ho=>by
 unfold cfS at h
 split at h
 . rename_i s
   cases h
   exact a05 (an:=e42 83) b83 (l5 b83 a04 e42 2) Tryz.func83 (k:=.int .u32) (x:=K7 [s]) trivial (kc (pfS s ho.1) (by kernel_rfl)) 0
 . cases h
def e2u:Nat->Ann:=fun | 60=>⟨22,fun | 3=>some ⟨[1],[.slot 0 (.int .i64),.slot 5 .str,.slot 6 (.int .i64)]⟩ | _=>none,nn⟩ | _=>⟨0,nn,nn⟩
def VfN (x:Int) (n:Int) (Q:Str->Prop):Prop :=
∃ (I:Int->List UInt8->Int->Prop),∃ (m:Int->List UInt8->Int->Nat),I x [] (0:Int)/\∀ (x:Int) (x_1:List UInt8) (x_2:Int),I x x_1 x_2->(x_2<n->(256:Int)≠0/\x_1.length+[UInt8.ofInt (x.tmod (256:Int))].length<=9223372036854775807/\(256:Int)≠0/\i6 (x.tdiv (256:Int))/\i6 (x_2+1)/\I (x.tdiv (256:Int)) (x_1++[UInt8.ofInt (x.tmod (256:Int))]) (x_2+1)/\m (x.tdiv (256:Int)) (x_1++[UInt8.ofInt (x.tmod (256:Int))]) (x_2+1)<m x x_1 x_2)/\(¬x_2<n->Q x_1)
theorem pfN (x:Int) (n:Int) (x0:0<=x) (h0:0<=n) (h1:n<=8) (x1:x<=9000000000000000000):VfN x n (fun y0=>y0=leB x n.toNat):=by
 unfold VfN
 refine ⟨fun y l i=>0<=i/\i<=n/\0<=y/\(l.length:Int)=i/\l++leB y (n-i).toNat=leB x n.toNat/\y<=x,fun _ _ i=>(n-i).toNat,⟨by omega,by omega,x0,rfl,by rw [Int.sub_zero]; rfl,b5G _⟩,?_⟩
 rintro y l i ⟨i0,i1,y0,hl,hy,yx⟩
 have e1:y.tmod 256=y % 256:=b5I y0
 have e2:y.tdiv 256=y / 256:=b5P y0
 rw [e1,e2,b51]
 refine ⟨fun h=>?_,fun h=>?_⟩
 . rw [show (n-i).toNat=(n-(i+1)).toNat+1 by omega,leB,b5W y (by decide)] at hy
   exact ⟨by decide,by rw [b4Y]; omega,by decide,⟨by omega,by omega⟩,⟨by omega,by omega⟩,⟨by omega,by omega,by omega,by rw [b3P,b4Y]; omega,by rw [b4L]; exact hy,by omega⟩,by dsimp only; omega⟩
 . rw [show (n-i).toNat=0 by omega,leB,b4M] at hy
   exact hy
def cfN (a:List (SV U)) (nx:Nat):Option (CR U):=match a with | [.int .i64 x,.int .i64 n]=>some ⟨[0<=x,0<=n,n<=8,x<=9000000000000000000],[],.str (leB x n.toNat),[]⟩ | _=>none
def NfN:Env:=NfS.a2A 60 cfN
theorem b7h:l7 NfN:=b6v.a2A Tryz.call60 fun (args:List (SV U)) nx (c:CR U) (h:cfN args nx=some c) hp ho=>by
 unfold cfN at h
 split at h
 . rename_i x n
   cases h
   exact b4q (an:=e2u 60) b6v (l5 b6v a04 e2u 2) Tryz.func60 (k:=.str) (x:=leB x n.toNat) hp (kc (pfN x n ho.1 ho.2.1 ho.2.2.1 ho.2.2.2.1) (by kernel_rfl))
 . cases h
def e5x:Nat->Ann:=fun | 66=>⟨20,fun | 3=>some ⟨[0],[.slot 3 (.int .i64),.slot 4 (.int .i64)]⟩ | _=>none,nn⟩ | _=>⟨0,nn,nn⟩
def VfR (s:Str) (Q:Int->Prop):Prop :=
i6 ((↑(List.length s):Int)-1)/\∃ (I:Int->Int->Prop),∃ (m:Int->Int->Nat),I (0:Int) ((↑(List.length s):Int)-1)/\∀ (x x_1:Int),I x x_1->((0:Int)<=x_1->i6 ((256:Int) * x)/\(0:Int)<=x_1/\x_1<(↑(List.length s):Int)/\i6 ((256:Int) * x+(↑(ix s x_1).toNat:Int))/\i6 (x_1-1)/\I ((256:Int) * x+(↑(ix s x_1).toNat:Int)) (x_1-1)/\m ((256:Int) * x+(↑(ix s x_1).toNat:Int)) (x_1-1)<m x x_1)/\(¬(0:Int)<=x_1->Q x)
theorem pfR (s:Str) (hs:s.length<=100000000) (h0:leN s<=9000000000000000000):VfR s (fun y0=>y0=leN s):=by
 unfold VfR
 refine ⟨⟨by omega,by omega⟩,fun x i=>-1<=i/\i<s.length/\x=leN (s.drop (i+1).toNat),fun _ i=>(i+1).toNat,⟨by omega,by omega,?_⟩,?_⟩
 . rw [b5F (by omega)]; rfl
 rintro x i ⟨i0,i1,hx⟩
 refine ⟨fun h=>?_,fun h=>?_⟩
 . obtain ⟨e1,e2⟩:=d8p h i1
   have hn:=Y5 (s.drop (i+1).toNat)
   have hc:(ix s i).toNat<256:=(ix s i).toNat_lt
   rw [<- hx] at e1 hn
   refine ⟨⟨by omega,by omega⟩,h,i1,⟨by omega,by omega⟩,⟨by omega,by omega⟩,⟨by omega,by omega,?_⟩,by dsimp only; omega⟩
   rw [e1]; congr 2; omega
 . rw [hx,show (i+1).toNat=0 by omega]; rfl
def cfR (a:List (SV U)):Option (Q1 U):=match a with | [.str s]=>some ⟨[List.length (α:=UInt8) s<=100000000,leN s<=9000000000000000000],[],.int .i64 (leN s)⟩ | _=>none
def NfR:Env:=NfN.a1R 66 cfR
theorem b7l:l7 NfR:=b7h.a1R Tryz.call66 fun (args:List (SV U)) (q:Q1 U) (h:cfR args=some q) ho=>by
 unfold cfR at h
 split at h
 . rename_i s
   cases h
   exact a05 (an:=e5x 66) b7h (l5 b7h a04 e5x 2) Tryz.func66 (k:=.int .i64) (x:=leN s) trivial (kc (pfR s ho.1 ho.2.1) (by kernel_rfl)) 0
 . cases h
def e2r:Nat->Ann:=fun | 73=>⟨18,nn,nn⟩ | _=>⟨0,nn,nn⟩
def c2j (r:Str):=K7 [leB ((↑(List.length r):Int)+1) (Int.toNat (3:Int))++r]
def b7x (r:Str):=(↑(List.length r):Int)+1
def VfF (r:Str) (Q:Str->Prop):Prop :=
i6 (b7x r)/\(0:Int)<=(↑(List.length r):Int)+1/\(0:Int)<=3/\(3:Int)<=8/\(↑(List.length r):Int)+1<=9000000000000000000/\List.length (leB (b7x r) (Int.toNat (3:Int)))+List.length r<=9223372036854775807/\List.length (leB (b7x r) (Int.toNat (3:Int))++r)<=100000000/\(0:Int)<=IntKind.i64.wrap (c2j r)/\(0:Int)<=4/\(4:Int)<=8/\IntKind.i64.wrap (c2j r)<=9000000000000000000/\List.length (leB (b7x r) (Int.toNat (3:Int)))+List.length (leB (IntKind.i64.wrap (c2j r)) (Int.toNat (4:Int)))<=9223372036854775807/\List.length (leB (b7x r) (Int.toNat (3:Int))++leB (IntKind.i64.wrap (c2j r)) (Int.toNat (4:Int)))+List.length r<=9223372036854775807/\Q (leB (b7x r) (Int.toNat (3:Int))++leB (IntKind.i64.wrap (c2j r)) (Int.toNat (4:Int))++r)
theorem pfF (r:Str) (h0:r.length<=1000000):VfF r (fun y0=>y0=B4 r):=by
 unfold VfF b7x c2j
 have e0:leB ((r.length:Int)+1) (Int.toNat 3)=H7 r:=rfl
 have e1:K7 [H7 r++r]=K7 [H7 r,r]:=by
  unfold K7
  simp only [b6C,c0H,b4M]
 have e2:IntKind.i64.wrap (K7 [H7 r,r])=K7 [H7 r,r]:=by
  have:=a4j [H7 r,r]
  rw [I0]; omega
 have h3:=a7a r
 have h4:(leB (K7 [H7 r,r]) (Int.toNat 4)).length=4:=D7 _ _
 have h5:=a4j [H7 r,r]
 rw [e0,e1,e2,b3P,b3P,h3,h4]
 exact ⟨⟨by omega,by omega⟩,by omega,by decide,by decide,by omega,by omega,by omega,h5.1,by decide,by decide,by omega,by decide,by omega,rfl⟩
def cfF (a:List (SV U)) (nx:Nat):Option (CR U):=match a with | [.str r]=>some ⟨[List.length (α:=UInt8) r<=1000000],[],.str (B4 r),[]⟩ | _=>none
def NfF:Env:=NfR.a2A 73 cfF
theorem b7g:l7 NfF:=b7l.a2A Tryz.call73 fun (args:List (SV U)) nx (c:CR U) (h:cfF args nx=some c) hp ho=>by
 unfold cfF at h
 split at h
 . rename_i r
   cases h
   exact b4q (an:=e2r 73) b7l (l5 b7l a04 e2r 2) Tryz.func73 (k:=.str) (x:=B4 r) hp (kc (pfF r ho.1) (by kernel_rfl))
 . cases h
def e59:Nat->Ann:=fun | 68=>⟨33,fun | 2=>some ⟨[0,1],[.slot 6 (.int .i64)]⟩ | _=>none,nn⟩ | _=>⟨0,nn,nn⟩
def VdN (la:List Str) (ta:List Int) (fr:List Str) (lf:Int) (po:Prop) (dq:Decidable po) (at_:Int) (Q:Str->Bool->List Str->List Int->List Str->Int->Bool->Prop):Prop :=
i6 ((↑ta.length:Int)-1)/\∃ (I:Int->Prop),∃ (m:Int->Nat),I ((↑ta.length:Int)-1)/\∀ (x:Int),I x->((0:Int)<=x->(0:Int)<=x/\x<(↑ta.length:Int)/\(i6 (ix ta x)->(ix ta x=at_->(0:Int)<=x/\x<(↑fr.length:Int)/\Q (ix fr x) true la ta fr lf (decide po))/\(¬ix ta x=at_->i6 (x-1)/\I (x-1)/\m (x-1)<m x)))/\(¬(0:Int)<=x->Q [] false la ta fr lf (decide po))
theorem pdN (la:List Str) (ta:List Int) (fr:List Str) (lf:Int) (po:Prop) (dq:Decidable po) (at_:Int) (ok:Rk.Ok (⟨la,ta,fr,lf,decide po⟩:Rk)):VdN la ta fr lf po dq at_ (fun y0 y1 y2 y3 y4 y5 y6=>y0=(Rk.now (⟨la,ta,fr,lf,decide po⟩:Rk) at_).getD []/\y1=(Rk.now (⟨la,ta,fr,lf,decide po⟩:Rk) at_).isSome/\y2=((⟨la,ta,fr,lf,decide po⟩:Rk)).a0C/\y3=((⟨la,ta,fr,lf,decide po⟩:Rk)).At/\y4=((⟨la,ta,fr,lf,decide po⟩:Rk)).a0D/\y5=((⟨la,ta,fr,lf,decide po⟩:Rk)).Left/\y6=((⟨la,ta,fr,lf,decide po⟩:Rk)).Off):=by
 unfold VdN
 have hs:ta.length=fr.length:=ok.same
 have hc:ta.length<=1000000:=ok.cnt
 refine ⟨⟨by omega,by omega⟩,fun x=>-1<=x/\x<ta.length/\∀ j:Int,x<j->j<ta.length->ix ta j≠at_,fun x=>(x+1).toNat,⟨by omega,by omega,fun j h1 h2=>by omega⟩,?_⟩
 rintro x ⟨x0,x1,hx⟩
 refine ⟨fun h=>⟨h,x1,fun _=>⟨fun he=>?_,fun he=>⟨⟨by omega,by omega⟩,⟨by omega,by omega,fun j h1 h2=>?_⟩,by dsimp only; omega⟩⟩⟩,fun h=>?_⟩
 . have e:=c2u ok h x1 he hx
   rw [e]; exact ⟨h,by omega,rfl,rfl,rfl,rfl,rfl,rfl,rfl⟩
 . by_cases e:j=x
   . subst e; exact he
   . exact hx j (by omega) h2
 . have e:=c76 (x:=(⟨la,ta,fr,lf,decide po⟩:Rk)) (a:=at_) fun j h1 h2=>hx j (by omega) h2
   rw [e]; exact ⟨rfl,rfl,rfl,rfl,rfl,rfl,rfl⟩
def e7v (la:List Str) (ta:List Int) (fr:List Str) (lf:Int) (po:Prop) (dq:Decidable po) (at_:Int):FR U:=K8 NfF [Rk.Ok (⟨la,ta,fr,lf,decide po⟩:Rk)] [(0,.own 58 [.acc 1,.acc 2,.acc 3,.int .i64 lf,.bl po dq]),(1,.ac (N:=U) 9 la),(2,.ac (N:=U) 3 ta),(3,.ac (N:=U) 9 fr)] 8 2 [.slot 0 (.str),.slot 1 (.bool),.tree [] [.own (some 200) 58 [.v (.acc 9),.v (.acc 3),.v (.acc 9),.v (.int .i64),.v (.bool)]]] ((Rk.now (⟨la,ta,fr,lf,decide po⟩:Rk) at_).getD [],(Rk.now (⟨la,ta,fr,lf,decide po⟩:Rk) at_).isSome,((((⟨la,ta,fr,lf,decide po⟩:Rk)).a0C,((⟨la,ta,fr,lf,decide po⟩:Rk)).At,((⟨la,ta,fr,lf,decide po⟩:Rk)).a0D,((⟨la,ta,fr,lf,decide po⟩:Rk)).Left,((⟨la,ta,fr,lf,decide po⟩:Rk)).Off,()),()),())
def fdN:FC U:=⟨[],[],fun a its=>match a,its with | [.ref 0 0,.int .i64 at_],[(0,.own 58 [.acc 1,.acc 2,.acc 3,.int .i64 lf,.bl po dq]),(1,.ac 9 la),(2,.ac 3 ta),(3,.ac 9 fr)]=>some (e7v la ta fr lf po dq at_) | _,_=>none⟩
theorem d8n (args:List (SV U)) (its:a7 U) (r:FR U) (h:fdN.C args its=some r) (ho:n6 r.ob):r6 Tryz.prog U eT Gl 68 args its (2 * its.length) (fun k=>n6 r.hy->k r.v r.its r.n):=by
 unfold fdN at h
 simp only at h
 split at h
 . rename_i at_ lf po dq la ta fr
   cases h
   exact G8 (an:=e59 68) b7g (l5 b7g a04 e59 3) Tryz.func68 (n:=2) rfl (vs:=[.slot 0 (.str),.slot 1 (.bool),.tree [] [.own (some 200) 58 [.v (.acc 9),.v (.acc 3),.v (.acc 9),.v (.int .i64),.v (.bool)]]]) (X:=((Rk.now (⟨la,ta,fr,lf,decide po⟩:Rk) at_).getD [],(Rk.now (⟨la,ta,fr,lf,decide po⟩:Rk) at_).isSome,((((⟨la,ta,fr,lf,decide po⟩:Rk)).a0C,((⟨la,ta,fr,lf,decide po⟩:Rk)).At,((⟨la,ta,fr,lf,decide po⟩:Rk)).a0D,((⟨la,ta,fr,lf,decide po⟩:Rk)).Left,((⟨la,ta,fr,lf,decide po⟩:Rk)).Off,()),()),())) rfl (kc (pdN la ta fr lf po dq at_ ho.1) (by kernel_rfl))
 . cases h
def NdN:Env:=(NfF.a0K 68 Tryz.f68).a0N 68 fdN
theorem d9q:l7 NdN:=(b7g.a0K Tryz.call68 Tryz.func68).a0N Tryz.call68 d8n
def d9s:Env:=NdN.a0K 71 Tryz.f71
theorem b2n:l7 d9s:=d9q.a0K Tryz.call71 Tryz.func71
def e5f:Nat->Ann:=fun | 38=>⟨44,nn,nn⟩ | _=>⟨0,nn,nn⟩
def VdW (la:List Str) (ta:List Int) (fr:List Str) (lf:Int) (po:Prop) (dq:Decidable po) (at_:Int) (b:Str) (Q:Int->List Str->List Int->List Str->Int->Bool->Prop):Prop :=
((↑(List.length b):Int)≠256->Q (2:Int) la ta fr lf (decide po))/\(¬(↑(List.length b):Int)≠256->(at_<0 ∨ (↑la.length:Int)<=at_->Q (3:Int) la ta fr lf (decide po))/\(¬(at_<0 ∨ (↑la.length:Int)<=at_)->(lf=0->Q (9:Int) la ta fr lf true)/\(¬lf=0->(po->Q (9:Int) la ta fr lf (decide po))/\(¬po->((0:Int)<lf->i6 (lf-1)/\(ta.length+[at_].length) * (some (8:Nat)).getD (0:Nat)<=140737488355328/\(fr.length+[b].length) * (some (16:Nat)).getD (0:Nat)<=140737488355328/\Q (0:Int) la (ta++[at_]) (fr++[b]) (lf-1) (decide po))/\(¬(0:Int)<lf->(ta.length+[at_].length) * (some (8:Nat)).getD (0:Nat)<=140737488355328/\(fr.length+[b].length) * (some (16:Nat)).getD (0:Nat)<=140737488355328/\Q (0:Int) la (ta++[at_]) (fr++[b]) lf (decide po))))))
theorem pdW (la:List Str) (ta:List Int) (fr:List Str) (lf:Int) (po:Prop) (dq:Decidable po) (at_:Int) (b:Str) (ok:Rk.Ok (⟨la,ta,fr,lf,decide po⟩:Rk)):VdW la ta fr lf po dq at_ b (fun y0 y1 y2 y3 y4 y5=>y0=(Rk.write (⟨la,ta,fr,lf,decide po⟩:Rk) at_ b).1/\y1=((Rk.write (⟨la,ta,fr,lf,decide po⟩:Rk) at_ b).2).a0C/\y2=((Rk.write (⟨la,ta,fr,lf,decide po⟩:Rk) at_ b).2).At/\y3=((Rk.write (⟨la,ta,fr,lf,decide po⟩:Rk) at_ b).2).a0D/\y4=((Rk.write (⟨la,ta,fr,lf,decide po⟩:Rk) at_ b).2).Left/\y5=((Rk.write (⟨la,ta,fr,lf,decide po⟩:Rk) at_ b).2).Off):=by
 unfold VdW
 have hs:ta.length=fr.length:=ok.same
 have hc:ta.length<=1000000:=ok.cnt
 have hl:=ok.left
 simp only [InI] at hl
 have e8:(some 8).getD 0=8:=rfl
 have e16:(some 16).getD 0=16:=rfl
 rw [e8,e16,b4Y,b4Y]
 have w:Rk.write ⟨la,ta,fr,lf,decide po⟩ at_ b=if (b.length:Int)≠256 then (2,⟨la,ta,fr,lf,decide po⟩) else if at_<0 ∨ (la.length:Int)<=at_ then (3,⟨la,ta,fr,lf,decide po⟩) else
   if lf=0 then (9,⟨la,ta,fr,lf,true⟩) else if po then (9,⟨la,ta,fr,lf,decide po⟩) else if 0<lf then (0,⟨la,ta++[at_],fr++[b],lf-1,decide po⟩) else (0,⟨la,ta++[at_],fr++[b],lf,decide po⟩):=by
  by_cases h:b.length=256
  . rw [if_neg (by omega)]
    unfold Rk.write Rk.act
    rw [if_neg (by omega)]
    simp only [b6L]
    repeat' split
    all_goals first | rfl | contradiction
  . rw [if_pos (by omega)]
    exact if_pos h
 rw [w]
 refine ⟨fun h1=>?_,fun h1=>⟨fun h2=>?_,fun h2=>⟨fun h3=>?_,fun h3=>⟨fun h4=>?_,fun h4=>⟨fun h5=>⟨⟨by omega,by omega⟩,by omega,by omega,?_⟩,fun h5=>⟨by omega,by omega,?_⟩⟩⟩⟩⟩⟩
 . rw [if_pos h1]; exact ⟨rfl,rfl,rfl,rfl,rfl,rfl⟩
 . rw [if_neg h1,if_pos h2]; exact ⟨rfl,rfl,rfl,rfl,rfl,rfl⟩
 . rw [if_neg h1,if_neg h2,if_pos h3]; exact ⟨rfl,rfl,rfl,rfl,rfl,rfl⟩
 . rw [if_neg h1,if_neg h2,if_neg h3,if_pos h4]; exact ⟨rfl,rfl,rfl,rfl,rfl,rfl⟩
 . rw [if_neg h1,if_neg h2,if_neg h3,if_neg h4,if_pos h5]; exact ⟨rfl,rfl,rfl,rfl,rfl,rfl⟩
 . rw [if_neg h1,if_neg h2,if_neg h3,if_neg h4,if_neg h5]; exact ⟨rfl,rfl,rfl,rfl,rfl,rfl⟩
def e73 (la:List Str) (ta:List Int) (fr:List Str) (lf:Int) (po:Prop) (dq:Decidable po) (at_:Int) (b:Str):FR U:=K8 d9s [Rk.Ok (⟨la,ta,fr,lf,decide po⟩:Rk)] [(0,.own 58 [.acc 1,.acc 2,.acc 3,.int .i64 lf,.bl po dq]),(1,.ac (N:=U) 9 la),(2,.ac (N:=U) 3 ta),(3,.ac (N:=U) 9 fr)] 8 1 [.slot 0 (.int .i64),.tree [] [.own (some 200) 58 [.v (.acc 9),.v (.acc 3),.v (.acc 9),.v (.int .i64),.v (.bool)]]] ((Rk.write (⟨la,ta,fr,lf,decide po⟩:Rk) at_ b).1,((((Rk.write (⟨la,ta,fr,lf,decide po⟩:Rk) at_ b).2).a0C,((Rk.write (⟨la,ta,fr,lf,decide po⟩:Rk) at_ b).2).At,((Rk.write (⟨la,ta,fr,lf,decide po⟩:Rk) at_ b).2).a0D,((Rk.write (⟨la,ta,fr,lf,decide po⟩:Rk) at_ b).2).Left,((Rk.write (⟨la,ta,fr,lf,decide po⟩:Rk) at_ b).2).Off,()),()),())
def fdW:FC U:=⟨[],[],fun a its=>match a,its with | [.ref 0 0,.int .i64 at_,.str b],[(0,.own 58 [.acc 1,.acc 2,.acc 3,.int .i64 lf,.bl po dq]),(1,.ac 9 la),(2,.ac 3 ta),(3,.ac 9 fr)]=>some (e73 la ta fr lf po dq at_ b) | _,_=>none⟩
theorem e0a (args:List (SV U)) (its:a7 U) (r:FR U) (h:fdW.C args its=some r) (ho:n6 r.ob):r6 Tryz.prog U eT Gl 38 args its (2 * its.length) (fun k=>n6 r.hy->k r.v r.its r.n):=by
 unfold fdW at h
 simp only at h
 split at h
 . rename_i at_ b lf po dq la ta fr
   cases h
   exact G8 (an:=e5f 38) b2n (l5 b2n a04 e5f 3) Tryz.func38 (n:=1) rfl (vs:=[.slot 0 (.int .i64),.tree [] [.own (some 200) 58 [.v (.acc 9),.v (.acc 3),.v (.acc 9),.v (.int .i64),.v (.bool)]]]) (X:=((Rk.write (⟨la,ta,fr,lf,decide po⟩:Rk) at_ b).1,((((Rk.write (⟨la,ta,fr,lf,decide po⟩:Rk) at_ b).2).a0C,((Rk.write (⟨la,ta,fr,lf,decide po⟩:Rk) at_ b).2).At,((Rk.write (⟨la,ta,fr,lf,decide po⟩:Rk) at_ b).2).a0D,((Rk.write (⟨la,ta,fr,lf,decide po⟩:Rk) at_ b).2).Left,((Rk.write (⟨la,ta,fr,lf,decide po⟩:Rk) at_ b).2).Off,()),()),())) rfl (kc (pdW la ta fr lf po dq at_ b ho.1) (by kernel_rfl))
 . cases h
def NdW:Env:=(d9s.a0K 38 Tryz.f38).a0N 38 fdW
theorem b8w:l7 NdW:=(b2n.a0K Tryz.call38 Tryz.func38).a0N Tryz.call38 e0a
def e3c:Nat->Ann:=fun | 59=>⟨41,fun | 4=>some ⟨[0],[.slot 3 (.int .i64),.own 0 [.acc 9,.acc 3,.acc 9,.int .i64,.bool]]⟩ | _=>none,fun | 3=>some ⟨[0],[.own 0 [.acc 9,.acc 3,.acc 9,.int .i64,.bool]]⟩ | _=>none⟩ | _=>⟨0,nn,nn⟩
def VdF (la:List Str) (ta:List Int) (fr:List Str) (lf:Int) (po:Prop) (dq:Decidable po) (Q:Int->List Str->List Int->List Str->Int->Bool->Prop):Prop :=
∃ (J:List (List UInt8)->List Int->List (List UInt8)->Int->Bool->Prop),((lf=0->Q (9:Int) la ta fr lf true)/\(¬lf=0->(po->Q (9:Int) la ta fr lf (decide po))/\(¬po->((0:Int)<lf->i6 (lf-1)/\J la ta fr (lf-1) (decide po))/\(¬(0:Int)<lf->J la ta fr lf (decide po)))))/\∀ (x:List (List UInt8)) (x_1:List Int) (x_2:List (List UInt8)) (x_3:Int) (x_4:Bool),J x x_1 x_2 x_3 x_4->∃ (I:Int->List (List UInt8)->List Int->List (List UInt8)->Int->Bool->Prop),∃ (m:Int->List (List UInt8)->List Int->List (List UInt8)->Int->Bool->Nat),I (0:Int) x x_1 x_2 x_3 (decide (x_4=true))/\∀ (x:Int) (x_5:List (List UInt8)) (x_6:List Int) (x_7:List (List UInt8)) (x_8:Int) (x_9:Bool),I x x_5 x_6 x_7 x_8 x_9->(x<(↑x_6.length:Int)->((0:Int)<=x/\x<(↑x_6.length:Int))/\((0:Int)<=x/\x<(↑x_7.length:Int))/\(i6 (ix x_6 x)->(0:Int)<=ix x_6 x/\ix x_6 x<(↑x_5.length:Int))/\(i6 (ix x_6 x)->i6 (x+1)/\I (x+1) (x_5.set (ix x_6 x).toNat (ix x_7 x)) x_6 x_7 x_8 (decide (x_9=true))/\m (x+1) (x_5.set (ix x_6 x).toNat (ix x_7 x)) x_6 x_7 x_8 (decide (x_9=true))<m x x_5 x_6 x_7 x_8 x_9))/\(¬x<(↑x_6.length:Int)->Q (0:Int) x_5 [] [] x_8 (decide (x_9=true)))
theorem pdF (la:List Str) (ta:List Int) (fr:List Str) (lf:Int) (po:Prop) (dq:Decidable po) (ok:Rk.Ok (⟨la,ta,fr,lf,decide po⟩:Rk)):VdF la ta fr lf po dq (fun y0 y1 y2 y3 y4 y5=>y0=(Rk.flush (⟨la,ta,fr,lf,decide po⟩:Rk)).1/\y1=((Rk.flush (⟨la,ta,fr,lf,decide po⟩:Rk)).2).a0C/\y2=((Rk.flush (⟨la,ta,fr,lf,decide po⟩:Rk)).2).At/\y3=((Rk.flush (⟨la,ta,fr,lf,decide po⟩:Rk)).2).a0D/\y4=((Rk.flush (⟨la,ta,fr,lf,decide po⟩:Rk)).2).Left/\y5=((Rk.flush (⟨la,ta,fr,lf,decide po⟩:Rk)).2).Off):=by
 unfold VdF
 have hs:ta.length=fr.length:=ok.same
 have hc:ta.length<=1000000:=ok.cnt
 have hl:=ok.left
 simp only [InI] at hl
 have hin:∀ a∈ta,0<=a/\a<(la.length:Int):=ok.inn
 rw [b17]
 dsimp only
 refine ⟨fun l a f n o=>(¬ lf=0/\¬ po)/\la=l/\ta=a/\fr=f/\n=(if 0<lf then lf-1 else lf)/\o=decide po,⟨fun h1=>?_,fun h1=>⟨fun h2=>?_,fun h2=>⟨fun h3=>⟨⟨by omega,by omega⟩,⟨h1,h2⟩,rfl,rfl,rfl,by rw [if_pos h3],rfl⟩,fun h3=>⟨⟨h1,h2⟩,rfl,rfl,rfl,by rw [if_neg h3],rfl⟩⟩⟩⟩,?_⟩
 . rw [if_pos h1]; exact ⟨rfl,rfl,rfl,rfl,rfl,rfl⟩
 . rw [if_neg h1,if_pos (b4R h2)]; exact ⟨rfl,rfl,rfl,rfl,rfl,rfl⟩
 rintro l a f n o ⟨⟨h1,h2⟩,rfl,rfl,rfl,rfl,rfl⟩
 rw [if_neg h1,if_neg (fun h=>h2 (b3V h))]
 generalize (if 0<lf then lf-1 else lf)=L
 simp only [b4J]
 refine ⟨fun i l a f n o=>0<=i/\i<=ta.length/\l=((ta.zip fr).take i.toNat).foldl a0h la/\ta=a/\fr=f/\L=n/\o=decide po,fun i _ _ _ _ _=>((ta.length:Int)-i).toNat,⟨by omega,by omega,rfl,rfl,rfl,rfl,rfl⟩,?_⟩
 rintro i l a f n o ⟨i0,i1,rfl,rfl,rfl,rfl,rfl⟩
 refine ⟨fun h=>?_,fun h=>?_⟩
 . have hm:=hin _ (Q4 i0 h)
   refine ⟨⟨i0,h⟩,⟨i0,by omega⟩,fun _=>⟨hm.1,by rw [a55]; exact hm.2⟩,fun _=>⟨⟨by omega,by omega⟩,⟨by omega,by omega,(b73 i0 h hs).symm,rfl,rfl,rfl,rfl⟩,by dsimp only; omega⟩⟩
 . rw [b4Q (by rw [List.length_zip]; omega)]
   simp
def e6f (la:List Str) (ta:List Int) (fr:List Str) (lf:Int) (po:Prop) (dq:Decidable po):FR U:=K8 NdW [Rk.Ok (⟨la,ta,fr,lf,decide po⟩:Rk)] [(0,.own 58 [.acc 1,.acc 2,.acc 3,.int .i64 lf,.bl po dq]),(1,.ac (N:=U) 9 la),(2,.ac (N:=U) 3 ta),(3,.ac (N:=U) 9 fr)] 8 1 [.slot 0 (.int .i64),.tree [] [.own (some 200) 58 [.v (.acc 9),.v (.acc 3),.v (.acc 9),.v (.int .i64),.v (.bool)]]] ((Rk.flush (⟨la,ta,fr,lf,decide po⟩:Rk)).1,((((Rk.flush (⟨la,ta,fr,lf,decide po⟩:Rk)).2).a0C,((Rk.flush (⟨la,ta,fr,lf,decide po⟩:Rk)).2).At,((Rk.flush (⟨la,ta,fr,lf,decide po⟩:Rk)).2).a0D,((Rk.flush (⟨la,ta,fr,lf,decide po⟩:Rk)).2).Left,((Rk.flush (⟨la,ta,fr,lf,decide po⟩:Rk)).2).Off,()),()),())
def fdF:FC U:=⟨[],[],fun a its=>match a,its with | [.ref 0 0],[(0,.own 58 [.acc 1,.acc 2,.acc 3,.int .i64 lf,.bl po dq]),(1,.ac 9 la),(2,.ac 3 ta),(3,.ac 9 fr)]=>some (e6f la ta fr lf po dq) | _,_=>none⟩
theorem e1s (args:List (SV U)) (its:a7 U) (r:FR U) (h:fdF.C args its=some r) (ho:n6 r.ob):r6 Tryz.prog U eT Gl 59 args its (2 * its.length) (fun k=>n6 r.hy->k r.v r.its r.n):=by
 unfold fdF at h
 simp only at h
 split at h
 . rename_i lf po dq la ta fr
   cases h
   exact G8 (an:=e3c 59) b8w (l5 b8w a04 e3c 3) Tryz.func59 (n:=1) rfl (vs:=[.slot 0 (.int .i64),.tree [] [.own (some 200) 58 [.v (.acc 9),.v (.acc 3),.v (.acc 9),.v (.int .i64),.v (.bool)]]]) (X:=((Rk.flush (⟨la,ta,fr,lf,decide po⟩:Rk)).1,((((Rk.flush (⟨la,ta,fr,lf,decide po⟩:Rk)).2).a0C,((Rk.flush (⟨la,ta,fr,lf,decide po⟩:Rk)).2).At,((Rk.flush (⟨la,ta,fr,lf,decide po⟩:Rk)).2).a0D,((Rk.flush (⟨la,ta,fr,lf,decide po⟩:Rk)).2).Left,((Rk.flush (⟨la,ta,fr,lf,decide po⟩:Rk)).2).Off,()),()),())) rfl (kc (pdF la ta fr lf po dq ho.1) (by kernel_rfl))
 . cases h
def NdF:Env:=(NdW.a0K 59 Tryz.f59).a0N 59 fdF
theorem b8b:l7 NdF:=(b8w.a0K Tryz.call59 Tryz.func59).a0N Tryz.call59 e1s
def e4p:Nat->Ann:=fun | 34=>⟨13,nn,nn⟩ | _=>⟨0,nn,nn⟩
def VdL (la:List Str) (ta:List Int) (fr:List Str) (lf:Int) (po:Prop) (dq:Decidable po) (n:Int) (Q:List Str->List Int->List Str->Int->Bool->Prop):Prop :=
(n<0->Q la ta fr (-1:Int) (decide po))/\(¬n<0->Q la ta fr n (decide po))
theorem pdL (la:List Str) (ta:List Int) (fr:List Str) (lf:Int) (po:Prop) (dq:Decidable po) (n:Int)  : VdL la ta fr lf po dq n (fun y0 y1 y2 y3 y4=>y0=((Rk.limit (⟨la,ta,fr,lf,decide po⟩:Rk) n)).a0C/\y1=((Rk.limit (⟨la,ta,fr,lf,decide po⟩:Rk) n)).At/\y2=((Rk.limit (⟨la,ta,fr,lf,decide po⟩:Rk) n)).a0D/\y3=((Rk.limit (⟨la,ta,fr,lf,decide po⟩:Rk) n)).Left/\y4=((Rk.limit (⟨la,ta,fr,lf,decide po⟩:Rk) n)).Off):=by
 unfold VdL Rk.limit
 grind
def e6o (la:List Str) (ta:List Int) (fr:List Str) (lf:Int) (po:Prop) (dq:Decidable po) (n:Int):FR U:=K8 NdF [] [(0,.own 58 [.acc 1,.acc 2,.acc 3,.int .i64 lf,.bl po dq]),(1,.ac (N:=U) 9 la),(2,.ac (N:=U) 3 ta),(3,.ac (N:=U) 9 fr)] 8 0 [.tree [] [.own (some 200) 58 [.v (.acc 9),.v (.acc 3),.v (.acc 9),.v (.int .i64),.v (.bool)]]] (((((Rk.limit (⟨la,ta,fr,lf,decide po⟩:Rk) n)).a0C,((Rk.limit (⟨la,ta,fr,lf,decide po⟩:Rk) n)).At,((Rk.limit (⟨la,ta,fr,lf,decide po⟩:Rk) n)).a0D,((Rk.limit (⟨la,ta,fr,lf,decide po⟩:Rk) n)).Left,((Rk.limit (⟨la,ta,fr,lf,decide po⟩:Rk) n)).Off,()),()),())
def fdL:FC U:=⟨[],[],fun a its=>match a,its with | [.ref 0 0,.int .i64 n],[(0,.own 58 [.acc 1,.acc 2,.acc 3,.int .i64 lf,.bl po dq]),(1,.ac 9 la),(2,.ac 3 ta),(3,.ac 9 fr)]=>some (e6o la ta fr lf po dq n) | _,_=>none⟩
theorem e1p (args:List (SV U)) (its:a7 U) (r:FR U) (h:fdL.C args its=some r) (ho:n6 r.ob):r6 Tryz.prog U eT Gl 34 args its (2 * its.length) (fun k=>n6 r.hy->k r.v r.its r.n):=by
 unfold fdL at h
 simp only at h
 split at h
 . rename_i n lf po dq la ta fr
   cases h
   exact G8 (an:=e4p 34) b8b (l5 b8b a04 e4p 3) Tryz.func34 (n:=0) rfl (vs:=[.tree [] [.own (some 200) 58 [.v (.acc 9),.v (.acc 3),.v (.acc 9),.v (.int .i64),.v (.bool)]]]) (X:=(((((Rk.limit (⟨la,ta,fr,lf,decide po⟩:Rk) n)).a0C,((Rk.limit (⟨la,ta,fr,lf,decide po⟩:Rk) n)).At,((Rk.limit (⟨la,ta,fr,lf,decide po⟩:Rk) n)).a0D,((Rk.limit (⟨la,ta,fr,lf,decide po⟩:Rk) n)).Left,((Rk.limit (⟨la,ta,fr,lf,decide po⟩:Rk) n)).Off,()),()),())) rfl (kc (pdL la ta fr lf po dq n ) (by kernel_rfl))
 . cases h
def NdL:Env:=(NdF.a0K 34 Tryz.f34).a0N 34 fdL
theorem b8y:l7 NdL:=(b8b.a0K Tryz.call34 Tryz.func34).a0N Tryz.call34 e1p
def e5v:Nat->Ann:=fun | 65=>⟨38,nn,nn⟩ | _=>⟨0,nn,nn⟩
def VdR (la:List Str) (ta:List Int) (fr:List Str) (lf:Int) (po:Prop) (dq:Decidable po) (at_:Int) (Q:Str->Int->List Str->List Int->List Str->Int->Bool->Prop):Prop :=
(at_<0 ∨ (↑la.length:Int)<=at_->Q [] (3:Int) la ta fr lf (decide po))/\(¬(at_<0 ∨ (↑la.length:Int)<=at_)->(po->Q [] (9:Int) la ta fr lf (decide po))/\(¬po->(Rk.mk la ta fr lf (decide po)).Ok/\(((Rk.mk la ta fr lf (decide po)).now at_).isSome=true->Q (((Rk.mk la ta fr lf (decide po)).now at_).getD []) (0:Int) la ta fr lf (decide (decide po=true)))/\(¬((Rk.mk la ta fr lf (decide po)).now at_).isSome=true->(0:Int)<=at_/\at_<(↑la.length:Int)/\Q (ix la at_) (0:Int) la ta fr lf (decide (decide po=true)))))
theorem pdR (la:List Str) (ta:List Int) (fr:List Str) (lf:Int) (po:Prop) (dq:Decidable po) (at_:Int) (ok:Rk.Ok (⟨la,ta,fr,lf,decide po⟩:Rk)):VdR la ta fr lf po dq at_ (fun y0 y1 y2 y3 y4 y5 y6=>y0=(Rk.read (⟨la,ta,fr,lf,decide po⟩:Rk) at_).1/\y1=(Rk.read (⟨la,ta,fr,lf,decide po⟩:Rk) at_).2/\y2=((⟨la,ta,fr,lf,decide po⟩:Rk)).a0C/\y3=((⟨la,ta,fr,lf,decide po⟩:Rk)).At/\y4=((⟨la,ta,fr,lf,decide po⟩:Rk)).a0D/\y5=((⟨la,ta,fr,lf,decide po⟩:Rk)).Left/\y6=((⟨la,ta,fr,lf,decide po⟩:Rk)).Off):=by
 unfold VdR
 have w:Rk.read ⟨la,ta,fr,lf,decide po⟩ at_=if at_<0 ∨ (la.length:Int)<=at_ then ([],3) else if po then ([],9) else ((Rk.now ⟨la,ta,fr,lf,decide po⟩ at_).getD (ix la at_),0):=by
  unfold Rk.read
  simp only [b6L]
 rw [w]
 simp only [b4J]
 refine ⟨fun h1=>?_,fun h1=>⟨fun h2=>?_,fun h2=>⟨ok,fun h3=>?_,fun h3=>⟨by omega,by omega,?_⟩⟩⟩⟩
 . rw [if_pos h1]; simp
 . rw [if_neg h1,if_pos h2]; simp
 . rw [if_neg h1,if_neg h2]
   obtain ⟨s,hs⟩:=b5T.1 h3
   rw [hs]; simp
 . rw [if_neg h1,if_neg h2]
   rw [b7V.1 h3]; simp
def e7l (la:List Str) (ta:List Int) (fr:List Str) (lf:Int) (po:Prop) (dq:Decidable po) (at_:Int):FR U:=K8 NdL [Rk.Ok (⟨la,ta,fr,lf,decide po⟩:Rk)] [(0,.own 58 [.acc 1,.acc 2,.acc 3,.int .i64 lf,.bl po dq]),(1,.ac (N:=U) 9 la),(2,.ac (N:=U) 3 ta),(3,.ac (N:=U) 9 fr)] 8 2 [.slot 0 (.str),.slot 1 (.int .i64),.tree [] [.own (some 200) 58 [.v (.acc 9),.v (.acc 3),.v (.acc 9),.v (.int .i64),.v (.bool)]]] ((Rk.read (⟨la,ta,fr,lf,decide po⟩:Rk) at_).1,(Rk.read (⟨la,ta,fr,lf,decide po⟩:Rk) at_).2,((((⟨la,ta,fr,lf,decide po⟩:Rk)).a0C,((⟨la,ta,fr,lf,decide po⟩:Rk)).At,((⟨la,ta,fr,lf,decide po⟩:Rk)).a0D,((⟨la,ta,fr,lf,decide po⟩:Rk)).Left,((⟨la,ta,fr,lf,decide po⟩:Rk)).Off,()),()),())
def fdR:FC U:=⟨[],[],fun a its=>match a,its with | [.ref 0 0,.int .i64 at_],[(0,.own 58 [.acc 1,.acc 2,.acc 3,.int .i64 lf,.bl po dq]),(1,.ac 9 la),(2,.ac 3 ta),(3,.ac 9 fr)]=>some (e7l la ta fr lf po dq at_) | _,_=>none⟩
theorem d8u (args:List (SV U)) (its:a7 U) (r:FR U) (h:fdR.C args its=some r) (ho:n6 r.ob):r6 Tryz.prog U eT Gl 65 args its (2 * its.length) (fun k=>n6 r.hy->k r.v r.its r.n):=by
 unfold fdR at h
 simp only at h
 split at h
 . rename_i at_ lf po dq la ta fr
   cases h
   exact G8 (an:=e5v 65) b8y (l5 b8y a04 e5v 3) Tryz.func65 (n:=2) rfl (vs:=[.slot 0 (.str),.slot 1 (.int .i64),.tree [] [.own (some 200) 58 [.v (.acc 9),.v (.acc 3),.v (.acc 9),.v (.int .i64),.v (.bool)]]]) (X:=((Rk.read (⟨la,ta,fr,lf,decide po⟩:Rk) at_).1,(Rk.read (⟨la,ta,fr,lf,decide po⟩:Rk) at_).2,((((⟨la,ta,fr,lf,decide po⟩:Rk)).a0C,((⟨la,ta,fr,lf,decide po⟩:Rk)).At,((⟨la,ta,fr,lf,decide po⟩:Rk)).a0D,((⟨la,ta,fr,lf,decide po⟩:Rk)).Left,((⟨la,ta,fr,lf,decide po⟩:Rk)).Off,()),()),())) rfl (kc (pdR la ta fr lf po dq at_ ho.1) (by kernel_rfl))
 . cases h
def NdR:Env:=(NdL.a0K 65 Tryz.f65).a0N 65 fdR
theorem b8v:l7 NdR:=(b8y.a0K Tryz.call65 Tryz.func65).a0N Tryz.call65 d8u
def e2x:Nat->Ann:=fun | 36=>⟨80,fun | 10=>some ⟨[0,3,9],[.slot 12 (.int .i64),.own 0 [.acc 9,.acc 3,.acc 9,.int .i64,.bool],.own 9 [.acc 9,.acc 3,.acc 9,.int .i64,.bool]]⟩ | _=>none,fun | 4=>some ⟨[0,1,3,9],[.slot 2 (.int .i64)]⟩ | 6=>some ⟨[0,1,3,9],[.slot 2 (.int .i64)]⟩ | 9=>some ⟨[0,3,9],[.own 9 [.acc 9,.acc 3,.acc 9,.int .i64,.bool]]⟩ | _=>none⟩ | _=>⟨0,nn,nn⟩
def VdC (la:List Str) (ta:List Int) (fr:List Str) (lf:Int) (po:Prop) (dq:Decidable po) (t:Int) (c:Int) (kk:List Int) (Q:List Str->List Int->List Str->Int->Bool->List Str->List Int->List Str->Int->Bool->Prop):Prop :=
(([]:List UInt8).length+la.length) * (some (16:Nat)).getD (0:Nat)<=140737488355328/\∃ (J:Int->Prop),((c<0->J (0:Int))/\(¬c<0->J c))/\∀ (x:Int),J x->∃ (J:Int->Prop),(((256:Int)<x->J (256:Int))/\(¬(256:Int)<x->J x))/\∀ (x:Int),J x->(Rk.mk la ta fr lf (decide po)).Ok/\∃ (J:List (List UInt8)->List Int->List (List UInt8)->Int->Bool->Prop),((((Rk.mk la ta fr lf (decide po)).now t).isSome=true->((0:Int)<=x/\x<=(↑(List.length (((Rk.mk la ta fr lf (decide po)).now t).getD [])):Int))/\((0:Int)<=t/\t<(↑la.length:Int))/\((0:Int)<=x/\x<=(↑(ix la t).length:Int))/\(List.take x.toNat (((Rk.mk la ta fr lf (decide po)).now t).getD [])).length+(List.drop x.toNat (ix la t)).length<=9223372036854775807/\((0:Int)<=t/\t<(↑([]++la).length:Int))/\J (([]++la).set t.toNat (List.take x.toNat (((Rk.mk la ta fr lf (decide po)).now t).getD [])++List.drop x.toNat (ix la t))) [] [] (-1:Int) false)/\(¬((Rk.mk la ta fr lf (decide po)).now t).isSome=true->J ([]++la) [] [] (-1:Int) false))/\∀ (x:List (List UInt8)) (x_1:List Int) (x_2:List (List UInt8)) (x_3:Int) (x_4:Bool),J x x_1 x_2 x_3 x_4->∃ (I:Int->List (List UInt8)->List Int->List (List UInt8)->Int->Bool->List (List UInt8)->List Int->List (List UInt8)->Int->Bool->Prop),∃ (m:Int->List (List UInt8)->List Int->List (List UInt8)->Int->Bool->List (List UInt8)->List Int->List (List UInt8)->Int->Bool->Nat),I (0:Int) la ta fr lf (decide (decide po=true)) x x_1 x_2 x_3 (decide (x_4=true))/\∀ (x:Int) (x_5:List (List UInt8)) (x_6:List Int) (x_7:List (List UInt8)) (x_8:Int) (x_9:Bool) (x_10:List (List UInt8)) (x_11:List Int) (x_12:List (List UInt8)) (x_13:Int) (x_14:Bool),I x x_5 x_6 x_7 x_8 x_9 x_10 x_11 x_12 x_13 x_14->(x<(↑kk.length:Int)->(0:Int)<=x/\x<(↑kk.length:Int)/\(i6 (ix kk x)->(Rk.mk x_5 x_6 x_7 x_8 (decide (x_9=true))).Ok/\(((Rk.mk x_5 x_6 x_7 x_8 (decide (x_9=true))).now (ix kk x)).isSome=true->((0:Int)<=x/\x<(↑kk.length:Int))/\(i6 (ix kk x)->(0:Int)<=ix kk x/\ix kk x<(↑x_10.length:Int))/\(i6 (ix kk x)->i6 (x+1)/\I (x+1) x_5 x_6 x_7 x_8 (decide (decide (x_9=true)=true)) (x_10.set (ix kk x).toNat (((Rk.mk x_5 x_6 x_7 x_8 (decide (x_9=true))).now (ix kk x)).getD [])) x_11 x_12 x_13 (decide (x_14=true))/\m (x+1) x_5 x_6 x_7 x_8 (decide (decide (x_9=true)=true)) (x_10.set (ix kk x).toNat (((Rk.mk x_5 x_6 x_7 x_8 (decide (x_9=true))).now (ix kk x)).getD [])) x_11 x_12 x_13 (decide (x_14=true))<m x x_5 x_6 x_7 x_8 x_9 x_10 x_11 x_12 x_13 x_14))/\(¬((Rk.mk x_5 x_6 x_7 x_8 (decide (x_9=true))).now (ix kk x)).isSome=true->i6 (x+1)/\I (x+1) x_5 x_6 x_7 x_8 (decide (decide (x_9=true)=true)) x_10 x_11 x_12 x_13 (decide (x_14=true))/\m (x+1) x_5 x_6 x_7 x_8 (decide (decide (x_9=true)=true)) x_10 x_11 x_12 x_13 (decide (x_14=true))<m x x_5 x_6 x_7 x_8 x_9 x_10 x_11 x_12 x_13 x_14)))/\(¬x<(↑kk.length:Int)->Q x_10 x_11 x_12 x_13 (decide (x_14=true)) x_5 x_6 x_7 x_8 (decide (x_9=true)))
theorem pdC (la:List Str) (ta:List Int) (fr:List Str) (lf:Int) (po:Prop) (dq:Decidable po) (t:Int) (c:Int) (kk:List Int) (ok:Rk.Ok (⟨la,ta,fr,lf,decide po⟩:Rk)) (hk:kk.length<=9223372036854775807):VdC la ta fr lf po dq t c kk (fun y0 y1 y2 y3 y4 y5 y6 y7 y8 y9=>y0=((Rk.a0P (⟨la,ta,fr,lf,decide po⟩:Rk) t c kk)).a0C/\y1=((Rk.a0P (⟨la,ta,fr,lf,decide po⟩:Rk) t c kk)).At/\y2=((Rk.a0P (⟨la,ta,fr,lf,decide po⟩:Rk) t c kk)).a0D/\y3=((Rk.a0P (⟨la,ta,fr,lf,decide po⟩:Rk) t c kk)).Left/\y4=((Rk.a0P (⟨la,ta,fr,lf,decide po⟩:Rk) t c kk)).Off/\y5=((⟨la,ta,fr,lf,decide po⟩:Rk)).a0C/\y6=((⟨la,ta,fr,lf,decide po⟩:Rk)).At/\y7=((⟨la,ta,fr,lf,decide po⟩:Rk)).a0D/\y8=((⟨la,ta,fr,lf,decide po⟩:Rk)).Left/\y9=((⟨la,ta,fr,lf,decide po⟩:Rk)).Off):=by
 unfold VdC
 have hn:la.length<=8192:=ok.max
 have e16:(some 16).getD 0=16:=rfl
 simp only [b4J]
 refine ⟨by rw [e16,b5R]; omega,fun y=>y=(if c<0 then 0 else c),⟨fun h=>by rw [if_pos h],fun h=>by rw [if_neg h]⟩,?_⟩
 rintro y hy
 refine ⟨fun z=>z=M8 c,⟨fun h=>?_,fun h=>?_⟩,?_⟩
 . unfold M8; rw [<- hy,if_pos h]
 . unfold M8; rw [<- hy,if_neg h]
 rintro z rfl
 have hz:0<=M8 c/\M8 c<=256:=by unfold M8; split <;> split <;> omega
 generalize hZ:M8 c=z at hz
 refine ⟨ok,fun l a f n o=>l=Rk.a0W ⟨la,ta,fr,lf,decide po⟩ t c/\a=[]/\f=[]/\n=-1/\o=false,⟨fun h=>?_,fun h=>?_⟩,?_⟩
 . obtain ⟨s,hs⟩:=b5T.1 h
   obtain ⟨t0,t1,hl⟩:=b3v ok hs
   have t1:t<la.length:=t1
   have hx:(ix la t).length=256:=ok.a7N _ (Q4 t0 t1)
   rw [hs]
   have e:(some s).getD []=s:=rfl
   rw [e,hl,hx]
   refine ⟨⟨by omega,by omega⟩,⟨t0,t1⟩,⟨by omega,by omega⟩,by rw [b3U,b3W,hl,hx]; omega,⟨t0,by rw [b6A]; exact t1⟩,?_,rfl,rfl,rfl,rfl⟩
   unfold Rk.a0W
   rw [hs,hZ,b6A]
 . refine ⟨?_,rfl,rfl,rfl,rfl⟩
   unfold Rk.a0W
   rw [b7V.1 h,b6A]
 rintro l a f n o ⟨rfl,rfl,rfl,rfl,rfl⟩
 refine ⟨fun i l0 a0 f0 n0 o0 l a f n o=>0<=i/\i<=kk.length/\la=l0/\ta=a0/\fr=f0/\lf=n0/\o0=decide po/\l=(kk.take i.toNat).foldl (X4 ⟨la,ta,fr,lf,decide po⟩) (Rk.a0W ⟨la,ta,fr,lf,decide po⟩ t c)/\a=[]/\f=[]/\n=-1/\o=false,
  fun i _ _ _ _ _ _ _ _ _ _=>((kk.length:Int)-i).toNat,⟨by omega,by omega,rfl,rfl,rfl,rfl,rfl,rfl,rfl,rfl,rfl,rfl⟩,?_⟩
 rintro i l0 a0 f0 n0 o0 l a f n o ⟨i0,i1,rfl,rfl,rfl,rfl,rfl,rfl,rfl,rfl,rfl,rfl⟩
 refine ⟨fun h=>⟨i0,h,fun hb=>⟨ok,fun h2=>?_,fun h2=>?_⟩⟩,fun h=>?_⟩
 . obtain ⟨s,hs⟩:=b5T.1 h2
   obtain ⟨t0,t1,hl⟩:=b3v ok hs
   refine ⟨⟨i0,h⟩,fun _=>⟨t0,by rw [b1n,c46]; exact t1⟩,fun _=>⟨⟨by omega,by omega⟩,⟨by omega,by omega,rfl,rfl,rfl,rfl,rfl,?_,rfl,rfl,rfl,rfl⟩,by dsimp only; omega⟩⟩
   rw [a8b i0 h]
   show _=X4 _ _ _
   rw [X4,hs]; rfl
 . refine ⟨⟨by omega,by omega⟩,⟨by omega,by omega,rfl,rfl,rfl,rfl,rfl,?_,rfl,rfl,rfl,rfl⟩,by dsimp only; omega⟩
   rw [a8b i0 h]
   show _=X4 _ _ _
   rw [X4,b7V.1 h2]
 . rw [b4Q (by omega)]
   simp [Rk.a0P]
def e7g (la:List Str) (ta:List Int) (fr:List Str) (lf:Int) (po:Prop) (dq:Decidable po) (t:Int) (c:Int) (kk:List Int):FR U:=K8 NdR [Rk.Ok (⟨la,ta,fr,lf,decide po⟩:Rk),List.length (α:=Int) kk<=9223372036854775807] [(0,.own 58 [.acc 1,.acc 2,.acc 3,.int .i64 lf,.bl po dq]),(1,.ac (N:=U) 9 la),(2,.ac (N:=U) 3 ta),(3,.ac (N:=U) 9 fr)] 8 1 [.tree [(0,0)] [.own none 58 [.v (.acc 9),.v (.acc 3),.v (.acc 9),.v (.int .i64),.v (.bool)],.own (some 200) 58 [.v (.acc 9),.v (.acc 3),.v (.acc 9),.v (.int .i64),.v (.bool)]]] (((((Rk.a0P (⟨la,ta,fr,lf,decide po⟩:Rk) t c kk)).a0C,((Rk.a0P (⟨la,ta,fr,lf,decide po⟩:Rk) t c kk)).At,((Rk.a0P (⟨la,ta,fr,lf,decide po⟩:Rk) t c kk)).a0D,((Rk.a0P (⟨la,ta,fr,lf,decide po⟩:Rk) t c kk)).Left,((Rk.a0P (⟨la,ta,fr,lf,decide po⟩:Rk) t c kk)).Off,()),(((⟨la,ta,fr,lf,decide po⟩:Rk)).a0C,((⟨la,ta,fr,lf,decide po⟩:Rk)).At,((⟨la,ta,fr,lf,decide po⟩:Rk)).a0D,((⟨la,ta,fr,lf,decide po⟩:Rk)).Left,((⟨la,ta,fr,lf,decide po⟩:Rk)).Off,()),()),())
def fdC:FC U:=⟨[3],[],fun a its=>match a,its with | [.ref 0 0,.int .i64 t,.int .i64 c,.sl 3 kk],[(0,.own 58 [.acc 1,.acc 2,.acc 3,.int .i64 lf,.bl po dq]),(1,.ac 9 la),(2,.ac 3 ta),(3,.ac 9 fr)]=>some (e7g la ta fr lf po dq t c kk) | _,_=>none⟩
theorem e1m (args:List (SV U)) (its:a7 U) (r:FR U) (h:fdC.C args its=some r) (ho:n6 r.ob):r6 Tryz.prog U eT Gl 36 args its (2 * its.length) (fun k=>n6 r.hy->k r.v r.its r.n):=by
 unfold fdC at h
 simp only at h
 split at h
 . rename_i t c kk lf po dq la ta fr
   cases h
   exact G8 (an:=e2x 36) b8v (l5 b8v a04 e2x 3) Tryz.func36 (n:=1) rfl (vs:=[.tree [(0,0)] [.own none 58 [.v (.acc 9),.v (.acc 3),.v (.acc 9),.v (.int .i64),.v (.bool)],.own (some 200) 58 [.v (.acc 9),.v (.acc 3),.v (.acc 9),.v (.int .i64),.v (.bool)]]]) (X:=(((((Rk.a0P (⟨la,ta,fr,lf,decide po⟩:Rk) t c kk)).a0C,((Rk.a0P (⟨la,ta,fr,lf,decide po⟩:Rk) t c kk)).At,((Rk.a0P (⟨la,ta,fr,lf,decide po⟩:Rk) t c kk)).a0D,((Rk.a0P (⟨la,ta,fr,lf,decide po⟩:Rk) t c kk)).Left,((Rk.a0P (⟨la,ta,fr,lf,decide po⟩:Rk) t c kk)).Off,()),(((⟨la,ta,fr,lf,decide po⟩:Rk)).a0C,((⟨la,ta,fr,lf,decide po⟩:Rk)).At,((⟨la,ta,fr,lf,decide po⟩:Rk)).a0D,((⟨la,ta,fr,lf,decide po⟩:Rk)).Left,((⟨la,ta,fr,lf,decide po⟩:Rk)).Off,()),()),())) rfl (kc (pdC la ta fr lf po dq t c kk ho.1 ho.2.1) (by kernel_rfl))
 . cases h
def NdC:Env:=(NdR.a0K 36 Tryz.f36).a0N 36 fdC
theorem b8n:l7 NdC:=(b8v.a0K Tryz.call36 Tryz.func36).a0N Tryz.call36 e1m
def c5o:Nat->Ann:=fun | 5=>⟨31,fun | 5=>some ⟨[0,4],[.slot 5 (.int .i64),.own 4 [(.acc 9),(.acc 3),(.acc 9),(.int .i64),.bool]]⟩ | _=>none,nn⟩ | _=>⟨0,nn,nn⟩
def VdK (n:Int) (Q0:Unit->Int->Prop) (Q1:List Str->List Int->List Str->Int->Bool->Int->Prop):Prop :=
(n<1 ∨ (8192:Int)<n->Q0 () (2:Int))/\(¬(n<1 ∨ (8192:Int)<n)->∃ (I:Int->List (List UInt8)->List Int->List (List UInt8)->Int->Bool->Prop),∃ (m:Int->List (List UInt8)->List Int->List (List UInt8)->Int->Bool->Nat),I (0:Int) [] [] [] (-1:Int) false/\∀ (x:Int) (x_1:List (List UInt8)) (x_2:List Int) (x_3:List (List UInt8)) (x_4:Int) (x_5:Bool),I x x_1 x_2 x_3 x_4 x_5->(x<n->((0:Int)<=256/\(256:Int)=256/\(↑((some (1:Nat)).getD (0:Nat)):Int) * 256<=140737488355328)/\(x_1.length+[List.replicate (Int.toNat (256:Int)) (0:UInt8)].length) * (some (16:Nat)).getD (0:Nat)<=140737488355328/\i6 (x+1)/\I (x+1) (x_1++[List.replicate (Int.toNat (256:Int)) (0:UInt8)]) x_2 x_3 x_4 (decide (x_5=true))/\m (x+1) (x_1++[List.replicate (Int.toNat (256:Int)) (0:UInt8)]) x_2 x_3 x_4 (decide (x_5=true))<m x x_1 x_2 x_3 x_4 x_5)/\(¬x<n->Q1 x_1 x_2 x_3 x_4 (decide (x_5=true)) (0:Int)))
theorem d8l {n:Int} {Q0:Unit->Int->Prop} {Q1:List Str->List Int->List Str->Int->Bool->Int->Prop}:@Eq Prop (VdK n Q0 Q1) (o9 (E:=NdC) (Z4 NdC HL c5o 3) (c5o 5) Tryz.f5 [.int .i64 n] [] [] 0 (a4c NdC [] 0 2 [[.slot 0 (.a0U),.slot 1 (.int .i64)],[.tree [(0,0)] [.own none 58 [.v (.acc 9),.v (.acc 3),.v (.acc 9),.v (.int .i64),.v (.bool)]],.slot 1 (.int .i64)]] ((Q0,fun _ _=>(0:Nat)),((Q1,fun _ _ _ _ _ _=>(0:Nat)),())))):=by kernel_rfl
theorem e23 {n:Int} {Q0:Unit->Int->Prop} {Q1:List Str->List Int->List Str->Int->Bool->Int->Prop} (h:VdK n Q0 Q1):o9 (E:=NdC) (Z4 NdC HL c5o 3) (c5o 5) Tryz.f5 [.int .i64 n] [] [] 0 (a4c NdC [] 0 2 [[.slot 0 (.a0U),.slot 1 (.int .i64)],[.tree [(0,0)] [.own none 58 [.v (.acc 9),.v (.acc 3),.v (.acc 9),.v (.int .i64),.v (.bool)]],.slot 1 (.int .i64)]] ((Q0,fun _ _=>(0:Nat)),((Q1,fun _ _ _ _ _ _=>(0:Nat)),()))):=by rw [<- d8l]; exact h
theorem pdK (n:Int)  : VdK n (fun y0 y1=>(n<1 ∨ 8192<n)/\y0=()/\y1=(2:Int)) (fun y0 y1 y2 y3 y4 y5=>¬ (n<1 ∨ 8192<n)/\y0=(Rk.new n).a0C/\y1=(Rk.new n).At/\y2=(Rk.new n).a0D/\y3=(Rk.new n).Left/\y4=(Rk.new n).Off/\y5=(0:Int)):=by
 unfold VdK
 have e16:(some 16).getD 0=16:=rfl
 have e1:((some 1).getD 0:Nat)=1:=rfl
 refine ⟨fun h=>⟨h,rfl,rfl⟩,fun h=>⟨fun i l a f k o=>0<=i/\i<=n/\l=List.replicate i.toNat (List.replicate 256 0)/\a=[]/\f=[]/\k=-1/\o=false,fun i _ _ _ _ _=>(n-i).toNat,⟨by omega,by omega,rfl,rfl,rfl,rfl,rfl⟩,?_⟩⟩
 rintro i l a f k o ⟨i0,i1,rfl,rfl,rfl,rfl,rfl⟩
 refine ⟨fun hi=>⟨by rw [e1]; decide,by rw [e16,b3X,b4Y]; omega,⟨by omega,by omega⟩,⟨by omega,by omega,?_,rfl,rfl,rfl,rfl⟩,by dsimp only; omega⟩,fun hi=>?_⟩
 . rw [show (i+1).toNat=i.toNat+1 by omega]; exact (List.replicate_succ' (n:=i.toNat) (a:=(List.replicate 256 0:Str))).symm
 . rw [show i=n by omega]
   exact ⟨h,rfl,rfl,rfl,rfl,rfl,rfl⟩
def e6x (n:Int):PT U:=fun k=>cj [] (a3r NdC [] 0 2 [[.slot 0 (.a0U),.slot 1 (.int .i64)],[.tree [(0,0)] [.own none 58 [.v (.acc 9),.v (.acc 3),.v (.acc 9),.v (.int .i64),.v (.bool)]],.slot 1 (.int .i64)]] (([(n<1 ∨ 8192<n)],((),(2:Int),())),(([¬ (n<1 ∨ 8192<n)],((((Rk.new n).a0C,(Rk.new n).At,(Rk.new n).a0D,(Rk.new n).Left,(Rk.new n).Off,()),()),(0:Int),())),())) k)
def gdK:GD U:=⟨[],[],fun a its=>match a,its with | [.int .i64 n],[]=>some (e6x n) | _,_=>none⟩
theorem e1o (args:List (SV U)) (its:a7 U) (S:PT U) (h:gdK.C args its=some S):r6 Tryz.prog U eT Gl 5 args its (2 * its.length) S:=by
 unfold gdK at h
 simp only at h
 split at h
 . rename_i n
   cases h
   exact a44 b8n (l5 b8n a04 c5o 3) Tryz.func5 (n:=2) rfl (ss:=[[.slot 0 (.a0U),.slot 1 (.int .i64)],[.tree [(0,0)] [.own none 58 [.v (.acc 9),.v (.acc 3),.v (.acc 9),.v (.int .i64),.v (.bool)]],.slot 1 (.int .i64)]]) (R:=(([(n<1 ∨ 8192<n)],((),(2:Int),())),(([¬ (n<1 ∨ 8192<n)],((((Rk.new n).a0C,(Rk.new n).At,(Rk.new n).a0D,(Rk.new n).Left,(Rk.new n).Off,()),()),(0:Int),())),()))) (obs:=[]) rfl (fun ho=>e23 (pdK n ))
 . cases h
def NdK:Env:=NdC.a0K 5 Tryz.f5
theorem b6x:l7 NdK:=b8n.a0K Tryz.call5 Tryz.func5
def HdK:Nat->Option (GD U):=S7 5 gdK HL
theorem M9:∀ K o args its S,HdK K=some o->o.C args its=some S->r6 Tryz.prog U eT Gl K args its (2 * its.length) S:=I8 e1o a04
def e58:Nat->Ann:=fun | 47=>⟨26,fun | 3=>some ⟨[0],[.slot 4 .str,.slot 5 (.int .i64)]⟩ | _=>none,nn⟩ | _=>⟨0,nn,nn⟩
def VfP (l:List Str) (Q:Str->Int->Prop):Prop :=
∃ (I:List UInt8->Int->Prop),∃ (m:List UInt8->Int->Nat),I [] (0:Int)/\∀ (x:List UInt8) (x_1:Int),I x x_1->(x_1<(↑l.length:Int)->(0:Int)<=x_1/\x_1<(↑l.length:Int)/\((30000:Int)<(↑(ix l x_1).length:Int)->Q [] (4:Int))/\(¬(30000:Int)<(↑(ix l x_1).length:Int)->(0:Int)<=x_1/\x_1<(↑l.length:Int)/\(ix l x_1).length<=1000000/\x.length+List.length (B4 (ix l x_1))<=9223372036854775807/\i6 (x_1+1)/\I (x++B4 (ix l x_1)) (x_1+1)/\m (x++B4 (ix l x_1)) (x_1+1)<m x x_1))/\(¬x_1<(↑l.length:Int)->Q x (0:Int))
theorem pfP (l:List Str) (hl:SmL l):VfP l (fun y0 y1=>y0=(l6 l).1/\y1=shN l):=by
 unfold VfP
 obtain ⟨hl0,hl1⟩:=hl
 refine ⟨fun x i=>0<=i/\i<=l.length/\(x.length:Int)<=40000 * i/\a67 x (l.drop i.toNat)=l6 l,fun _ i=>((l.length:Int)-i).toNat,⟨by omega,by omega,by decide,rfl⟩,?_⟩
 rintro x i ⟨i0,i1,x1,hx⟩
 refine ⟨fun h=>?_,fun h=>?_⟩
 . have hp:=hl1 _ (Q4 i0 h)
   rw [H5 i0 h,a67] at hx
   generalize ix l i=p at hp hx ⊢
   refine ⟨i0,h,fun hb=>?_,fun hb=>?_⟩
   . rw [if_pos hb] at hx
     unfold shN
     rw [a4l] at hx ⊢
     split at hx
     . simp at hx
     . rename_i hn
       rw [if_neg hn,if_neg hn]; exact ⟨rfl,rfl⟩
   . rw [if_neg hb] at hx
     have hf:=a0e p
     exact ⟨i0,h,hp,by rw [hf]; omega,⟨by omega,by omega⟩,⟨by omega,by omega,by rw [b3P,hf]; omega,hx⟩,by dsimp only; omega⟩
 . rw [b5F (by omega)] at hx
   have hx:(x,Err.nil)=l6 l:=hx
   unfold shN
   rw [a4l] at hx ⊢
   split at hx
   . rename_i hs
     rw [if_pos hs,if_pos hs]
     exact ⟨congrArg Prod.fst hx,rfl⟩
   . simp at hx
def cfP (a:List (SV U)):Option (Q1 U):=match a with | [.sl 9 l]=>some ⟨[SmL l],[],.tup [.str ((l6 l).1),.int .i64 (shN l)]⟩ | _=>none
def NfP:Env:=NdK.a1R 47 cfP
theorem b8e:l7 NfP:=b6x.a1R Tryz.call47 fun (args:List (SV U)) (q:Q1 U) (h:cfP args=some q) ho=>by
 unfold cfP at h
 split at h
 . rename_i l
   cases h
   exact d6y (an:=e58 47) b6x (l5 b6x M9 e58 2) Tryz.func47 (k1:=.str) (k2:=.int .i64) (x1:=(l6 l).1) (x2:=shN l) trivial trivial (kc (pfP l ho.1) (by kernel_rfl)) 0
 . cases h
def e56:Nat->Ann:=fun | 44=>⟨63,fun | 3=>some ⟨[0],[.slot 4 (.acc 9),.slot 5 (.int .i64)]⟩ | _=>none,nn⟩ | _=>⟨0,nn,nn⟩
def a5i (x_1:Int) (s:Str):=List.drop x_1.toNat (List.take (x_1+3).toNat s)
def b2t (x_1:Int) (s:Str):=List.take (x_1+7+(leN (a5i x_1 s)-1)).toNat s
def a4w (x_1:Int) (s:Str):=leN (a5i x_1 s)-1
def VfC (s:Str) (Q:List Str->Int->Prop):Prop :=
∃ (I:List (List UInt8)->Int->Prop),∃ (m:List (List UInt8)->Int->Nat),I [] (0:Int)/\∀ (x:List (List UInt8)) (x_1:Int),I x x_1->i6 (x_1+7)/\(x_1+7<=(↑(List.length s):Int)->i6 (x_1+3)/\(0:Int)<=x_1/\x_1<=x_1+3/\x_1+3<=(↑(List.length s):Int)/\(a5i x_1 s).length<=100000000/\leN (a5i x_1 s)<=9000000000000000000/\i6 (a4w x_1 s)/\(¬(leN (a5i x_1 s)-1<0 ∨ (30000:Int)<leN (a5i x_1 s)-1)->i6 (x_1+7))/\(¬(leN (a5i x_1 s)-1<0 ∨ (30000:Int)<leN (a5i x_1 s)-1)->i6 (x_1+7+(a4w x_1 s)))/\((leN (a5i x_1 s)-1<0 ∨ (30000:Int)<leN (a5i x_1 s)-1) ∨ (↑(List.length s):Int)<x_1+7+(a4w x_1 s)->Q x x_1)/\(¬((leN (a5i x_1 s)-1<0 ∨ (30000:Int)<leN (a5i x_1 s)-1) ∨ (↑(List.length s):Int)<x_1+7+(a4w x_1 s))->i6 (x_1+7)/\i6 (x_1+7)/\i6 (x_1+7+(a4w x_1 s))/\(0:Int)<=x_1+7/\x_1+7<=x_1+7+(a4w x_1 s)/\x_1+7+(a4w x_1 s)<=(↑(List.length s):Int)/\i6 (x_1+7)/\i6 (x_1+7+(a4w x_1 s))/\((0:Int)<=x_1/\x_1<=x_1+7+(a4w x_1 s)/\x_1+7+(a4w x_1 s)<=(↑(List.length s):Int))/\(List.drop (x_1+7).toNat (b2t x_1 s)).length<=1000000/\(List.drop x_1.toNat (b2t x_1 s)≠B4 (List.drop (x_1+7).toNat (b2t x_1 s))->Q x x_1)/\(¬List.drop x_1.toNat (b2t x_1 s)≠B4 (List.drop (x_1+7).toNat (b2t x_1 s))->(x.length+[List.drop (x_1+7).toNat (b2t x_1 s)].length) * (some (16:Nat)).getD (0:Nat)<=140737488355328/\i6 (x_1+7)/\i6 (x_1+7+(a4w x_1 s))/\I (x++[List.drop (x_1+7).toNat (b2t x_1 s)]) (x_1+7+(a4w x_1 s))/\m (x++[List.drop (x_1+7).toNat (b2t x_1 s)]) (x_1+7+(a4w x_1 s))<m x x_1)))/\(¬x_1+7<=(↑(List.length s):Int)->Q x x_1)
theorem pfC (s:Str) (hs:s.length<=100000000):VfC s (fun y0 y1=>y0=o4 s/\y1=((s.length:Int)-((D8 s).length:Int))):=by
 unfold VfC a4w b2t a5i
 refine ⟨fun x i=>0<=i/\i<=s.length/\x++o4 (s.drop i.toNat)=o4 s/\D8 (s.drop i.toNat)=D8 s/\(x.length:Int)<=i,fun _ i=>((s.length:Int)-i).toNat,⟨by omega,by omega,by rw [show (0:Int).toNat=0 from rfl,b7E]; rfl,rfl,by decide⟩,?_⟩
 rintro x i ⟨i0,i1,h0,h1,hx⟩
 refine ⟨⟨by omega,by omega⟩,fun h=>?_,fun h=>?_⟩
 rotate_left
 . exact a5r i0 i1 h0 h1 (b7n (.inl (by rw [b3W]; omega)))
 have e1:List.drop i.toNat (List.take (i+3).toNat s)=(s.drop i.toNat).take 3:=by
  rw [b6T]; congr 1; omega
 rw [e1]
 have hl:((s.drop i.toNat).length:Int)=s.length-i:=by rw [b3W]; omega
 have eL:leN ((s.drop i.toNat).take 3)-1=C7 (s.drop i.toNat):=rfl
 obtain ⟨t0,t1⟩:=b77 (s.drop i.toNat)
 have hS:=fun h=>a5r i0 i1 h0 h1 (b7n (r:=s.drop i.toNat) h)
 rw [eL]
 refine ⟨⟨by omega,by omega⟩,i0,by omega,by omega,by rw [b3U]; omega,by omega,⟨by omega,by omega⟩,fun _=>⟨by omega,by omega⟩,fun _=>⟨by omega,by omega⟩,fun h2=>?_,fun h2=>?_⟩
 . exact hS (by omega)
 have hL:0<=C7 (s.drop i.toNat)/\C7 (s.drop i.toNat)<=30000/\i+7+C7 (s.drop i.toNat)<=s.length:=by omega
 obtain ⟨g0,g1,g2⟩:=hL
 have hr:=c0c g0 g1 (by omega)
 have hn:=@c5w (s.drop i.toNat)
 have e2:List.drop (i+7).toNat (List.take (i+7+C7 (s.drop i.toNat)).toNat s)=((s.drop i.toNat).take (7+C7 (s.drop i.toNat)).toNat).drop 7:=by
  rw [b6T,b6T,b6R]; congr 1
  . omega
  . congr 1; omega
 have e3:List.drop i.toNat (List.take (i+7+C7 (s.drop i.toNat)).toNat s)=(s.drop i.toNat).take (7+C7 (s.drop i.toNat)).toNat:=by
  rw [b6T]; congr 1; omega
 rw [e2,e3]
 have hc:(((s.drop i.toNat).take (7+C7 (s.drop i.toNat)).toNat).drop 7).length<=1000000:=by
  rw [b3W,b3U]; omega
 have e16:(some 16).getD 0=16:=rfl
 refine ⟨⟨by omega,by omega⟩,⟨by omega,by omega⟩,⟨by omega,by omega⟩,by omega,by omega,by omega,⟨by omega,by omega⟩,⟨by omega,by omega⟩,⟨by omega,by omega,by omega⟩,hc,fun h3=>?_,fun h3=>?_⟩
 . exact a5r i0 i1 h0 h1 fun e=>h3 (hr.2 e)
 have h4:=hr.1 (b4N.1 h3)
 have e4:=hn h4
 have ed:s.drop (i+7+C7 (s.drop i.toNat)).toNat=(s.drop i.toNat).drop (7+C7 (s.drop i.toNat)).toNat:=by
  rw [b6R]; congr 1; omega
 rw [U0 h4,e4] at h0
 rw [U3 h4,e4] at h1
 refine ⟨by rw [e16,b4Y]; omega,⟨by omega,by omega⟩,⟨by omega,by omega⟩,⟨by omega,by omega,?_,?_,?_⟩,by dsimp only; omega⟩
 . rw [ed,b4L]; exact h0
 . rw [ed]; exact h1
 . rw [b3P,b4Y]; omega
def cfC (a:List (SV U)) (nx:Nat):Option (CR U):=match a with | [.str s]=>some ⟨[List.length (α:=UInt8) s<=100000000],[],.tup [.acc nx,.int .i64 ((s.length:Int)-((D8 s).length:Int))],[.ac 9 (o4 s)]⟩ | _=>none
def NfC:Env:=NfP.a2A 44 cfC
theorem d9o:l7 NfC:=b8e.a2A Tryz.call44 fun (args:List (SV U)) nx (c:CR U) (h:cfC args nx=some c) hp ho=>by
 unfold cfC at h
 split at h
 . rename_i s
   cases h
   exact e4r (an:=e56 44) b8e (l5 b8e M9 e56 2) Tryz.func44 (k1:=.acc 9) (k2:=.int .i64) (x1:=o4 s) (x2:=((s.length:Int)-((D8 s).length:Int))) rfl hp (kc (pfC s ho.1) (by kernel_rfl))
 . cases h
def e2s:Env:=NfC.a0K 48 Tryz.f48
theorem b1v:l7 e2s:=d9o.a0K Tryz.call48 Tryz.func48
def e5z:Nat->Ann:=fun | 29=>⟨6,nn,nn⟩ | _=>⟨0,nn,nn⟩
def Vrn (n:Int) (Q:Str->Prop):Prop :=
(0:Int)<=n/\n=n/\(↑((some (1:Nat)).getD (0:Nat)):Int) * n<=140737488355328/\Q (List.replicate n.toNat (0:UInt8))
theorem prn (n:Int) (h0:0<=n) (h1:n<=1000000):Vrn n (fun y0=>y0=List.replicate n.toNat 0):=by
 unfold Vrn
 exact ⟨h0,rfl,by show (1:Int) * n<=_; omega,rfl⟩
def crn (a:List (SV U)) (nx:Nat):Option (CR U):=match a with | [.int .i64 n]=>some ⟨[0<=n,n<=1000000],[],.str (List.replicate n.toNat 0),[]⟩ | _=>none
def Nrn:Env:=e2s.a2A 29 crn
theorem b7a:l7 Nrn:=b1v.a2A Tryz.call29 fun (args:List (SV U)) nx (c:CR U) (h:crn args nx=some c) hp ho=>by
 unfold crn at h
 split at h
 . rename_i n
   cases h
   exact b4q (an:=e5z 29) b1v (l5 b1v M9 e5z 2) Tryz.func29 (k:=.str) (x:=List.replicate n.toNat 0) hp (kc (prn n ho.1 ho.2.1) (by kernel_rfl))
 . cases h
def e4e:Nat->Ann:=fun | 30=>⟨20,nn,nn⟩ | _=>⟨0,nn,nn⟩
def b5z  := Int.toNat (8:Int)
def Vrh (t:Int) (h:Int) (n:Int) (Q:Str->Prop):Prop :=
(0:Int)<=t/\(0:Int)<=8/\(8:Int)<=8/\t<=9000000000000000000/\(0:Int)<=h/\(0:Int)<=1/\(1:Int)<=8/\h<=9000000000000000000/\List.length (leB t b5z)+List.length (leB h (Int.toNat (1:Int)))<=9223372036854775807/\(0:Int)<=n/\(0:Int)<=4/\(4:Int)<=8/\n<=9000000000000000000/\List.length (leB t b5z++leB h (Int.toNat (1:Int)))+List.length (leB n (Int.toNat (4:Int)))<=9223372036854775807/\(0:Int)<=235/\(235:Int)<=1000000/\List.length (leB t b5z++leB h (Int.toNat (1:Int))++leB n (Int.toNat (4:Int)))+(List.replicate (Int.toNat (235:Int)) (0:UInt8)).length<=9223372036854775807/\(0:Int)<=t/\(0:Int)<=8/\(8:Int)<=8/\t<=9000000000000000000/\List.length (leB t b5z++leB h (Int.toNat (1:Int))++leB n (Int.toNat (4:Int))++List.replicate (Int.toNat (235:Int)) (0:UInt8))+List.length (leB t b5z)<=9223372036854775807/\Q (leB t b5z++leB h (Int.toNat (1:Int))++leB n (Int.toNat (4:Int))++List.replicate (Int.toNat (235:Int)) (0:UInt8)++leB t b5z)
theorem prh (t:Int) (h:Int) (n:Int) (t0:0<=t) (t1:t<=9000000000000000000) (h0:0<=h) (h1:h<=255) (n0:0<=n) (n1:n<=9000000000000000000):Vrh t h n (fun y0=>y0=q5 t h n):=by
 unfold Vrh b5z
 repeat' apply And.intro
 all_goals first | omega | decide | (simp only [b3P,D7,b3X]; decide) | rfl
def crh (a:List (SV U)) (nx:Nat):Option (CR U):=match a with | [.int .i64 t,.int .i64 h,.int .i64 n]=>some ⟨[0<=t,t<=9000000000000000000,0<=h,h<=255,0<=n,n<=9000000000000000000],[],.str (q5 t h n),[]⟩ | _=>none
def Nrh:Env:=Nrn.a2A 30 crh
theorem b99:l7 Nrh:=b7a.a2A Tryz.call30 fun (args:List (SV U)) nx (c:CR U) (h:crh args nx=some c) hp ho=>by
 unfold crh at h
 split at h
 . rename_i t h n
   cases h
   exact b4q (an:=e4e 30) b7a (l5 b7a M9 e4e 2) Tryz.func30 (k:=.str) (x:=q5 t h n) hp (kc (prh t h n ho.1 ho.2.1 ho.2.2.1 ho.2.2.2.1 ho.2.2.2.2.1 ho.2.2.2.2.2.1) (by kernel_rfl))
 . cases h
end Go.Proofs.YtckpdliipjekgaaGreat
end
section
namespace Go.Proofs.YtckpdliipjekgaaGreat
open Go Go.Wk Go.Wl Go.Rx Go.Wa Go.Wa
theorem c9v {t:Str} {k:Nat} (h:t.length+k<=256 ∨ 256<=t.length):Y4 (t++List.replicate k 0)=Y4 t:=by
 unfold Y4
 rw [b3P,b3X,List.take_append,b4L]
 congr 1
 rw [b9L,b7S]
 congr 1
 omega
theorem c9i {s:Str} {k:Nat} (h:(s.length+k) % 256=0) (hk:k<256):o8 (s++List.replicate k 0)=o8 s:=by
 have hl:(o8 (s++List.replicate k 0)).length=(o8 s).length:=by
  rw [H8,H8,b3P,b3X]; omega
 refine c0G hl fun j h1 h2=>?_
 rw [a2h _ j h1,a2h _ j h2,List.drop_append]
 have hj:256 * j<s.length:=by rw [H8] at h2; omega
 rw [show 256 * j-s.length=0 by omega,b7E]
 exact c9v (by rw [b3W]; omega)
theorem c3a {x:Str} {i:Nat} (h:(i+1) * 256<=x.length):(o8 x).drop i=(x.take ((i+1) * 256)).drop (i * 256)::(o8 x).drop (i+1):=by
 have hi:i<(o8 x).length:=by rw [H8]; omega
 rw [b7M hi,a2h]
 congr 1
 unfold Y4
 rw [b3W,show 256-(x.length-256 * i)=0 by omega,b7R,b4M,b6T,b7G 256 i]
 congr 1; omega
theorem c7f {x:Str} (h:x.length % 256=0):(o8 x).drop (x.length / 256)=[]:=by
 rw [List.drop_eq_nil_iff,H8]; omega
end Go.Proofs.YtckpdliipjekgaaGreat
end
