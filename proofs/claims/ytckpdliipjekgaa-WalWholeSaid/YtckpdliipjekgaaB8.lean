/- 17 texts, one behind the other. -/
import Derived.Test.YtckpdliipjekgaaB7
import Derived.Test.YtckpdliipjekgaaB6
import Derived.Test.YtckpdliipjekgaaB4
import Derived.Test.YtckpdliipjekgaaRows
import Derived.ChangeSame
import Derived.ChangeVars
import Derived.JoinedOf
import Derived.RowKit
import Derived.RowKit2
import Derived.Carry
import Derived.ProofKit
set_option linter.unusedVariables false
set_option linter.unusedSimpArgs false
set_option maxRecDepth 100000
section
namespace Go.Proofs.Ytckpdliipjekgaa
open Go Go.Wk Go.Wl Go.Rx Go.Wa 
def anlog:Nat->Ann:=fun | 8=>⟨31,fun _=>none,fun _=>none⟩ | _=>⟨0,fun _=>none,fun _=>none⟩
def Vlog (n:Int) (Q:Int->Int->Str->List Str->List Str->Bool->Dk->Prop):Prop :=
((1:Int)<=n/\n<=8192->(Err.nil.nr≠0->False)/\(¬Err.nil.nr≠0->(Dk.new n).Ok/\((fmtS (Dk.new n)).fst.nr≠0->False)/\(¬(fmtS (Dk.new n)).fst.nr≠0->(fmtS (Dk.new n)).snd.Ok/\(((opnS (fmtS (Dk.new n)).snd).fst=Err.nil->False)->((opnS (fmtS (Dk.new n)).snd).fst.nr≠0->False)/\(¬(opnS (fmtS (Dk.new n)).snd).fst.nr≠0->False))/\((opnS (fmtS (Dk.new n)).snd).fst=Err.nil->(Err.nil.nr≠0->False)/\(¬Err.nil.nr≠0->Q (opnS (fmtS (Dk.new n)).snd).snd.fst (opnS (fmtS (Dk.new n)).snd).snd.snd.fst (opnS (fmtS (Dk.new n)).snd).snd.snd.snd.fst (opnS (fmtS (Dk.new n)).snd).snd.snd.snd.snd [] (decide (false=true)) (fmtS (Dk.new n)).snd)))))/\(¬((1:Int)<=n/\n<=8192)->((Err.no (2:Int)).nr≠0->False)/\(¬(Err.no (2:Int)).nr≠0->((0:Int)=0->(Err.no (1:Int)≠Err.nil->((Err.no (1:Int)).nr≠0->False)/\(¬(Err.no (1:Int)).nr≠0->((0:Int)=0->(Err.no (1:Int)≠Err.nil->((Err.no (1:Int)).nr≠0->False)/\(¬(Err.no (1:Int)).nr≠0->False))/\(¬Err.no (1:Int)≠Err.nil->False))/\(¬(0:Int)=0->((0:Int)<6->(Err.no (2:Int)≠Err.nil->((Err.no (2:Int)).nr≠0->False)/\(¬(Err.no (2:Int)).nr≠0->False))/\(¬Err.no (2:Int)≠Err.nil->False))/\(¬(0:Int)<6->(Err.nil≠Err.nil->(Err.nil.nr≠0->False)/\(¬Err.nil.nr≠0->False))/\(¬Err.nil≠Err.nil->False)))))/\(¬Err.no (1:Int)≠Err.nil->(0:Int)<=512/\(512:Int)=512/\(↑((some (1:Nat)).getD (0:Nat)):Int) * 512<=140737488355328/\False))/\(¬(0:Int)=0->((0:Int)<6->(Err.no (2:Int)≠Err.nil->((Err.no (2:Int)).nr≠0->False)/\(¬(Err.no (2:Int)).nr≠0->((0:Int)=0->(Err.no (1:Int)≠Err.nil->((Err.no (1:Int)).nr≠0->False)/\(¬(Err.no (1:Int)).nr≠0->False))/\(¬Err.no (1:Int)≠Err.nil->False))/\(¬(0:Int)=0->((0:Int)<6->(Err.no (2:Int)≠Err.nil->((Err.no (2:Int)).nr≠0->False)/\(¬(Err.no (2:Int)).nr≠0->False))/\(¬Err.no (2:Int)≠Err.nil->False))/\(¬(0:Int)<6->(Err.nil≠Err.nil->(Err.nil.nr≠0->False)/\(¬Err.nil.nr≠0->False))/\(¬Err.nil≠Err.nil->False)))))/\(¬Err.no (2:Int)≠Err.nil->(0:Int)<=512/\(512:Int)=512/\(↑((some (1:Nat)).getD (0:Nat)):Int) * 512<=140737488355328/\False))/\(¬(0:Int)<6->(Err.nil≠Err.nil->(Err.nil.nr≠0->False)/\(¬Err.nil.nr≠0->((0:Int)=0->(Err.no (1:Int)≠Err.nil->((Err.no (1:Int)).nr≠0->False)/\(¬(Err.no (1:Int)).nr≠0->False))/\(¬Err.no (1:Int)≠Err.nil->False))/\(¬(0:Int)=0->((0:Int)<6->(Err.no (2:Int)≠Err.nil->((Err.no (2:Int)).nr≠0->False)/\(¬(Err.no (2:Int)).nr≠0->False))/\(¬Err.no (2:Int)≠Err.nil->False))/\(¬(0:Int)<6->(Err.nil≠Err.nil->(Err.nil.nr≠0->False)/\(¬Err.nil.nr≠0->False))/\(¬Err.nil≠Err.nil->False)))))/\(¬Err.nil≠Err.nil->(0:Int)<=512/\(512:Int)=512/\(↑((some (1:Nat)).getD (0:Nat)):Int) * 512<=140737488355328/\False)))))
theorem Vlog_eq {n:Int} {Q:Int->Int->Str->List Str->List Str->Bool->Dk->Prop}:@Eq Prop (Vlog n Q) (vcFun (E:=Nsame) (inlHN Nsame Hopen anlog 3) (anlog 8) Try.f8 [.int .i64 n] [] [] 0 (endG Nsame [] 0 2 [[.tree [(0,1),(1,0)] [.own none 54 [.to 1,.v (.int .i64),.v (.int .i64),.v (.str),.v (.acc 9),.v (.acc 9),.v (.bool)],.ob none 0]]] ((Q,fun _ _ _ _ _ _ _=>(0:Nat)),()))):=by kernel_rfl
theorem Vlog_ok {n:Int} {Q:Int->Int->Str->List Str->List Str->Bool->Dk->Prop} (h:Vlog n Q):vcFun (E:=Nsame) (inlHN Nsame Hopen anlog 3) (anlog 8) Try.f8 [.int .i64 n] [] [] 0 (endG Nsame [] 0 2 [[.tree [(0,1),(1,0)] [.own none 54 [.to 1,.v (.int .i64),.v (.int .i64),.v (.str),.v (.acc 9),.v (.acc 9),.v (.bool)],.ob none 0]]] ((Q,fun _ _ _ _ _ _ _=>(0:Nat)),())):=by rw [<- Vlog_eq]; exact h
theorem plog (n:Int) (h6:6<=n) (h8:n<=8192):Vlog n (fun y0 y1 y2 y3 y4 y5 y6=>y0=(1:Int)/\y1=(0:Int)/\y2=([]:Str)/\y3=([]:List Str)/\y4=([]:List Str)/\y5=false/\y6=(fmtS (Dk.new n)).2):=by
 unfold Vlog
 have hN:(Dk.new n).lasts.length=n.toNat:=List.length_replicate
 have okn:(Dk.new n).Ok:=new_Ok (by omega) h8
 obtain ⟨y,e1,e2,r,l⟩:=fmt_new (x:=Dk.new n) ⟨okn,rfl,rfl⟩ (by omega)
 have eo:opnS y=(.nil,1,0,[],[]):=open_new r l (by show (1:Int)<=1099511627776; decide)
 rw [e1]
 refine ⟨fun _=>⟨fun h=>absurd rfl h,fun _=>⟨okn,fun h=>absurd rfl h,fun _=>⟨r.pow.ok,fun h=>(h (by show (opnS y).1=.nil; rw [eo])).elim,fun _=>⟨fun h=>absurd rfl h,fun _=>?_⟩⟩⟩⟩,fun hn=>absurd ⟨by omega,h8⟩ hn⟩
 have e3:opnS ((Err.nil,y):Err×Dk).snd=(.nil,1,0,[],[]):=eo
 rw [e3]
 exact ⟨rfl,rfl,rfl,rfl,rfl,rfl,rfl⟩
noncomputable def flogs (n:Int):FR U:=frOf Nsame [6<=n,n<=8192] [] 0 2 [.tree [(0,1),(1,0)] [.own none 54 [.to 1,.v (.int .i64),.v (.int .i64),.v (.str),.v (.acc 9),.v (.acc 9),.v (.bool)],.ob none 0]] ((((1:Int),(0:Int),([]:Str),([]:List Str),([]:List Str),false,()),(fmtS (Dk.new n)).2,()),())
noncomputable def flog:FC U:=⟨[],[],fun a its=>match a,its with | [.int .i64 n],[]=>some (flogs n) | _,_=>none⟩
theorem flog_ok (args:List (SV U)) (its:Items U) (r:FR U) (h:flog.C args its=some r) (ho:allP r.ob):GenOK Try.prog U eT Gl 8 args its (2 * its.length) (fun k=>allP r.hy->k r.v r.its r.n):=by
 unfold flog at h
 simp only at h
 split at h
 . rename_i n
   cases h
   exact fc_ok Nsame_ok (inlHN_ok Nsame_ok Hopen_ok anlog 3) Try.func8 (n:=2) rfl (vs:=[.tree [(0,1),(1,0)] [.own none 54 [.to 1,.v (.int .i64),.v (.int .i64),.v (.str),.v (.acc 9),.v (.acc 9),.v (.bool)],.ob none 0]]) (X:=((((1:Int),(0:Int),([]:Str),([]:List Str),([]:List Str),false,()),(fmtS (Dk.new n)).2,()),())) rfl (Vlog_ok (plog n ho.1 ho.2.1))
 . cases h
noncomputable def Nlog:Env:=(Nsame.addI 8 Try.f8).addX 8 flog
theorem Nlog_ok:EnvOK Nlog:=(Nsame_ok.addI Try.call8 Try.func8).addX Try.call8 flog_ok
def anars:Nat->Ann:=fun | 22=>⟨9,fun _=>none,fun _=>none⟩ | _=>⟨0,fun _=>none,fun _=>none⟩
def Vars (a:Act) (Q:List Str->Prop):Prop :=
([a.S].length+a.More.length) * (some (16:Nat)).getD (0:Nat)<=140737488355328/\Q ([a.S]++a.More)
theorem Vars_ok {a:Act} {Q:List Str->Prop} (h:Vars a Q):vcFun (E:=Nlog) (inlHN Nlog Hopen anars 2) (anars 22) Try.f22 [.agg [.int .i64 a.Kind,.str a.S,.sl (N:=U) 9 a.More,.int .i64 a.N,.int .i64 a.Cut,.sl (N:=U) 3 a.Kept]] [] [] 0 (resP Nlog [.acc 9] Q):=Eq.mp (show Vars a Q=vcFun (E:=Nlog) (inlHN Nlog Hopen anars 2) (anars 22) Try.f22 [.agg [.int .i64 a.Kind,.str a.S,.sl (N:=U) 9 a.More,.int .i64 a.N,.int .i64 a.Cut,.sl (N:=U) 3 a.Kept]] [] [] 0 (resP Nlog [.acc 9] Q) by kernel_rfl) h
theorem pars (a:Act) (h0:a.More.length<=1000000):Vars a (fun y0=>y0=(a.S::a.More)):=by
 unfold Vars
 refine ⟨?_,rfl⟩
 show (1+a.More.length) * 16<=_
 omega
def carss (a:Act) (nx:Nat):CR U:=⟨[List.length (α:=Str) a.More<=1000000],[],.acc nx,[.ac 9 ((a.S::a.More))]⟩
def cars (a:List (SV U)) (nx:Nat):Option (CR U):=match a with | [.agg [.int .i64 a0,.str a1,.sl 9 a2,.int .i64 a3,.int .i64 a4,.sl 3 a5]]=>some (carss (⟨a0,a1,a2,a3,a4,a5⟩) nx) | _=>none
theorem cars_ok (args:List (SV U)) (nx:Nat) (c:CR U) (h:cars args nx=some c) (hp:args.all pureS=true) (ho:allP c.ob):ConOK Nlog.P Nlog.N Nlog.T Nlog.G 22 args nx c:=by
 unfold cars at h
 split at h
 . rename_i a0 a1 a2 a3 a4 a5
   cases h
   exact con1 Nlog_ok (inlHN_ok Nlog_ok Hopen_ok anars 2) Try.func22 (k:=.acc 9) hp (Vars_ok (pars (⟨a0,a1,a2,a3,a4,a5⟩) ho.1))
 . cases h
noncomputable def Nars:Env:=Nlog.addC 22 cars
theorem Nars_ok:EnvOK Nars:=Nlog_ok.addC Try.call22 cars_ok
def anfew:Nat->Ann:=fun | 21=>⟨81,fun | 3=>some ⟨[0],[.slot 3 (.int .i64),.slot 4 (.int .i64)]⟩ | 7=>some ⟨[0,4],[.slot 3 (.int .i64),.slot 5 (.int .i64)]⟩ | _=>none,fun _=>none⟩ | _=>⟨0,fun _=>none,fun _=>none⟩
def qfew0 (x:Int) (l:List Act) (x_1:Int):=(x+bif false then max (↑(List.length (ix l x_1).S):Int) (100000:Int) else min (↑(List.length (ix l x_1).S):Int) (100000:Int))+bif false then max (↑(ix l x_1).Kept.length:Int) (1000:Int) else min (↑(ix l x_1).Kept.length:Int) (1000:Int)
def Vfew (l:List Act) (Q:Bool->Prop):Prop :=
∃ (I:Int->Int->Prop),∃ (m:Int->Int->Nat),I (0:Int) (0:Int)/\∀ (x x_1:Int),I x x_1->(x_1<(↑l.length:Int)/\x_1<=60->(0:Int)<=x_1/\x_1<(↑l.length:Int)/\(in64 (ix l x_1).Kind->in64 (ix l x_1).N->in64 (ix l x_1).Cut->in64 (x+bif false then max (↑(List.length (ix l x_1).S):Int) (100000:Int) else min (↑(List.length (ix l x_1).S):Int) (100000:Int))/\(0:Int)<=x_1/\x_1<(↑l.length:Int)/\(in64 (ix l x_1).Kind->in64 (ix l x_1).N->in64 (ix l x_1).Cut->in64 (qfew0 x l x_1)/\(0:Int)<=x_1/\x_1<(↑l.length:Int)/\(in64 (ix l x_1).Kind->in64 (ix l x_1).N->in64 (ix l x_1).Cut->in64 ((qfew0 x l x_1)+bif false then max (↑(ix l x_1).More.length:Int) (1000:Int) else min (↑(ix l x_1).More.length:Int) (1000:Int))/\∃ (I_1:Int->Int->Prop),∃ (m_1:Int->Int->Nat),I_1 ((qfew0 x l x_1)+bif false then max (↑(ix l x_1).More.length:Int) (1000:Int) else min (↑(ix l x_1).More.length:Int) (1000:Int)) (0:Int)/\∀ (x_2 x_3:Int),I_1 x_2 x_3->(0:Int)<=x_1/\x_1<(↑l.length:Int)/\(in64 (ix l x_1).Kind->in64 (ix l x_1).N->in64 (ix l x_1).Cut->(x_3<(↑(ix l x_1).More.length:Int)/\x_3<=50->(0:Int)<=x_1/\x_1<(↑l.length:Int)/\(in64 (ix l x_1).Kind->in64 (ix l x_1).N->in64 (ix l x_1).Cut->(0:Int)<=x_3/\x_3<(↑(ix l x_1).More.length:Int)/\in64 (x_2+bif false then max (↑(ix (ix l x_1).More x_3).length:Int) (100000:Int) else min (↑(ix (ix l x_1).More x_3).length:Int) (100000:Int))/\in64 (x_3+1)/\I_1 (x_2+bif false then max (↑(ix (ix l x_1).More x_3).length:Int) (100000:Int) else min (↑(ix (ix l x_1).More x_3).length:Int) (100000:Int)) (x_3+1)/\m_1 (x_2+bif false then max (↑(ix (ix l x_1).More x_3).length:Int) (100000:Int) else min (↑(ix (ix l x_1).More x_3).length:Int) (100000:Int)) (x_3+1)<m_1 x_2 x_3))/\(¬(x_3<(↑(ix l x_1).More.length:Int)/\x_3<=50)->(¬(40000:Int)<x_2->(0:Int)<=x_1)/\(¬(40000:Int)<x_2->x_1<(↑l.length:Int))/\((¬(40000:Int)<x_2->in64 (ix l x_1).Kind)->(¬(40000:Int)<x_2->in64 (ix l x_1).N)->(¬(40000:Int)<x_2->in64 (ix l x_1).Cut)->((40000:Int)<x_2 ∨ (50:Int)<(↑(ix l x_1).More.length:Int)->Q false)/\(¬((40000:Int)<x_2 ∨ (50:Int)<(↑(ix l x_1).More.length:Int))->in64 (x_1+1)/\I x_2 (x_1+1)/\m x_2 (x_1+1)<m x x_1))))))))/\(¬(x_1<(↑l.length:Int)/\x_1<=60)->Q (decide ((↑l.length:Int)<=60)))
theorem Vfew_ok {l:List Act} {Q:Bool->Prop} (h:Vfew l Q):vcFun (E:=Nars) (inlHN Nars Hopen anfew 2) (anfew 21) Try.f21 [.sl (N:=U) 46 l] [] [] 0 (resP Nars [.bool] Q):=Eq.mp (show Vfew l Q=vcFun (E:=Nars) (inlHN Nars Hopen anfew 2) (anfew 21) Try.f21 [.sl (N:=U) 46 l] [] [] 0 (resP Nars [.bool] Q) by kernel_rfl) h
set_option maxHeartbeats 1000000 in
theorem pfew (l:List Act)  : Vfew l (fun y0=>y0=fewS l):=by
 unfold Vfew qfew0
 have hT:(l.take 61).length=min 61 l.length:=List.length_take
 have b0:∀ a b:Int,(bif false then max a b else min a b)=min a b:=fun _ _=>rfl
 refine ⟨fun x i=>0<=i/\i<=(l.take 61).length/\0<=x/\x<=40000/\fewU x ((l.take 61).drop i.toNat)=fewU 0 (l.take 61),fun _ i=>(((l.take 61).length:Int)-i).toNat,⟨by omega,by omega,by omega,by omega,rfl⟩,?_⟩
 rintro x i ⟨i0,i1,x0,x1,hx⟩
 refine ⟨fun h=>?_,fun h=>?_⟩
 . have hi:i<(l.take 61).length:=by omega
   rw [drop_ix i0 hi,ix_take i0 (by omega) h.1,fewU,actU] at hx
   generalize ix l i=a at hx ⊢
   rw [b0,b0,b0]
   have hM:(a.More.take 51).length=min 51 a.More.length:=List.length_take
   refine ⟨i0,h.1,fun _ _ _=>⟨⟨by omega,by omega⟩,i0,h.1,fun _ _ _=>⟨⟨by omega,by omega⟩,i0,h.1,fun _ _ _=>⟨⟨by omega,by omega⟩,?_⟩⟩⟩⟩
   generalize hn:x+min (a.S.length:Int) 100000+min (a.Kept.length:Int) 1000+min (a.More.length:Int) 1000=n at hx ⊢
   have n0:0<=n/\n<=142000:=by omega
   refine ⟨fun y k=>0<=k/\k<=(a.More.take 51).length/\0<=y/\y<=142000+100000 * k/\moreU y ((a.More.take 51).drop k.toNat)=moreU n (a.More.take 51),fun _ k=>(((a.More.take 51).length:Int)-k).toNat,⟨by omega,by omega,by omega,by omega,rfl⟩,?_⟩
   rintro y k ⟨k0,k1,y0,y1,hy⟩
   refine ⟨i0,h.1,fun _ _ _=>⟨fun h2=>?_,fun h2=>?_⟩⟩
   . have hk:k<(a.More.take 51).length:=by omega
     rw [drop_ix k0 hk,ix_take k0 (by omega) h2.1,moreU] at hy
     rw [b0]
     exact ⟨i0,h.1,fun _ _ _=>⟨k0,h2.1,⟨by omega,by omega⟩,⟨by omega,by omega⟩,⟨by omega,by omega,by omega,by omega,hy⟩,by dsimp only; omega⟩⟩
   . rw [List.drop_of_length_le (by omega),moreU] at hy
     rw [<- hy] at hx
     refine ⟨fun _=>i0,fun _=>h.1,fun _ _ _=>⟨fun h3=>?_,fun h3=>?_⟩⟩
     . rw [if_pos h3] at hx
       unfold fewS
       rw [<- hx]; rfl
     . rw [if_neg h3] at hx
       exact ⟨⟨by omega,by omega⟩,⟨by omega,by omega,y0,by omega,by rw [show (i+1).toNat=(i+1).toNat from rfl]; exact hx⟩,by dsimp only; omega⟩
 . rw [List.drop_of_length_le (by omega),fewU] at hx
   unfold fewS
   rw [<- hx,if_pos rfl]
def cfew (a:List (SV U)):Option (Q1 U):=match a with | [.sl 46 l]=>some ⟨[],[],blB (fewS l)⟩ | _=>none
theorem cfew_ok (args:List (SV U)) (q:Q1 U) (h:cfew args=some q) (ho:allP q.ob):LendOK Nars 21 args ⟨q.ob,q.hy,q.v,[]⟩:=by
 unfold cfew at h
 split at h
 . rename_i l
   cases h
   exact lend1 Nars_ok (inlHN_ok Nars_ok Hopen_ok anfew 2) Try.func21 (k:=.bool) (x:=fewS l) trivial (Vfew_ok (pfew l )) 0
 . cases h
noncomputable def Nfew:Env:=Nars.addL 21 cfew
theorem Nfew_ok:EnvOK Nfew:=Nars_ok.addL Try.call21 cfew_ok
end Go.Proofs.Ytckpdliipjekgaa
end
section
namespace Go.Proofs.Ytckpdliipjekgaa
open Go Go.Wk Go.Wl Go.Rx Go.Wa Go.Wa
theorem half_w {w0:World} {d:Nat} {x:Dk} {F:List Nat} (h:DkIs d w0 x F) (ok:x.Ok) :
  CallR Try.prog 44 [.pointer (some ⟨d,0,none⟩)] w0 (fun v w'=>v=.int .i64 (halfS x)/\w'=w0):=by
 have h1:=ok.pos
 have h2:=ok.max
 obtain ⟨g1,g2,_⟩:=half_at ok
 refine Call1 Try.func44 rfl rfl rfl rfl ?_
 refine W_seq ?_
 refine W_region ?_
 refine S_assign rfl ?_
 refine WL_nil ?_
 refine W_seq ?_
 refine W_region ?_
 refine S_move rfl ?_
 refine S_callQ Try.call42 rfl (size_ok h ok) rfl ?_
 refine S_sub rfl rfl (by omega) rfl ?_
 refine S_quo rfl rfl (by decide) rfl ?_
 refine S_assign rfl ?_
 refine WL_nil ?_
 refine W_ret ?_
 have e:IntKind.i64.wrap (((x.lasts.length:Int)-2).tdiv 2)=halfS x:=by
  show IntKind.i64.wrap (halfS x)=halfS x
  rw [wrap_at]; omega
 show Value.int .i64 (IntKind.i64.wrap (((x.lasts.length:Int)-2).tdiv 2))=.int .i64 (halfS x)/\w0=w0
 rw [e]
 exact ⟨rfl,rfl⟩
theorem size_w {w0:World} {a d:Nat} {x:Dk} {F:List Nat} {cs:List Value} (h:DkIs d w0 x F) (ok:x.Ok) (ha:Own w0 a 54 cs) (hc:cs[0]?=some (.pointer (some ⟨d,0,none⟩))) :
  CallR Try.prog 26 [.pointer (some ⟨a,0,none⟩)] w0 (fun v w'=>v=.int .i64 (halfS x * 256)/\w'=w0):=by
 obtain ⟨g1,g2,_⟩:=half_at ok
 refine Call1 Try.func26 rfl rfl rfl rfl ?_
 refine W_seq ?_
 refine W_region ?_
 refine S_assign rfl ?_
 refine WL_nil ?_
 refine W_seq ?_
 refine W_region ?_
 refine S_move rfl ?_
 refine S_nilCheck rfl rfl ?_
 refine S_fieldAddr Try.runUnderlying54 rfl Try.sizeOf23 rfl rfl ?_
 refine S_load1 Try.isAgg23 rfl (Own.at ha hc) rfl ?_
 refine S_callQ Try.call44 rfl (half_w h ok) rfl ?_
 refine S_mul rfl rfl (by omega) rfl ?_
 refine S_assign rfl ?_
 refine WL_nil ?_
 refine W_ret ?_
 show Value.int .i64 (halfS x * 256)=.int .i64 (halfS x * 256)/\w0=w0
 exact ⟨rfl,rfl⟩
def cRz (args:List (SV U)) (its:Items U):Option (Q1 U):=match args with
 | [.ref i 0]=>(match lk its i with
  | some (.own 54 (.ref j 0::_))=>(match lk its j with
   | some (.ob 0 _ x)=>some ⟨[Dk.Ok x],[],.int .i64 (halfS x * 256)⟩
   | _=>none)
  | _=>none)
 | _=>none
theorem cRz_ok (args:List (SV U)) (its:Items U) (q:Q1 U) (h:cRz args its=some q) (ho:allP q.ob):RocOK Try.prog U eT 26 args its q:=by
 unfold cRz at h
 split at h
 . rename_i i
   split at h
   . rename_i j r hi
     split at h
     . rename_i f x hj
       cases h
       intro ρ Z w vs hh ha
       obtain ⟨L,cs,hL,hbs,how,hr⟩:=hh _ _ hi
       obtain ⟨L2,Lf,hL2,hLf,hob⟩:=hh _ _ hj
       obtain ⟨v1,r1,rfl,h1,ha⟩:=Rep.tup_cons ha
       obtain rfl:=tup0_inv ha
       cases h1 with | ref hL' =>
       rw [hL] at hL'; cases hL'
       obtain ⟨v2,r2,rfl,h2,_,hr⟩:=RepL.cons_inv hr
       cases h2 with | ref hL' =>
       rw [hL2] at hL'; cases hL'
       have ok:x.Ok:=ho.1
       obtain ⟨g1,g2,_⟩:=half_at ok
       exact (size_w (show DkIs L2.b w x Lf.bs from hob) ok how rfl).mono fun v w' ⟨e1,e2⟩=>by
        subst e1; subst e2
        exact ⟨Ext.refl _ _,.int fun _=>⟨by omega,by omega⟩,trivial⟩
     . cases h
   . cases h
 . cases h
end Go.Proofs.Ytckpdliipjekgaa
end
section
namespace Go.Proofs.Ytckpdliipjekgaa
open Go Go.Wk Go.Wl Go.Rx Go.Wa 
noncomputable def NRz:Env:=Nfew.addR 26 cRz
theorem NRz_ok:EnvOK NRz:=Nfew_ok.addR Try.call26 cRz_ok
def anrm:Nat->Ann:=fun | 10=>⟨26,fun _=>none,fun _=>none⟩ | _=>⟨0,fun _=>none,fun _=>none⟩
def Vrm (tn:Int) (hf:Int) (bt:Str) (rs:List Str) (wt:List Str) (pd:Prop) (dd:Decidable pd) (x:Dk) (Q:Int->Int->Int->Str->List Str->List Str->Bool->Dk->Prop):Prop :=
x.Ok/\in64 (halfS x * 256-(↑(List.length bt):Int))/\SmL wt/\in64 (halfS x * 256-(↑(List.length bt):Int)-sizeS wt)/\Q (halfS x * 256-(↑(List.length bt):Int)-sizeS wt) tn hf bt rs wt (decide pd) x
theorem Vrm_eq {tn:Int} {hf:Int} {bt:Str} {rs:List Str} {wt:List Str} {pd:Prop} {dd:Decidable pd} {x:Dk} {Q:Int->Int->Int->Str->List Str->List Str->Bool->Dk->Prop}:@Eq Prop (Vrm tn hf bt rs wt pd dd x Q) (vcFun (E:=NRz) (inlHN NRz Hopen anrm 3) (anrm 10) Try.f10 [.ref 0 0] [(0,.own 54 [.ref 1 0,.int .i64 tn,.int .i64 hf,.str bt,.acc 2,.acc 3,.bl pd dd]),(1,.ob (N:=U) 0 5 x),(2,.ac (N:=U) 9 rs),(3,.ac (N:=U) 9 wt)] [] 8 (endG NRz [(0,.own 54 [.ref 1 0,.int .i64 tn,.int .i64 hf,.str bt,.acc 2,.acc 3,.bl pd dd]),(1,.ob (N:=U) 0 5 x),(2,.ac (N:=U) 9 rs),(3,.ac (N:=U) 9 wt)] 8 1 [[.slot 0 (.int .i64),.tree [] [.own (some 200) 54 [.to 1,.v (.int .i64),.v (.int .i64),.v (.str),.v (.acc 9),.v (.acc 9),.v (.bool)],.ob (some 201) 0]]] ((Q,fun _ _ _ _ _ _ _ _=>(0:Nat)),()))):=by kernel_rfl
theorem Vrm_ok {tn:Int} {hf:Int} {bt:Str} {rs:List Str} {wt:List Str} {pd:Prop} {dd:Decidable pd} {x:Dk} {Q:Int->Int->Int->Str->List Str->List Str->Bool->Dk->Prop} (h:Vrm tn hf bt rs wt pd dd x Q):vcFun (E:=NRz) (inlHN NRz Hopen anrm 3) (anrm 10) Try.f10 [.ref 0 0] [(0,.own 54 [.ref 1 0,.int .i64 tn,.int .i64 hf,.str bt,.acc 2,.acc 3,.bl pd dd]),(1,.ob (N:=U) 0 5 x),(2,.ac (N:=U) 9 rs),(3,.ac (N:=U) 9 wt)] [] 8 (endG NRz [(0,.own 54 [.ref 1 0,.int .i64 tn,.int .i64 hf,.str bt,.acc 2,.acc 3,.bl pd dd]),(1,.ob (N:=U) 0 5 x),(2,.ac (N:=U) 9 rs),(3,.ac (N:=U) 9 wt)] 8 1 [[.slot 0 (.int .i64),.tree [] [.own (some 200) 54 [.to 1,.v (.int .i64),.v (.int .i64),.v (.str),.v (.acc 9),.v (.acc 9),.v (.bool)],.ob (some 201) 0]]] ((Q,fun _ _ _ _ _ _ _ _=>(0:Nat)),())):=by rw [<- Vrm_eq]; exact h
theorem sizeU_bd:∀ (l:List Str) (x:Int),(∀ s∈l,s.length<=1000000)->0<=x->0<=sizeU x l/\sizeU x l<=x+1000007 * l.length
 | [],x,_,h0=>⟨h0,by show x<=x+1000007 * ((0:Nat):Int); omega⟩
 | s::r,x,h,h0=>by
  have hs:=h s (List.mem_cons_self ..)
  have h1:=sizeU_bd r (x+(7+(s.length:Int))) (fun t ht=>h t (List.mem_cons_of_mem _ ht)) (by omega)
  rw [sizeU,List.length_cons]
  split <;> omega
set_option maxHeartbeats 4000000 in
theorem prm (tn:Int) (hf:Int) (bt:Str) (rs:List Str) (wt:List Str) (pd:Prop) (dd:Decidable pd) (x:Dk) (hb:LgB (⟨tn,hf,bt,rs,wt,decide pd,x⟩:Lg)):Vrm tn hf bt rs wt pd dd x (fun y0 y1 y2 y3 y4 y5 y6 y7=>y0=(halfS x * 256-(List.length (α:=UInt8) bt:Int)-sizeS wt)/\y1=tn/\y2=hf/\y3=bt/\y4=rs/\y5=wt/\y6=(decide pd)/\y7=x):=by
 unfold Vrm
 obtain ⟨ok,h0,h1,hb,t0,t1,hn,hw,hp⟩:=hb
 have ok:x.Ok:=ok
 have hb:bt.length<=2000000:=hb
 have hw:SmL wt:=hw
 obtain ⟨g0,g1,_⟩:=half_at ok
 have hq:0<=sizeS wt/\sizeS wt<=1000007 * wt.length:=by
  have:=sizeU_bd wt 0 hw.2 (Int.le_refl 0)
  exact ⟨this.1,by have:=this.2; show sizeU 0 wt<=_; omega⟩
 have:=hw.1
 refine ⟨ok,⟨by omega,by omega⟩,hw,?_,rfl,rfl,rfl,rfl,rfl,rfl,rfl,rfl⟩
 generalize sizeS wt=z at hq
 exact ⟨by omega,by omega⟩
noncomputable def frms (tn:Int) (hf:Int) (bt:Str) (rs:List Str) (wt:List Str) (pd:Prop) (dd:Decidable pd) (x:Dk):FR U:=frOf NRz [LgB (⟨tn,hf,bt,rs,wt,decide pd,x⟩:Lg)] [(0,.own 54 [.ref 1 0,.int .i64 tn,.int .i64 hf,.str bt,.acc 2,.acc 3,.bl pd dd]),(1,.ob (N:=U) 0 5 x),(2,.ac (N:=U) 9 rs),(3,.ac (N:=U) 9 wt)] 8 1 [.slot 0 (.int .i64),.tree [] [.own (some 200) 54 [.to 1,.v (.int .i64),.v (.int .i64),.v (.str),.v (.acc 9),.v (.acc 9),.v (.bool)],.ob (some 201) 0]] ((halfS x * 256-(List.length (α:=UInt8) bt:Int)-sizeS wt),((tn,hf,bt,rs,wt,(decide pd),()),x,()),())
noncomputable def frm:FC U:=⟨[],[],fun a its=>match a,its with | [.ref 0 0],[(0,.own 54 [.ref 1 0,.int .i64 tn,.int .i64 hf,.str bt,.acc 2,.acc 3,.bl pd dd]),(1,.ob 0 5 x),(2,.ac 9 rs),(3,.ac 9 wt)]=>some (frms tn hf bt rs wt pd dd x) | _,_=>none⟩
set_option maxHeartbeats 4000000 in
theorem frm_ok (args:List (SV U)) (its:Items U) (r:FR U) (h:frm.C args its=some r) (ho:allP r.ob):GenOK Try.prog U eT Gl 10 args its (2 * its.length) (fun k=>allP r.hy->k r.v r.its r.n):=by
 unfold frm at h
 simp only at h
 split at h
 . rename_i tn hf bt pd dd x rs wt
   cases h
   exact fc_ok NRz_ok (inlHN_ok NRz_ok Hopen_ok anrm 3) Try.func10 (n:=1) rfl (vs:=[.slot 0 (.int .i64),.tree [] [.own (some 200) 54 [.to 1,.v (.int .i64),.v (.int .i64),.v (.str),.v (.acc 9),.v (.acc 9),.v (.bool)],.ob (some 201) 0]]) (X:=((halfS x * 256-(List.length (α:=UInt8) bt:Int)-sizeS wt),((tn,hf,bt,rs,wt,(decide pd),()),x,()),())) rfl (Vrm_ok (prm tn hf bt rs wt pd dd x ho.1))
 . cases h
noncomputable def Nrm:Env:=(NRz.addI 10 Try.f10).addX 10 frm
theorem Nrm_ok:EnvOK Nrm:=(NRz_ok.addI Try.call10 Try.func10).addX Try.call10 frm_ok
def anap:Nat->Ann:=fun | 11=>⟨36,fun _=>none,fun _=>none⟩ | _=>⟨0,fun _=>none,fun _=>none⟩
def Vap (tn:Int) (hf:Int) (bt:Str) (rs:List Str) (wt:List Str) (pd:Prop) (dd:Decidable pd) (x:Dk) (l:List Str) (Q:Err->Int->Int->Str->List Str->List Str->Bool->Dk->Prop):Prop :=
(pd->(Err.no (9:Int)≠Err.nil->Q (Err.no (9:Int)) tn hf bt rs wt (decide pd) x)/\(¬Err.no (9:Int)≠Err.nil->SmL l/\((packE l).snd≠Err.nil->Q (packE l).snd tn hf bt rs wt (decide pd) x)/\(¬(packE l).snd≠Err.nil->LgB (Lg.mk tn hf bt rs wt (decide pd) x)/\(halfS x * 256-(↑(List.length bt):Int)-sizeS wt<(↑(List.length (packE l).fst):Int)->Q (Err.no (6:Int)) tn hf bt rs wt (decide (decide pd=true)) x)/\(¬halfS x * 256-(↑(List.length bt):Int)-sizeS wt<(↑(List.length (packE l).fst):Int)->(wt.length+l.length) * (some (16:Nat)).getD (0:Nat)<=140737488355328/\Q Err.nil tn hf bt rs (wt++l) (decide (decide pd=true)) x))))/\(¬pd->(Err.nil≠Err.nil->Q Err.nil tn hf bt rs wt (decide pd) x)/\(¬Err.nil≠Err.nil->SmL l/\((packE l).snd≠Err.nil->Q (packE l).snd tn hf bt rs wt (decide pd) x)/\(¬(packE l).snd≠Err.nil->LgB (Lg.mk tn hf bt rs wt (decide pd) x)/\(halfS x * 256-(↑(List.length bt):Int)-sizeS wt<(↑(List.length (packE l).fst):Int)->Q (Err.no (6:Int)) tn hf bt rs wt (decide (decide pd=true)) x)/\(¬halfS x * 256-(↑(List.length bt):Int)-sizeS wt<(↑(List.length (packE l).fst):Int)->(wt.length+l.length) * (some (16:Nat)).getD (0:Nat)<=140737488355328/\Q Err.nil tn hf bt rs (wt++l) (decide (decide pd=true)) x))))
theorem Vap_eq {tn:Int} {hf:Int} {bt:Str} {rs:List Str} {wt:List Str} {pd:Prop} {dd:Decidable pd} {x:Dk} {l:List Str} {Q:Err->Int->Int->Str->List Str->List Str->Bool->Dk->Prop}:@Eq Prop (Vap tn hf bt rs wt pd dd x l Q) (vcFun (E:=Nrm) (inlHN Nrm Hopen anap 3) (anap 11) Try.f11 [.ref 0 0,.sl (N:=U) 9 l] [(0,.own 54 [.ref 1 0,.int .i64 tn,.int .i64 hf,.str bt,.acc 2,.acc 3,.bl pd dd]),(1,.ob (N:=U) 0 5 x),(2,.ac (N:=U) 9 rs),(3,.ac (N:=U) 9 wt)] [] 8 (endG Nrm [(0,.own 54 [.ref 1 0,.int .i64 tn,.int .i64 hf,.str bt,.acc 2,.acc 3,.bl pd dd]),(1,.ob (N:=U) 0 5 x),(2,.ac (N:=U) 9 rs),(3,.ac (N:=U) 9 wt)] 8 1 [[.slot 0 (.err),.tree [] [.own (some 200) 54 [.to 1,.v (.int .i64),.v (.int .i64),.v (.str),.v (.acc 9),.v (.acc 9),.v (.bool)],.ob (some 201) 0]]] ((Q,fun _ _ _ _ _ _ _ _=>(0:Nat)),()))):=by kernel_rfl
theorem Vap_ok {tn:Int} {hf:Int} {bt:Str} {rs:List Str} {wt:List Str} {pd:Prop} {dd:Decidable pd} {x:Dk} {l:List Str} {Q:Err->Int->Int->Str->List Str->List Str->Bool->Dk->Prop} (h:Vap tn hf bt rs wt pd dd x l Q):vcFun (E:=Nrm) (inlHN Nrm Hopen anap 3) (anap 11) Try.f11 [.ref 0 0,.sl (N:=U) 9 l] [(0,.own 54 [.ref 1 0,.int .i64 tn,.int .i64 hf,.str bt,.acc 2,.acc 3,.bl pd dd]),(1,.ob (N:=U) 0 5 x),(2,.ac (N:=U) 9 rs),(3,.ac (N:=U) 9 wt)] [] 8 (endG Nrm [(0,.own 54 [.ref 1 0,.int .i64 tn,.int .i64 hf,.str bt,.acc 2,.acc 3,.bl pd dd]),(1,.ob (N:=U) 0 5 x),(2,.ac (N:=U) 9 rs),(3,.ac (N:=U) 9 wt)] 8 1 [[.slot 0 (.err),.tree [] [.own (some 200) 54 [.to 1,.v (.int .i64),.v (.int .i64),.v (.str),.v (.acc 9),.v (.acc 9),.v (.bool)],.ob (some 201) 0]]] ((Q,fun _ _ _ _ _ _ _ _=>(0:Nat)),())):=by rw [<- Vap_eq]; exact h
set_option maxHeartbeats 1000000 in
theorem pap (tn:Int) (hf:Int) (bt:Str) (rs:List Str) (wt:List Str) (pd:Prop) (dd:Decidable pd) (x:Dk) (l:List Str) (hb:LgB (⟨tn,hf,bt,rs,wt,decide pd,x⟩:Lg)) (hl:SmL l):Vap tn hf bt rs wt pd dd x l (fun y0 y1 y2 y3 y4 y5 y6 y7=>y0=(appS (⟨tn,hf,bt,rs,wt,decide pd,x⟩:Lg) l).1/\y1=((appS (⟨tn,hf,bt,rs,wt,decide pd,x⟩:Lg) l).2).turn/\y2=((appS (⟨tn,hf,bt,rs,wt,decide pd,x⟩:Lg) l).2).half/\y3=((appS (⟨tn,hf,bt,rs,wt,decide pd,x⟩:Lg) l).2).bytes/\y4=((appS (⟨tn,hf,bt,rs,wt,decide pd,x⟩:Lg) l).2).recs/\y5=((appS (⟨tn,hf,bt,rs,wt,decide pd,x⟩:Lg) l).2).wait/\y6=((appS (⟨tn,hf,bt,rs,wt,decide pd,x⟩:Lg) l).2).dead/\y7=((appS (⟨tn,hf,bt,rs,wt,decide pd,x⟩:Lg) l).2).d):=by
 unfold Vap appS
 have e9:Err.no 9≠Err.nil:=by simp
 have hn:rs.length+wt.length<=1000000:=hb.n
 have hl0:=hl.1
 have e16:(some 16).getD 0=16:=rfl
 have dd2:decide (decide pd=true)=decide pd:=Bool.decide_eq_true
 refine ⟨fun hd=>⟨fun _=>?_,fun h=>absurd e9 h⟩,fun hd=>⟨fun h=>absurd rfl h,fun _=>⟨hl,fun h3=>?_,fun h3=>⟨hb,fun h4=>?_,fun h4=>⟨by rw [e16]; omega,?_⟩⟩⟩⟩⟩
 . rw [if_pos (show (⟨tn,hf,bt,rs,wt,decide pd,x⟩:Lg).dead=true from decide_eq_true hd)]; exact ⟨rfl,rfl,rfl,rfl,rfl,rfl,rfl,rfl⟩
 . rw [if_neg (show ¬ (⟨tn,hf,bt,rs,wt,decide pd,x⟩:Lg).dead=true from fun h=>hd (of_decide_eq_true h)),if_pos h3]; exact ⟨rfl,rfl,rfl,rfl,rfl,rfl,rfl,rfl⟩
 . rw [if_neg (show ¬ (⟨tn,hf,bt,rs,wt,decide pd,x⟩:Lg).dead=true from fun h=>hd (of_decide_eq_true h)),if_neg h3,if_pos (show roomS ⟨tn,hf,bt,rs,wt,decide pd,x⟩<((packE l).1.length:Int) from h4)]; exact ⟨rfl,rfl,rfl,rfl,rfl,rfl,dd2,rfl⟩
 . rw [if_neg (show ¬ (⟨tn,hf,bt,rs,wt,decide pd,x⟩:Lg).dead=true from fun h=>hd (of_decide_eq_true h)),if_neg h3,if_neg (show ¬ roomS ⟨tn,hf,bt,rs,wt,decide pd,x⟩<((packE l).1.length:Int) from h4)]; exact ⟨rfl,rfl,rfl,rfl,rfl,rfl,dd2,rfl⟩
noncomputable def faps (tn:Int) (hf:Int) (bt:Str) (rs:List Str) (wt:List Str) (pd:Prop) (dd:Decidable pd) (x:Dk) (l:List Str):FR U:=frOf Nrm [LgB (⟨tn,hf,bt,rs,wt,decide pd,x⟩:Lg),SmL l] [(0,.own 54 [.ref 1 0,.int .i64 tn,.int .i64 hf,.str bt,.acc 2,.acc 3,.bl pd dd]),(1,.ob (N:=U) 0 5 x),(2,.ac (N:=U) 9 rs),(3,.ac (N:=U) 9 wt)] 8 1 [.slot 0 (.err),.tree [] [.own (some 200) 54 [.to 1,.v (.int .i64),.v (.int .i64),.v (.str),.v (.acc 9),.v (.acc 9),.v (.bool)],.ob (some 201) 0]] ((appS (⟨tn,hf,bt,rs,wt,decide pd,x⟩:Lg) l).1,((((appS (⟨tn,hf,bt,rs,wt,decide pd,x⟩:Lg) l).2).turn,((appS (⟨tn,hf,bt,rs,wt,decide pd,x⟩:Lg) l).2).half,((appS (⟨tn,hf,bt,rs,wt,decide pd,x⟩:Lg) l).2).bytes,((appS (⟨tn,hf,bt,rs,wt,decide pd,x⟩:Lg) l).2).recs,((appS (⟨tn,hf,bt,rs,wt,decide pd,x⟩:Lg) l).2).wait,((appS (⟨tn,hf,bt,rs,wt,decide pd,x⟩:Lg) l).2).dead,()),((appS (⟨tn,hf,bt,rs,wt,decide pd,x⟩:Lg) l).2).d,()),())
noncomputable def fap:FC U:=⟨[1],[],fun a its=>match a,its with | [.ref 0 0,.sl 9 l],[(0,.own 54 [.ref 1 0,.int .i64 tn,.int .i64 hf,.str bt,.acc 2,.acc 3,.bl pd dd]),(1,.ob 0 5 x),(2,.ac 9 rs),(3,.ac 9 wt)]=>some (faps tn hf bt rs wt pd dd x l) | _,_=>none⟩
set_option maxHeartbeats 1000000 in
theorem fap_ok (args:List (SV U)) (its:Items U) (r:FR U) (h:fap.C args its=some r) (ho:allP r.ob):GenOK Try.prog U eT Gl 11 args its (2 * its.length) (fun k=>allP r.hy->k r.v r.its r.n):=by
 unfold fap at h
 simp only at h
 split at h
 . rename_i l tn hf bt pd dd x rs wt
   cases h
   exact fc_ok Nrm_ok (inlHN_ok Nrm_ok Hopen_ok anap 3) Try.func11 (n:=1) rfl (vs:=[.slot 0 (.err),.tree [] [.own (some 200) 54 [.to 1,.v (.int .i64),.v (.int .i64),.v (.str),.v (.acc 9),.v (.acc 9),.v (.bool)],.ob (some 201) 0]]) (X:=((appS (⟨tn,hf,bt,rs,wt,decide pd,x⟩:Lg) l).1,((((appS (⟨tn,hf,bt,rs,wt,decide pd,x⟩:Lg) l).2).turn,((appS (⟨tn,hf,bt,rs,wt,decide pd,x⟩:Lg) l).2).half,((appS (⟨tn,hf,bt,rs,wt,decide pd,x⟩:Lg) l).2).bytes,((appS (⟨tn,hf,bt,rs,wt,decide pd,x⟩:Lg) l).2).recs,((appS (⟨tn,hf,bt,rs,wt,decide pd,x⟩:Lg) l).2).wait,((appS (⟨tn,hf,bt,rs,wt,decide pd,x⟩:Lg) l).2).dead,()),((appS (⟨tn,hf,bt,rs,wt,decide pd,x⟩:Lg) l).2).d,()),())) rfl (Vap_ok (pap tn hf bt rs wt pd dd x l ho.1 ho.2.1))
 . cases h
noncomputable def Nap:Env:=(Nrm.addI 11 Try.f11).addX 11 fap
theorem Nap_ok:EnvOK Nap:=(Nrm_ok.addI Try.call11 Try.func11).addX Try.call11 fap_ok
noncomputable def gaps (tn:Int) (hf:Int) (bt:Str) (rs:List Str) (wt:List Str) (pd:Prop) (dd:Decidable pd) (x:Dk) (l:List Str):PT U:=fun k=>cj [LgB (⟨tn,hf,bt,rs,wt,decide pd,x⟩:Lg),SmL l] (∀ (e':Err) (tn':Int) (hf':Int) (bt':Str) (rs':List Str) (wt':List Str) (dd':Bool) (x':Dk),(e',(⟨tn',hf',bt',rs',wt',dd',x'⟩:Lg))=appS (⟨tn,hf,bt,rs,wt,decide pd,x⟩:Lg) l->outS Nrm [(0,.own 54 [.ref 1 0,.int .i64 tn,.int .i64 hf,.str bt,.acc 2,.acc 3,.bl pd dd]),(1,.ob (N:=U) 0 5 x),(2,.ac (N:=U) 9 rs),(3,.ac (N:=U) 9 wt)] 8 1 [[.slot 0 (.err),.tree [] [.own (some 200) 54 [.to 1,.v (.int .i64),.v (.int .i64),.v (.str),.v (.acc 9),.v (.acc 9),.v (.bool)],.ob (some 201) 0]]] (([],(e',((tn',hf',bt',rs',wt',dd',()),x',()),())),()) k)
noncomputable def gap:GD U:=⟨[1],[],fun a its=>match a,its with | [.ref 0 0,.sl 9 l],[(0,.own 54 [.ref 1 0,.int .i64 tn,.int .i64 hf,.str bt,.acc 2,.acc 3,.bl pd dd]),(1,.ob 0 5 x),(2,.ac 9 rs),(3,.ac 9 wt)]=>some (gaps tn hf bt rs wt pd dd x l) | _,_=>none⟩
set_option maxHeartbeats 4000000 in
theorem gap_ok (args:List (SV U)) (its:Items U) (S:PT U) (h:gap.C args its=some S):GenOK Try.prog U eT Gl 11 args its (2 * its.length) S:=by
 unfold gap at h
 simp only at h
 split at h
 . rename_i l tn hf bt pd dd x rs wt
   cases h
   intro k hk
   obtain ⟨ho,hk⟩:=cj_ob hk
   exact gs_ok Nrm_ok (inlHN_ok Nrm_ok Hopen_ok anap 3) Try.func11 (n:=1) rfl (ss:=[[.slot 0 (.err),.tree [] [.own (some 200) 54 [.to 1,.v (.int .i64),.v (.int .i64),.v (.str),.v (.acc 9),.v (.acc 9),.v (.bool)],.ob (some 201) 0]]]) (R:=(([],((appS (⟨tn,hf,bt,rs,wt,decide pd,x⟩:Lg) l).1,((((appS (⟨tn,hf,bt,rs,wt,decide pd,x⟩:Lg) l).2).turn,((appS (⟨tn,hf,bt,rs,wt,decide pd,x⟩:Lg) l).2).half,((appS (⟨tn,hf,bt,rs,wt,decide pd,x⟩:Lg) l).2).bytes,((appS (⟨tn,hf,bt,rs,wt,decide pd,x⟩:Lg) l).2).recs,((appS (⟨tn,hf,bt,rs,wt,decide pd,x⟩:Lg) l).2).wait,((appS (⟨tn,hf,bt,rs,wt,decide pd,x⟩:Lg) l).2).dead,()),((appS (⟨tn,hf,bt,rs,wt,decide pd,x⟩:Lg) l).2).d,()),())),())) (obs:=[]) rfl (fun _=>Vap_ok (pap tn hf bt rs wt pd dd x l ho.1 ho.2.1)) k (hk (appS (⟨tn,hf,bt,rs,wt,decide pd,x⟩:Lg) l).1 (appS (⟨tn,hf,bt,rs,wt,decide pd,x⟩:Lg) l).2.turn (appS (⟨tn,hf,bt,rs,wt,decide pd,x⟩:Lg) l).2.half (appS (⟨tn,hf,bt,rs,wt,decide pd,x⟩:Lg) l).2.bytes (appS (⟨tn,hf,bt,rs,wt,decide pd,x⟩:Lg) l).2.recs (appS (⟨tn,hf,bt,rs,wt,decide pd,x⟩:Lg) l).2.wait (appS (⟨tn,hf,bt,rs,wt,decide pd,x⟩:Lg) l).2.dead (appS (⟨tn,hf,bt,rs,wt,decide pd,x⟩:Lg) l).2.d rfl)
 . cases h
noncomputable def gsys (tn:Int) (hf:Int) (bt:Str) (rs:List Str) (wt:List Str) (pd:Prop) (dd:Decidable pd) (x:Dk):PT U:=fun k=>cj [LgB (⟨tn,hf,bt,rs,wt,decide pd,x⟩:Lg)] (∀ (e':Err) (tn':Int) (hf':Int) (bt':Str) (rs':List Str) (wt':List Str) (dd':Bool) (x':Dk),(e',(⟨tn',hf',bt',rs',wt',dd',x'⟩:Lg))=syncS (⟨tn,hf,bt,rs,wt,decide pd,x⟩:Lg)->outS Nwr [(0,.own 54 [.ref 1 0,.int .i64 tn,.int .i64 hf,.str bt,.acc 2,.acc 3,.bl pd dd]),(1,.ob (N:=U) 0 5 x),(2,.ac (N:=U) 9 rs),(3,.ac (N:=U) 9 wt)] 8 1 [[.slot 0 (.err),.tree [] [.own (some 200) 54 [.to 1,.v (.int .i64),.v (.int .i64),.v (.str),.v (.acc 9),.v (.acc 9),.v (.bool)],.ob (some 201) 0]]] (([],(e',((tn',hf',bt',rs',wt',dd',()),x',()),())),()) k)
noncomputable def gsy:GD U:=⟨[],[],fun a its=>match a,its with | [.ref 0 0],[(0,.own 54 [.ref 1 0,.int .i64 tn,.int .i64 hf,.str bt,.acc 2,.acc 3,.bl pd dd]),(1,.ob 0 5 x),(2,.ac 9 rs),(3,.ac 9 wt)]=>some (gsys tn hf bt rs wt pd dd x) | _,_=>none⟩
set_option maxHeartbeats 4000000 in
theorem gsy_ok (args:List (SV U)) (its:Items U) (S:PT U) (h:gsy.C args its=some S):GenOK Try.prog U eT Gl 14 args its (2 * its.length) S:=by
 unfold gsy at h
 simp only at h
 split at h
 . rename_i tn hf bt pd dd x rs wt
   cases h
   intro k hk
   obtain ⟨ho,hk⟩:=cj_ob hk
   exact gs_ok Nwr_ok (inlHN_ok Nwr_ok Hopen_ok ansy 3) Try.func14 (n:=1) rfl (ss:=[[.slot 0 (.err),.tree [] [.own (some 200) 54 [.to 1,.v (.int .i64),.v (.int .i64),.v (.str),.v (.acc 9),.v (.acc 9),.v (.bool)],.ob (some 201) 0]]]) (R:=(([],((syncS (⟨tn,hf,bt,rs,wt,decide pd,x⟩:Lg)).1,((((syncS (⟨tn,hf,bt,rs,wt,decide pd,x⟩:Lg)).2).turn,((syncS (⟨tn,hf,bt,rs,wt,decide pd,x⟩:Lg)).2).half,((syncS (⟨tn,hf,bt,rs,wt,decide pd,x⟩:Lg)).2).bytes,((syncS (⟨tn,hf,bt,rs,wt,decide pd,x⟩:Lg)).2).recs,((syncS (⟨tn,hf,bt,rs,wt,decide pd,x⟩:Lg)).2).wait,((syncS (⟨tn,hf,bt,rs,wt,decide pd,x⟩:Lg)).2).dead,()),((syncS (⟨tn,hf,bt,rs,wt,decide pd,x⟩:Lg)).2).d,()),())),())) (obs:=[]) rfl (fun _=>Vsy_ok (psy tn hf bt rs wt pd dd x ho.1)) k (hk (syncS (⟨tn,hf,bt,rs,wt,decide pd,x⟩:Lg)).1 (syncS (⟨tn,hf,bt,rs,wt,decide pd,x⟩:Lg)).2.turn (syncS (⟨tn,hf,bt,rs,wt,decide pd,x⟩:Lg)).2.half (syncS (⟨tn,hf,bt,rs,wt,decide pd,x⟩:Lg)).2.bytes (syncS (⟨tn,hf,bt,rs,wt,decide pd,x⟩:Lg)).2.recs (syncS (⟨tn,hf,bt,rs,wt,decide pd,x⟩:Lg)).2.wait (syncS (⟨tn,hf,bt,rs,wt,decide pd,x⟩:Lg)).2.dead (syncS (⟨tn,hf,bt,rs,wt,decide pd,x⟩:Lg)).2.d rfl)
 . cases h
noncomputable def gcos (tn:Int) (hf:Int) (bt:Str) (rs:List Str) (wt:List Str) (pd:Prop) (dd:Decidable pd) (x:Dk) (l:List Str):PT U:=fun k=>cj [LgB (⟨tn,hf,bt,rs,wt,decide pd,x⟩:Lg),SmL l] (∀ (e':Err) (tn':Int) (hf':Int) (bt':Str) (rs':List Str) (wt':List Str) (dd':Bool) (x':Dk),(e',(⟨tn',hf',bt',rs',wt',dd',x'⟩:Lg))=compS (⟨tn,hf,bt,rs,wt,decide pd,x⟩:Lg) l->outS Nsy [(0,.own 54 [.ref 1 0,.int .i64 tn,.int .i64 hf,.str bt,.acc 2,.acc 3,.bl pd dd]),(1,.ob (N:=U) 0 5 x),(2,.ac (N:=U) 9 rs),(3,.ac (N:=U) 9 wt)] 8 1 [[.slot 0 (.err),.tree [] [.own (some 200) 54 [.to 1,.v (.int .i64),.v (.int .i64),.v (.str),.v (.acc 9),.v (.acc 9),.v (.bool)],.ob (some 201) 0]]] (([],(e',((tn',hf',bt',rs',wt',dd',()),x',()),())),()) k)
noncomputable def gco:GD U:=⟨[1],[],fun a its=>match a,its with | [.ref 0 0,.sl 9 l],[(0,.own 54 [.ref 1 0,.int .i64 tn,.int .i64 hf,.str bt,.acc 2,.acc 3,.bl pd dd]),(1,.ob 0 5 x),(2,.ac 9 rs),(3,.ac 9 wt)]=>some (gcos tn hf bt rs wt pd dd x l) | _,_=>none⟩
set_option maxHeartbeats 4000000 in
theorem gco_ok (args:List (SV U)) (its:Items U) (S:PT U) (h:gco.C args its=some S):GenOK Try.prog U eT Gl 17 args its (2 * its.length) S:=by
 unfold gco at h
 simp only at h
 split at h
 . rename_i l tn hf bt pd dd x rs wt
   cases h
   intro k hk
   obtain ⟨ho,hk⟩:=cj_ob hk
   exact gs_ok Nsy_ok (inlHN_ok Nsy_ok Hopen_ok anco 3) Try.func17 (n:=1) rfl (ss:=[[.slot 0 (.err),.tree [] [.own (some 200) 54 [.to 1,.v (.int .i64),.v (.int .i64),.v (.str),.v (.acc 9),.v (.acc 9),.v (.bool)],.ob (some 201) 0]]]) (R:=(([],((compS (⟨tn,hf,bt,rs,wt,decide pd,x⟩:Lg) l).1,((((compS (⟨tn,hf,bt,rs,wt,decide pd,x⟩:Lg) l).2).turn,((compS (⟨tn,hf,bt,rs,wt,decide pd,x⟩:Lg) l).2).half,((compS (⟨tn,hf,bt,rs,wt,decide pd,x⟩:Lg) l).2).bytes,((compS (⟨tn,hf,bt,rs,wt,decide pd,x⟩:Lg) l).2).recs,((compS (⟨tn,hf,bt,rs,wt,decide pd,x⟩:Lg) l).2).wait,((compS (⟨tn,hf,bt,rs,wt,decide pd,x⟩:Lg) l).2).dead,()),((compS (⟨tn,hf,bt,rs,wt,decide pd,x⟩:Lg) l).2).d,()),())),())) (obs:=[]) rfl (fun _=>Vco_ok (pco tn hf bt rs wt pd dd x l ho.1 ho.2.1)) k (hk (compS (⟨tn,hf,bt,rs,wt,decide pd,x⟩:Lg) l).1 (compS (⟨tn,hf,bt,rs,wt,decide pd,x⟩:Lg) l).2.turn (compS (⟨tn,hf,bt,rs,wt,decide pd,x⟩:Lg) l).2.half (compS (⟨tn,hf,bt,rs,wt,decide pd,x⟩:Lg) l).2.bytes (compS (⟨tn,hf,bt,rs,wt,decide pd,x⟩:Lg) l).2.recs (compS (⟨tn,hf,bt,rs,wt,decide pd,x⟩:Lg) l).2.wait (compS (⟨tn,hf,bt,rs,wt,decide pd,x⟩:Lg) l).2.dead (compS (⟨tn,hf,bt,rs,wt,decide pd,x⟩:Lg) l).2.d rfl)
 . cases h
noncomputable def glogs (n:Int):PT U:=fun k=>cj [6<=n,n<=8192] (∀ (x':Dk),x'=(fmtS (Dk.new n)).2->outS Nsame [] 0 2 [[.tree [(0,1),(1,0)] [.own none 54 [.to 1,.v (.int .i64),.v (.int .i64),.v (.str),.v (.acc 9),.v (.acc 9),.v (.bool)],.ob none 0]]] (([],((((1:Int),(0:Int),([]:Str),([]:List Str),([]:List Str),false,()),x',()),())),()) k)
noncomputable def glog:GD U:=⟨[],[],fun a its=>match a,its with | [.int .i64 n],[]=>some (glogs n) | _,_=>none⟩
set_option maxHeartbeats 4000000 in
theorem glog_ok (args:List (SV U)) (its:Items U) (S:PT U) (h:glog.C args its=some S):GenOK Try.prog U eT Gl 8 args its (2 * its.length) S:=by
 unfold glog at h
 simp only at h
 split at h
 . rename_i n
   cases h
   intro k hk
   obtain ⟨ho,hk⟩:=cj_ob hk
   exact gs_ok Nsame_ok (inlHN_ok Nsame_ok Hopen_ok anlog 3) Try.func8 (n:=2) rfl (ss:=[[.tree [(0,1),(1,0)] [.own none 54 [.to 1,.v (.int .i64),.v (.int .i64),.v (.str),.v (.acc 9),.v (.acc 9),.v (.bool)],.ob none 0]]]) (R:=(([],((((1:Int),(0:Int),([]:Str),([]:List Str),([]:List Str),false,()),(fmtS (Dk.new n)).2,()),())),())) (obs:=[]) rfl (fun _=>Vlog_ok (plog n ho.1 ho.2.1)) k (hk _ rfl)
 . cases h
def hideF {α:Type} (l:List Nat) (f:Nat->Option α):Nat->Option α:=fun k=>bif l.elem k then none else f k
theorem hideF_inv {α:Type} {l:List Nat} {f:Nat->Option α} {k:Nat} {x:α} (h:hideF l f k=some x):f k=some x:=by
 unfold hideF at h
 cases hb:l.elem k with
 | true=>rw [hb,cond_true] at h; cases h
 | false=>rw [hb,cond_false] at h; exact h
theorem hideF_some {α:Type} {l:List Nat} {f:Nat->Option α} {k:Nat} (h:(hideF l f k).isSome=true):(f k).isSome=true:=by
 obtain ⟨y,hy⟩:=Option.isSome_iff_exists.1 h
 rw [hideF_inv hy]; rfl
def hideE (E:Env) (l:List Nat):Env:=⟨E.P,E.N,E.T,E.ty,E.zob,E.con,E.lend,E.obc,E.inl,E.G,E.wrc,E.rws,hideF l E.fnc,E.roc⟩
theorem hideE_ok {E:Env} (h:EnvOK E) (l:List Nat):EnvOK (hideE E l) :=
 ⟨h.mixed,h.zob,h.call,h.inl,h.con,h.lend,h.obc,h.wrc,fun k hk=>h.callf k (hideF_some hk),fun k o args its r ho hr hob=>h.fnc k o args its r (hideF_inv ho) hr hob,h.callr,h.roc⟩
noncomputable def NL:Env:=hideE Nap [11,14,17,8]
theorem NL_ok:EnvOK NL:=hideE_ok Nap_ok [11,14,17,8]
noncomputable def HL:Nat->Option (GD U):=addF 8 glog (addF 17 gco (addF 14 gsy (addF 11 gap (Hopen))))
theorem HL_ok:∀ K o args its S,HL K=some o->o.C args its=some S->GenOK Try.prog U eT Gl K args its (2 * its.length) S:=addH_ok glog_ok (addH_ok gco_ok (addH_ok gsy_ok (addH_ok gap_ok (Hopen_ok))))
end Go.Proofs.Ytckpdliipjekgaa
end
section
namespace Go.Proofs.Ytckpdliipjekgaa
open Go Go.Wk Go.Wl Go.Rx Go.Wa Go.Wa
theorem is9 {w:Str}:Err.is (inE w (erN 9)) 9:=by
 rw [inE_no (by decide)]; show some (9:Int)=some 9; rfl
theorem act_any (x:Dk):((x.act 0).1=0 ∨ (x.act 0).1=9)/\(x.act 0).2.lasts=x.lasts/\(x.act 0).2.fresh=x.fresh:=by
 unfold Dk.act
 rw [if_neg (by decide),if_neg (by decide),if_neg (by decide)]
 split
 . exact ⟨.inr rfl,rfl,rfl⟩
 . split
   . exact ⟨.inr rfl,rfl,rfl⟩
   . split
     . exact ⟨.inl rfl,rfl,rfl⟩
     . exact ⟨.inl rfl,rfl,rfl⟩
theorem write_any {x:Dk} {a:Int} {b:Str} (h0:0<=a) (h1:a<x.lasts.length) (hb:b.length=256) :
  ((x.write a b).1=0/\(x.write a b).2.lasts=x.lasts/\(x.write a b).2.fresh=aput x.fresh a b) ∨ ((x.write a b).1=9/\(x.write a b).2.lasts=x.lasts/\(x.write a b).2.fresh=x.fresh):=by
 obtain ⟨g1,g2,g3⟩:=act_any x
 have hw:(if b.length≠256 then 2 else x.wrong a)=0:=by
  rw [if_neg (by omega),Dk.wrong,if_neg (by omega)]
 unfold Dk.write
 simp only [hw]
 rcases g1 with g1 | g1
 . rw [if_pos g1]; exact .inl ⟨rfl,g2,congrArg (aput · a b) g3⟩
 . rw [if_neg (by rw [g1]; decide)]; exact .inr ⟨g1,g2,g3⟩
theorem flush_any {x:Dk} (ok:x.Ok) :
  (x.flush.1=0/\x.flush.2.fresh=[]/\∀ i:Int,0<=i->i<x.lasts.length->ix x.flush.2.lasts i=nowD x i) ∨ (x.flush.1=9/\x.flush.2.lasts=x.lasts/\x.flush.2.fresh=x.fresh):=by
 obtain ⟨g1,g2,g3⟩:=act_any x
 rcases g1 with g1 | g1
 . obtain ⟨k1,k2,k3,k4,_⟩:=flush_eq ok g1
   exact .inl ⟨k1,k4,k3⟩
 . refine .inr ?_
   unfold Dk.flush
   simp only
   rw [if_neg (by rw [g1]; decide)]
   exact ⟨g1,g2,g3⟩
def Dirt (x y:Dk) (F:Int->Option Str):Prop:=y.lasts=x.lasts/\∀ i,aget y.fresh i=aget x.fresh i ∨ ∃ s,F i=some s/\aget y.fresh i=some s
def inL (l:List Str) (a i:Int):Option Str:=if a<=i/\i<a+l.length then some (ix l (i-a)) else none
theorem inL_cons {b:Str} {r:List Str} {a i:Int}:inL (b::r) a i=if a=i then some b else inL r (a+1) i:=by
 unfold inL
 rw [List.length_cons]
 by_cases e:a=i
 . subst e
   rw [if_pos (by omega),if_pos rfl,Int.sub_self]; rfl
 . rw [if_neg e]
   by_cases e2:a+1<=i/\i<a+1+r.length
   . rw [if_pos e2,if_pos (by omega)]
     have e3:i-a=(i-(a+1))+1:=by omega
     rw [e3]
     have hn:(i-(a+1)).toNat<r.length:=by omega
     rw [ix_get (l:=r) (by omega),ix_get (l:=b::r) (by rw [List.length_cons]; omega)]
     have e4:(i-(a+1)+1).toNat=(i-(a+1)).toNat+1:=by omega
     simp only [e4,List.getElem_cons_succ]
   . rw [if_neg e2,if_neg (by omega)]
theorem store_any:∀ (l:List Str) {x:Dk} {a:Int},x.Ok->0<=a->a+l.length<=x.lasts.length->(∀ s∈l,s.length=256) ->
  ((storeS x a l).1=.nil/\(storeS x a l).2.fresh=[]/\∀ i:Int,0<=i->i<x.lasts.length->ix (storeS x a l).2.lasts i=(inL l a i).getD (nowD x i)) ∨
  ((storeS x a l).1≠.nil/\Err.is (storeS x a l).1 9/\Dirt x (storeS x a l).2 (inL l a))
 | [],x,a,ok,h0,h1,_=>by
  unfold storeS
  have e:∀ i,inL [] a i=none:=fun i=>by unfold inL; rw [if_neg (by rw [List.length_nil]; omega)]
  rcases flush_any ok with ⟨g1,g2,g3⟩ | ⟨g1,g2,g3⟩
  . rw [g1]; exact .inl ⟨inE_0 (w:=sFl),g2,fun i i0 i1=>by rw [e]; exact g3 i i0 i1⟩
  . rw [g1]; exact .inr ⟨by rw [inE_no (by decide)]; simp,is9,g2,fun i=>.inl (by show aget x.flush.2.fresh i=_; rw [g3])⟩
 | b::r,x,a,ok,h0,h1,hl=>by
  rw [List.length_cons] at h1
  have hb:=hl b (List.mem_cons_self ..)
  have ok2:=write_Ok ok a b
  unfold storeS
  rcases write_any (x:=x) (a:=a) (b:=b) h0 (by omega) hb with ⟨g1,g2,g3⟩ | ⟨g1,g2,g3⟩
  . rw [if_pos g1]
    have hn:∀ i,nowD (x.write a b).2 i=if a=i then b else nowD x i:=fun i=>by
     unfold nowD
     rw [g2,g3,aget_put]
     by_cases e:a=i
     . rw [if_pos e.symm,if_pos e]; rfl
     . rw [if_neg fun h=>e h.symm,if_neg e]
    rcases store_any r (x:=(x.write a b).2) (a:=a+1) ok2 (by omega) (by rw [g2]; omega) (fun s hs=>hl s (List.mem_cons_of_mem _ hs)) with ⟨k1,k2,k3⟩ | ⟨k1,k2,k3,k4⟩
    . refine .inl ⟨k1,k2,fun i i0 i1=>?_⟩
      rw [k3 i i0 (by rw [g2]; exact i1),inL_cons,hn]
      by_cases e:a=i
      . have e2:inL r (a+1) i=none:=by unfold inL; rw [if_neg (by omega)]
        rw [if_pos e,if_pos e,e2]; rfl
      . rw [if_neg e,if_neg e]
    . refine .inr ⟨k1,k2,k3.trans g2,fun i=>?_⟩
      rw [inL_cons]
      rcases k4 i with h | ⟨s,h1,h2⟩
      . rw [g3,aget_put] at h
        by_cases e:a=i
        . rw [if_pos e.symm] at h
          exact .inr ⟨b,by rw [if_pos e],h⟩
        . rw [if_neg fun h=>e h.symm] at h
          exact .inl h
      . by_cases e:a=i
        . exfalso
          unfold inL at h1
          rw [if_neg (by omega)] at h1; cases h1
        . exact .inr ⟨s,by rw [if_neg e]; exact h1,h2⟩
  . rw [if_neg (by rw [g1]; decide),g1]
    exact .inr ⟨by rw [inE_no (by decide)]; simp,is9,g2,fun i=>.inl (by rw [g3])⟩
theorem torn_at {x:Dk} (ok:x.Ok) {t c:Int} {s:Str} (h:aget x.fresh t=some s) (h1:t<x.lasts.length):ix (x.torn t c) t=s.take (max 0 (min c 256)).toNat++(ix x.lasts t).drop (max 0 (min c 256)).toNat:=by
 have h0:=(aget_flen ok h).2.1
 unfold Dk.torn
 rw [h]
 show ix (x.lasts.set t.toNat _) t=_
 rw [ix_set h0 h0 h1,if_pos rfl]
theorem crash_mix {x:Dk} (ok:x.Ok) (t c:Int) (k:List Int) {i:Int} (h0:0<=i) (h1:i<x.lasts.length) :
  ix (x.crash t c k).lasts i=ix x.lasts i ∨ ∃ s,aget x.fresh i=some s/\∃ n:Nat,ix (x.crash t c k).lasts i=s.take n++(ix x.lasts i).drop n:=by
 cases hs:aget x.fresh i with
 | none=>exact .inl (crash_clean ok t c k h0 h1 hs)
 | some s =>
  have hs256:=(aget_flen ok hs).1
  have hf:∀ j s,aget x.fresh j=some s->0<=j:=fun j s h=>(aget_flen ok h).2.1
  have e:ix (x.crash t c k).lasts i=if i∈k then (aget x.fresh i).getD (ix (x.torn t c) i) else ix (x.torn t c) i:=keep_ix hf k (x.torn t c) h0 (by rw [(torn_len ok t c).1]; exact h1)
  rw [e]
  by_cases hk:i∈k
  . rw [if_pos hk,hs]
    refine .inr ⟨s,rfl,256,?_⟩
    have hl:(ix x.lasts i).length=256:=ok.len _ (ix_memW h0 h1)
    rw [List.take_of_length_le (by omega),List.drop_of_length_le (by omega),List.append_nil]; rfl
  . rw [if_neg hk]
    by_cases ht:t=i
    . subst ht
      exact .inr ⟨s,rfl,_,torn_at ok hs h1⟩
    . left
      unfold Dk.torn
      cases hq:aget x.fresh t with
      | none=>rfl
      | some s2 =>
       have:=aget_flen ok hq
       show ix (x.lasts.set t.toNat _) i=_
       rw [ix_set this.2.1 h0 h1,if_neg ht]
structure RunB (g:Lg):Prop where
 ok:g.d.Ok
 len:6<=g.d.lasts.length
 h0:0<=g.half
 h1:g.half<=1
 t0:1<=g.turn
 sr:ShL g.recs
 by_:g.bytes=framesS g.recs
 room:(g.bytes.length:Int)<=sizeG g
structure LaidB (g:Lg):Prop where
 l:Laid g
 was:∃ t h n:Int,0<=t/\t<g.turn/\ix g.d.lasts ((g.turn+1).tmod 2)=headS t h n
theorem Run.b {g:Lg} (r:Run g):RunB g:=⟨r.pow.ok,r.len,r.h0,r.h1,r.t0,r.sr,r.by_,by have:=r.room; omega⟩
theorem RunB.run {g:Lg} {z:Dk} (r:RunB g) (p:Pow z) (hl:z.lasts.length=g.d.lasts.length):Run ⟨g.turn,g.half,g.bytes,g.recs,[],false,z⟩ :=
 ⟨p,by rw [hl]; exact r.len,r.h0,r.h1,r.t0,rfl,ShL.nil,r.sr,r.by_,by
  have h:=r.room
  have e:sizeG ⟨g.turn,g.half,g.bytes,g.recs,[],false,z⟩=sizeG g:=size_same hl
  rw [e]; show (g.bytes.length:Int)+((0:Nat):Int)<=_; omega⟩
theorem RunB.half {g:Lg} (r:RunB g) {hh:Int} (h0:0<=hh) (h1:hh<=1):halfS g.d=((g.d.lasts.length:Int)-2) / 2/\0<=halfS g.d/\(hh * halfS g.d=0/\hh=0 ∨ hh * halfS g.d=halfS g.d/\hh=1):=by
 obtain ⟨f0,f1,f2⟩:=half_at r.ok
 have hl:=r.len
 refine ⟨f2 (by omega),f0,?_⟩
 have hh':hh=0 ∨ hh=1:=by omega
 rcases hh' with e | e
 . left; exact ⟨by rw [e,Int.zero_mul],e⟩
 . right; exact ⟨by rw [e,Int.one_mul],e⟩
theorem opens_b {g:Lg} {z:Dk} (r:RunB g) (p:Pow z) (hf:z.fresh=[]) (hl:z.lasts.length=g.d.lasts.length) (t2:g.turn<=1099511627776)
  (h1:ix z.lasts (g.turn.tmod 2)=headS g.turn g.half (g.bytes.length:Int)) (h2:(hdT (ix z.lasts ((g.turn+1).tmod 2)) ((g.turn+1).tmod 2)).1<g.turn)
  (h3:∀ j:Nat,256 * j<g.bytes.length->(ix z.lasts (2+g.half * halfS g.d+j)).take (g.bytes.length-256 * j)=(g.bytes.drop (256 * j)).take 256):opnS z=(.nil,g.turn,g.half,g.bytes,g.recs):=by
 have rr:=r.run p hl
 have e:halfS z=halfS g.d:=by unfold halfS; rw [hl]
 exact open_new rr ⟨hf,h1,h2,fun j hj=>by show (ix z.lasts (2+g.half * halfS z+j)).take _=_; rw [e]; exact h3 j hj⟩ t2
theorem again_b {g:Lg} (r:RunB g) (l:Laid g) (t2:g.turn<=1099511627776) (t c:Int) (k:List Int):opnS (g.d.crash t c k)=(.nil,g.turn,g.half,g.bytes,g.recs):=by
 have hcl:=fun (i:Int) (i0:0<=i) (i1:i<g.d.lasts.length)=>crash_clean r.ok t c k i0 i1 (by rw [l.fresh]; rfl)
 have t0:=r.t0
 have h6:=r.len
 have hr:=r.room
 have hs:sizeG g=halfS g.d * 256:=rfl
 obtain ⟨m1,m2,m3,m4⟩:=mod_flip (t:=g.turn) (by omega)
 obtain ⟨f1,f0,fm⟩:=r.half r.h0 r.h1
 refine opens_b r ⟨crash_Ok r.ok t c k,rfl,rfl⟩ rfl (crash_len r.ok t c k) t2 ?_ ?_ fun j hj=>?_
 . rw [hcl _ (by omega) (by omega)]; exact l.hd
 . rw [hcl _ (by omega) (by omega)]; exact l.other
 . rw [hcl _ (by omega) (by omega)]; exact l.data j hj
theorem head_f4 (t h n:Int):(headS t h n).drop 248=leB t 8:=by
 unfold headS
 exact drop_app (by simp only [List.length_append,leB_len,List.length_replicate])
theorem leB_inj {a b:Int} (h:leB a 8=leB b 8) (a0:0<=a) (a1:a<18446744073709551616) (b0:0<=b) (b1:b<18446744073709551616):a=b:=by
 have e1:=leN_leB 8 a a0 a1
 have e2:=leN_leB 8 b b0 b1
 rw [<- e1,<- e2,h]
theorem torn_head {T h n t h' n':Int} {k:Nat} {a:Int} (T0:1<=T) (T1:T<=1099511627776) (t0:0<=t) (t1:t<T) :
  (hdT ((headS T h n).take k++(headS t h' n').drop k) a).1<=t ∨ (headS T h n).take k++(headS t h' n').drop k=headS T h n:=by
 have l1:=head_len T h n
 have l2:=head_len t h' n'
 generalize eb:(headS T h n).take k++(headS t h' n').drop k=b
 unfold hdT
 split
 . left; exact t0
 . rename_i hc
   simp only [not_or] at hc
   obtain ⟨c1,c2,c3,c4,c5⟩:=hc
   have c5:=Classical.not_not.1 c5
   show getS (b.take 8)<=t ∨ _
   generalize getS (b.take 8)=X at c1 c2 c3 c5 ⊢
   have d1:b.take 8=leB X 8:=by rw [c5]; exact head_f1 _ _ _
   have d2:b.drop 248=leB X 8:=by rw [c5]; exact head_f4 _ _ _
   by_cases hk:k<=248
   . left
     have e:b.drop 248=leB t 8:=by
      rw [<- eb,List.drop_append,List.drop_of_length_le (by rw [List.length_take]; omega),List.nil_append,List.length_take,List.drop_drop,show k+(248-min k (headS T h n).length)=248 by omega]
      exact head_f4 _ _ _
     rw [e] at d2
     have:=leB_inj d2 t0 (by omega) (by omega) (by omega)
     omega
   . right
     have e:b.take 8=leB T 8:=by
      rw [<- eb,List.take_append_of_le_length (by rw [List.length_take]; omega),List.take_take,show min 8 k=8 by omega]
      exact head_f1 _ _ _
     rw [e] at d1
     have hX:=leB_inj d1 (by omega) (by omega) (by omega) (by omega)
     rw [<- hX] at d2
     have e2:b.take 248=(headS T h n).take 248:=by
      rw [<- eb,List.take_append_of_le_length (by rw [List.length_take]; omega),List.take_take,show min 248 k=248 by omega]
     rw [<- List.take_append_drop 248 b,e2,d2,<- head_f4 T h n,List.take_append_drop]
theorem head_whole {g:Lg} {hh th:Int} {by_:Str} {rc:List Str} (r:RunB g) (l:LaidB g) (t2:g.turn+1<=1099511627776) (h0:0<=hh) (h1:hh<=1) (hs:ShL rc) (hb:by_=framesS rc) (h4:(by_.length:Int)<=sizeG g)
  (hk:∀ j:Nat,256 * j<by_.length->(ix g.d.lasts (2+hh * halfS g.d+j)).take (by_.length-256 * j)=(by_.drop (256 * j)).take 256) :
  (∃ y,headW g hh th by_ rc=(.nil,⟨g.turn+1,hh,by_,rc,[],g.dead,y⟩)/\RunB ⟨g.turn+1,hh,by_,rc,[],g.dead,y⟩/\LaidB ⟨g.turn+1,hh,by_,rc,[],g.dead,y⟩/\y.lasts.length=g.d.lasts.length) ∨
  ∃ e y,headW g hh th by_ rc=(e,{ g with dead:=true,d:=y })/\e≠.nil/\∀ t c k,opnS (y.crash t c k)=(.nil,g.turn,g.half,g.bytes,g.recs) ∨ opnS (y.crash t c k)=(.nil,g.turn+1,hh,by_,rc):=by
 have t0:=r.t0
 have h6:=r.len
 have hr:=r.room
 have hsz:sizeG g=halfS g.d * 256:=rfl
 obtain ⟨m1,m2,m3,m4⟩:=mod_flip (t:=g.turn) (by omega)
 obtain ⟨f1,f0,fm⟩:=r.half r.h0 r.h1
 obtain ⟨_,_,fn⟩:=r.half h0 h1
 have e1:=secs_head (g.turn+1) hh (by_.length:Int)
 have nw:∀ i,nowD g.d i=ix g.d.lasts i:=fun i=>by unfold nowD; rw [l.l.fresh]; rfl
 have inl:∀ i:Int,inL (secs (headS (g.turn+1) hh (by_.length:Int))) ((g.turn+1).tmod 2) i=if i=(g.turn+1).tmod 2 then some (headS (g.turn+1) hh (by_.length:Int)) else none:=fun i=>by
  rw [e1,inL_cons]
  by_cases e:(g.turn+1).tmod 2=i
  . rw [if_pos e,if_pos e.symm]
  . rw [if_neg e,if_neg fun h=>e h.symm]
    unfold inL; rw [if_neg (by rw [List.length_nil]; omega)]
 have okS:=store_Ok (secs (headS (g.turn+1) hh (by_.length:Int))) ((g.turn+1).tmod 2) r.ok
 have lnS:=store_len (secs (headS (g.turn+1) hh (by_.length:Int))) ((g.turn+1).tmod 2) r.ok
 have hsn:=hdT_lt (t:=g.turn) (h:=g.half) (n:=(g.bytes.length:Int)) (a:=g.turn.tmod 2) t0 (by omega)
 rcases store_any (secs (headS (g.turn+1) hh (by_.length:Int))) (x:=g.d) (a:=(g.turn+1).tmod 2) r.ok (by omega) (by rw [e1,List.length_singleton]; omega) (secs_256 _) with ⟨k1,k2,k3⟩ | ⟨k1,k2,k3,k4⟩
 . left
   unfold headW
   rw [if_neg (by rw [k1]; simp)]
   generalize (storeS g.d ((g.turn+1).tmod 2) (secs (headS (g.turn+1) hh (by_.length:Int)))).2=y at okS lnS k2 k3
   have hY:halfS y=halfS g.d:=by unfold halfS; rw [lnS]
   refine ⟨y,rfl,⟨okS,by show 6<=y.lasts.length; omega,h0,h1,by show 1<=g.turn+1; omega,hs,hb,by show (by_.length:Int)<=halfS y * 256; rw [hY]; exact h4⟩,⟨⟨k2,?_,?_,fun j hj=>?_⟩,g.turn,g.half,(g.bytes.length:Int),by omega,by show g.turn<g.turn+1; omega,?_⟩,lnS⟩
   . show ix y.lasts ((g.turn+1).tmod 2)=headS (g.turn+1) hh (by_.length:Int)
     rw [k3 _ (by omega) (by omega),inl,if_pos rfl]; rfl
   . show (hdT (ix y.lasts ((g.turn+1+1).tmod 2)) ((g.turn+1+1).tmod 2)).1<g.turn+1
     rw [m4,k3 _ (by omega) (by omega),inl,if_neg (by omega)]
     show (hdT (nowD g.d (g.turn.tmod 2)) (g.turn.tmod 2)).1<g.turn+1
     rw [nw,l.l.hd]; omega
   . show (ix y.lasts (2+hh * halfS y+j)).take (by_.length-256 * j)=(by_.drop (256 * j)).take 256
     have hj:256 * j<by_.length:=hj
     rw [hY,k3 _ (by omega) (by omega),inl,if_neg (by omega)]
     show (nowD g.d _).take _=_
     rw [nw]; exact hk j hj
   . show ix y.lasts ((g.turn+1+1).tmod 2)=headS g.turn g.half (g.bytes.length:Int)
     rw [m4,k3 _ (by omega) (by omega),inl,if_neg (by omega)]
     show nowD g.d (g.turn.tmod 2)=_
     rw [nw,l.l.hd]
 . right
   unfold headW
   rw [if_pos k1]
   generalize (storeS g.d ((g.turn+1).tmod 2) (secs (headS (g.turn+1) hh (by_.length:Int)))).1=e at k1 k2
   generalize (storeS g.d ((g.turn+1).tmod 2) (secs (headS (g.turn+1) hh (by_.length:Int)))).2=y at okS lnS k3 k4
   refine ⟨e,y,by unfold toldS; rw [decide_eq_true k2,Bool.or_true],k1,fun t c k=>?_⟩
   have cl:∀ i:Int,0<=i->i<g.d.lasts.length->i≠(g.turn+1).tmod 2->ix (y.crash t c k).lasts i=ix g.d.lasts i:=fun i i0 i1 hi=>by
    rw [<- k3]
    refine crash_clean okS t c k i0 (by omega) ?_
    rcases k4 i with h | ⟨s,hs,_⟩
    . rw [h,l.l.fresh]; rfl
    . rw [inl,if_neg hi] at hs; cases hs
   have pz:Pow (y.crash t c k):=⟨crash_Ok okS t c k,rfl,rfl⟩
   have lz:(y.crash t c k).lasts.length=g.d.lasts.length:=(crash_len okS t c k).trans lnS
   have old:(hdT (ix (y.crash t c k).lasts ((g.turn+1).tmod 2)) ((g.turn+1).tmod 2)).1<g.turn->opnS (y.crash t c k)=(.nil,g.turn,g.half,g.bytes,g.recs):=fun ho =>
    opens_b r pz rfl lz (by omega) (by rw [cl _ (by omega) (by omega) (by omega)]; exact l.l.hd) ho fun j hj=>by rw [cl _ (by omega) (by omega) (by omega)]; exact l.l.data j hj
   have new:ix (y.crash t c k).lasts ((g.turn+1).tmod 2)=headS (g.turn+1) hh (by_.length:Int)->opnS (y.crash t c k)=(.nil,g.turn+1,hh,by_,rc):=fun ho=>by
    have rn:RunB ⟨g.turn+1,hh,by_,rc,[],false,g.d⟩:=⟨r.ok,h6,h0,h1,by show 1<=g.turn+1; omega,hs,hb,h4⟩
    refine opens_b rn pz rfl lz t2 ho ?_ fun j hj=>?_
    . show (hdT (ix (y.crash t c k).lasts ((g.turn+1+1).tmod 2)) ((g.turn+1+1).tmod 2)).1<g.turn+1
      rw [m4,cl _ (by omega) (by omega) (by omega),l.l.hd]; omega
    . have hj:256 * j<by_.length:=hj
      show (ix (y.crash t c k).lasts (2+hh * halfS g.d+j)).take (by_.length-256 * j)=_
      rw [cl _ (by omega) (by omega) (by omega)]; exact hk j hj
   rcases crash_mix okS t c k (i:=(g.turn+1).tmod 2) (by omega) (by omega) with h | ⟨s,hs1,n,hn⟩
   . left; refine old ?_
     rw [h,k3]; exact l.l.other
   . have es:s=headS (g.turn+1) hh (by_.length:Int):=by
       rcases k4 ((g.turn+1).tmod 2) with h | ⟨s2,h2,h3⟩
       . rw [h,l.l.fresh] at hs1; cases hs1
       . rw [inl,if_pos rfl] at h2
         rw [hs1] at h3
         cases h2; cases h3; rfl
     obtain ⟨t',h',n',q0,q1,q2⟩:=l.was
     rw [es,k3,q2] at hn
     rcases torn_head (T:=g.turn+1) (h:=hh) (n:=(by_.length:Int)) (t:=t') (h':=h') (n':=n') (k:=n) (a:=(g.turn+1).tmod 2) (by omega) t2 q0 (by omega) with h | h
     . left; refine old ?_
       rw [hn]; omega
     . right; refine new ?_
       rw [hn,h]
theorem write_whole {g:Lg} {hh th:Int} {by_:Str} {rc:List Str} (r:RunB g) (l:LaidB g) (t2:g.turn+1<=1099511627776) (h0:0<=hh) (h1:hh<=1) (h2:0<=th) (h3:th<=(by_.length:Int)) (hs:ShL rc) (hb:by_=framesS rc) (h4:(by_.length:Int)<=sizeG g)
  (hk:∀ j:Nat,256 * j<by_.length->(j:Int)<th / 256 ∨ th=(by_.length:Int)->(ix g.d.lasts (2+hh * halfS g.d+j)).take (by_.length-256 * j)=(by_.drop (256 * j)).take 256)
  (hsafe:∀ (j i:Nat),256 * j<g.bytes.length->256 * i<by_.length->th / 256<=(i:Int)->g.half * halfS g.d+(j:Int)=hh * halfS g.d+(i:Int)->(padS (by_.drop (256 * i))).take (g.bytes.length-256 * j)=(g.bytes.drop (256 * j)).take 256) :
  (∃ y,writeS g hh th by_ rc=(.nil,⟨g.turn+1,hh,by_,rc,[],g.dead,y⟩)/\RunB ⟨g.turn+1,hh,by_,rc,[],g.dead,y⟩/\LaidB ⟨g.turn+1,hh,by_,rc,[],g.dead,y⟩/\y.lasts.length=g.d.lasts.length) ∨
  ∃ e y,writeS g hh th by_ rc=(e,{ g with dead:=true,d:=y })/\e≠.nil/\∀ t c k,opnS (y.crash t c k)=(.nil,g.turn,g.half,g.bytes,g.recs) ∨ opnS (y.crash t c k)=(.nil,g.turn+1,hh,by_,rc):=by
 have t0:=r.t0
 have h6:=r.len
 have hr:=r.room
 have hsz:sizeG g=halfS g.d * 256:=rfl
 obtain ⟨m1,m2,m3,m4⟩:=mod_flip (t:=g.turn) (by omega)
 obtain ⟨f1,f0,fm⟩:=r.half r.h0 r.h1
 obtain ⟨_,_,fn⟩:=r.half h0 h1
 have nw:∀ i,nowD g.d i=ix g.d.lasts i:=fun i=>by unfold nowD; rw [l.l.fresh]; rfl
 have h256:∀ i:Int,0<=i->i<g.d.lasts.length->(ix g.d.lasts i).length=256:=fun i i0 i1=>r.ok.len _ (ix_memW i0 i1)
 by_cases ht:th=(by_.length:Int)
 . unfold writeS
   rw [if_pos ht]
   have okF:=flush_Ok r.ok
   have lnF:=flush_len r.ok
   rcases flush_any r.ok with ⟨k1,k2,k3⟩ | ⟨k1,k2,k3⟩
   . rw [if_neg (by rw [k1,inE_0 (w:=sFl)]; simp)]
     generalize g.d.flush.2=y at okF lnF k2 k3
     have hY:halfS y=halfS g.d:=by unfold halfS; rw [lnF]
     have ey:∀ i:Int,0<=i->i<g.d.lasts.length->ix y.lasts i=ix g.d.lasts i:=fun i i0 i1=>by rw [k3 i i0 i1,nw]
     have r':RunB { g with d:=y }:=⟨okF,by show 6<=y.lasts.length; omega,r.h0,r.h1,t0,r.sr,r.by_,by show (g.bytes.length:Int)<=halfS y * 256; rw [hY]; exact hr⟩
     have l':LaidB { g with d:=y }:=⟨⟨k2,by show ix y.lasts (g.turn.tmod 2)=_; rw [ey _ (by omega) (by omega)]; exact l.l.hd,by show (hdT (ix y.lasts ((g.turn+1).tmod 2)) ((g.turn+1).tmod 2)).1<g.turn; rw [ey _ (by omega) (by omega)]; exact l.l.other,fun j hj=>by
      have hj:256 * j<g.bytes.length:=hj
      show (ix y.lasts (2+g.half * halfS y+j)).take _=_
      rw [hY,ey _ (by omega) (by omega)]; exact l.l.data j hj⟩,by
      obtain ⟨t,h,n,q0,q1,q2⟩:=l.was
      exact ⟨t,h,n,q0,q1,by show ix y.lasts ((g.turn+1).tmod 2)=_; rw [ey _ (by omega) (by omega)]; exact q2⟩⟩
     have hw:=head_whole (g:={ g with d:=y }) (hh:=hh) (th:=th) (by_:=by_) (rc:=rc) r' l' t2 h0 h1 hs hb (by show (by_.length:Int)<=halfS y * 256; rw [hY]; exact h4) fun j hj=>by
      show (ix y.lasts (2+hh * halfS y+j)).take _=_
      rw [hY,ey _ (by omega) (by omega)]; exact hk j hj (.inr ht)
     rcases hw with ⟨z,q1,q2,q3,q4⟩ | ⟨e,z,q1,q2,q3⟩
     . exact .inl ⟨z,q1,q2,q3,q4.trans lnF⟩
     . exact .inr ⟨e,z,q1,q2,q3⟩
   . rw [if_pos (by rw [k1,inE_no (by decide)]; simp)]
     right
     refine ⟨_,g.d.flush.2,by unfold toldS; rw [decide_eq_true (by rw [k1]; exact is9),Bool.or_true],by rw [k1,inE_no (by decide)]; simp,fun t c k=>.inl ?_⟩
     have r':RunB { g with d:=g.d.flush.2 }:=⟨okF,by show 6<=g.d.flush.2.lasts.length; omega,r.h0,r.h1,t0,r.sr,r.by_,by rw [show sizeG { g with d:=g.d.flush.2 }=sizeG g from size_same lnF]; exact hr⟩
     have e1:halfS g.d.flush.2=halfS g.d:=by unfold halfS; rw [k2]
     exact again_b (g:={ g with d:=g.d.flush.2 }) r' ⟨k3.trans l.l.fresh,by show ix g.d.flush.2.lasts _=_; rw [k2]; exact l.l.hd,by show (hdT (ix g.d.flush.2.lasts _) _).1<_; rw [k2]; exact l.l.other,fun j hj=>by show (ix g.d.flush.2.lasts (2+g.half * halfS g.d.flush.2+j)).take _=_; rw [e1,k2]; exact l.l.data j hj⟩ (by show g.turn<=_; omega) t c k
 . have e0:th.tdiv 256=th / 256:=Int.tdiv_eq_ediv_of_nonneg h2
   have hln:=secs_len (by_.drop (th.tdiv 256 * 256).toNat)
   rw [List.length_drop] at hln
   have inl:∀ i:Int,0<=i->inL (secs (by_.drop (th.tdiv 256 * 256).toNat)) (2+hh * halfS g.d+th.tdiv 256) i=if 2+hh * halfS g.d+th / 256<=i/\i<2+hh * halfS g.d+((by_.length:Int)+255) / 256 then some (padS (by_.drop (256 * (i-2-hh * halfS g.d)).toNat)) else none:=fun i i0=>by
    unfold inL
    by_cases e2:2+hh * halfS g.d+th / 256<=i/\i<2+hh * halfS g.d+((by_.length:Int)+255) / 256
    . rw [if_pos (by rw [hln]; omega),if_pos e2]
      have hj:(i-(2+hh * halfS g.d+th.tdiv 256)).toNat<(secs (by_.drop (th.tdiv 256 * 256).toNat)).length:=by rw [hln]; omega
      rw [ix_get hj,secs_ix _ _ hj,List.drop_drop]
      congr 3
      omega
    . rw [if_neg (by rw [hln]; omega),if_neg e2]
   have okS:=store_Ok (secs (by_.drop (th.tdiv 256 * 256).toNat)) (2+hh * halfS g.d+th.tdiv 256) r.ok
   have lnS:=store_len (secs (by_.drop (th.tdiv 256 * 256).toNat)) (2+hh * halfS g.d+th.tdiv 256) r.ok
   unfold writeS
   rw [if_neg ht]
   -- of the old bytes
   have oldat:∀ (j:Nat),256 * j<g.bytes.length->∀ s,inL (secs (by_.drop (th.tdiv 256 * 256).toNat)) (2+hh * halfS g.d+th.tdiv 256) (2+g.half * halfS g.d+(j:Int))=some s->s.length=256/\s.take (g.bytes.length-256 * j)=(g.bytes.drop (256 * j)).take 256:=fun j hj s he=>by
    rw [inl _ (by omega)] at he
    split at he
    . rename_i hc
      cases he
      refine ⟨pad_len _,?_⟩
      have e5:(256 * (2+g.half * halfS g.d+(j:Int)-2-hh * halfS g.d)).toNat=256 * (2+g.half * halfS g.d+(j:Int)-2-hh * halfS g.d).toNat:=by omega
      rw [e5]
      exact hsafe j _ hj (by omega) (by omega) (by omega)
    . cases he
   rcases store_any (secs (by_.drop (th.tdiv 256 * 256).toNat)) (x:=g.d) (a:=2+hh * halfS g.d+th.tdiv 256) r.ok (by omega) (by rw [hln]; omega) (secs_256 _) with ⟨k1,k2,k3⟩ | ⟨k1,k2,k3,k4⟩
   . rw [if_neg (by rw [k1]; simp)]
     generalize (storeS g.d (2+hh * halfS g.d+th.tdiv 256) (secs (by_.drop (th.tdiv 256 * 256).toNat))).2=y at okS lnS k2 k3
     have hY:halfS y=halfS g.d:=by unfold halfS; rw [lnS]
     have eh:∀ i:Int,0<=i->i<=1->ix y.lasts i=ix g.d.lasts i:=fun i i0 i1=>by
      rw [k3 i i0 (by omega), inl i i0, if_neg (by rintro ⟨a, _⟩; have : 0 <= th / 256 := by omega
                                                   omega)]
      exact nw i
     have r':RunB { g with d:=y }:=⟨okS,by show 6<=y.lasts.length; omega,r.h0,r.h1,t0,r.sr,r.by_,by show (g.bytes.length:Int)<=halfS y * 256; rw [hY]; exact hr⟩
     have l':LaidB { g with d:=y }:=⟨⟨k2,by show ix y.lasts (g.turn.tmod 2)=_; rw [eh _ (by omega) (by omega)]; exact l.l.hd,by show (hdT (ix y.lasts ((g.turn+1).tmod 2)) ((g.turn+1).tmod 2)).1<g.turn; rw [eh _ (by omega) (by omega)]; exact l.l.other,fun j hj=>by
      have hj:256 * j<g.bytes.length:=hj
      show (ix y.lasts (2+g.half * halfS y+j)).take (g.bytes.length-256 * j)=(g.bytes.drop (256 * j)).take 256
      rw [hY,k3 _ (by omega) (by omega)]
      cases he:inL (secs (by_.drop (th.tdiv 256 * 256).toNat)) (2+hh * halfS g.d+th.tdiv 256) (2+g.half * halfS g.d+(j:Int)) with
      | none=>show (nowD g.d _).take _=_; rw [nw]; exact l.l.data j hj
      | some s=>exact (oldat j hj s he).2⟩,by
      obtain ⟨t,h,n,q0,q1,q2⟩:=l.was
      exact ⟨t,h,n,q0,q1,by show ix y.lasts ((g.turn+1).tmod 2)=_; rw [eh _ (by omega) (by omega)]; exact q2⟩⟩
     have hw:=head_whole (g:={ g with d:=y }) (hh:=hh) (th:=th) (by_:=by_) (rc:=rc) r' l' t2 h0 h1 hs hb (by show (by_.length:Int)<=halfS y * 256; rw [hY]; exact h4) fun j hj=>by
      show (ix y.lasts (2+hh * halfS y+j)).take _=_
      rw [hY,k3 _ (by omega) (by omega),inl _ (by omega)]
      by_cases hc:(j:Int)<th / 256
      . rw [if_neg (by omega)]
        show (nowD g.d _).take _=_
        rw [nw]; exact hk j hj (.inl hc)
      . rw [if_pos (by omega)]
        show (padS _).take _=_
        have ej:(256 * (2+hh * halfS g.d+(j:Int)-2-hh * halfS g.d)).toNat=256 * j:=by omega
        rw [ej,pad_take (by rw [List.length_drop]; exact Nat.le_refl _),List.take_of_length_le (l:=List.take 256 _) (by rw [List.length_take,List.length_drop]; omega)]
     rcases hw with ⟨z,q1,q2,q3,q4⟩ | ⟨e,z,q1,q2,q3⟩
     . exact .inl ⟨z,q1,q2,q3,q4.trans lnS⟩
     . exact .inr ⟨e,z,q1,q2,q3⟩
   . rw [if_pos k1]
     right
     generalize (storeS g.d (2+hh * halfS g.d+th.tdiv 256) (secs (by_.drop (th.tdiv 256 * 256).toNat))).1=e at k1 k2
     generalize (storeS g.d (2+hh * halfS g.d+th.tdiv 256) (secs (by_.drop (th.tdiv 256 * 256).toNat))).2=y at okS lnS k3 k4
     refine ⟨e,y,by unfold toldS; rw [decide_eq_true k2,Bool.or_true],k1,fun t c k=>.inl ?_⟩
     have none_:∀ i:Int,0<=i->inL (secs (by_.drop (th.tdiv 256 * 256).toNat)) (2+hh * halfS g.d+th.tdiv 256) i=none->i<g.d.lasts.length->ix (y.crash t c k).lasts i=ix g.d.lasts i:=fun i i0 hi i1=>by
      rw [<- k3]
      refine crash_clean okS t c k i0 (by omega) ?_
      rcases k4 i with h | ⟨s,hs,_⟩
      . rw [h,l.l.fresh]; rfl
      . rw [hi] at hs; cases hs
     have eh:∀ i:Int,0<=i->i<=1->ix (y.crash t c k).lasts i=ix g.d.lasts i:=fun i i0 i1=>none_ i i0 (by
      rw [inl i i0, if_neg (by rintro ⟨a, _⟩; have : 0 <= th / 256 := by omega
                               omega)]) (by omega)
     refine opens_b r ⟨crash_Ok okS t c k,rfl,rfl⟩ rfl ((crash_len okS t c k).trans lnS) (by omega) (by rw [eh _ (by omega) (by omega)]; exact l.l.hd) (by rw [eh _ (by omega) (by omega)]; exact l.l.other) fun j hj=>?_
     rcases crash_mix okS t c k (i:=2+g.half * halfS g.d+(j:Int)) (by omega) (by omega) with h | ⟨s,hs1,n,hn⟩
     . rw [h,k3]; exact l.l.data j hj
     . rcases k4 (2+g.half * halfS g.d+(j:Int)) with h | ⟨s2,h2,h3⟩
       . rw [h,l.l.fresh] at hs1; cases hs1
       . rw [hs1] at h3
         cases h3
         obtain ⟨q1,q2⟩:=oldat j hj s h2
         have q3:=l.l.data j hj
         have q4:=h256 (2+g.half * halfS g.d+(j:Int)) (by omega) (by omega)
         rw [hn,k3]
         generalize g.bytes.length-256 * j=m at q2 q3 ⊢
         rw [<- q2] at q3 ⊢
         generalize ix g.d.lasts (2+g.half * halfS g.d+(j:Int))=o at q3 q4 ⊢
         rw [List.take_append,List.take_take,List.length_take,List.take_drop,q1]
         by_cases hm:m<=n
         . rw [show min m n=m by omega,show m-min n 256=m-min n 256 from rfl]
           by_cases hn2:n<=256
           . rw [show min n 256=n by omega,show n+(m-n)=n by omega,List.drop_of_length_le (by rw [List.length_take]; omega),List.append_nil]
           . rw [List.drop_of_length_le (by rw [List.length_take]; omega),List.append_nil]
         . rw [show min m n=n by omega]
           by_cases hn2:n<=256
           . rw [show min n 256=n by omega,show n+(m-n)=m by omega,q3,List.drop_take]
             have e6:(s.take n)=(s.take m).take n:=by rw [List.take_take,show min n m=n by omega]
             rw [e6,<- List.drop_take,List.take_append_drop]
           . rw [List.drop_of_length_le (l:=List.take _ o) (by rw [List.length_take]; omega),List.append_nil,List.take_of_length_le (by omega),List.take_of_length_le (by omega)]
structure Live (g:Lg) (n:Nat):Prop where
 run:Run g
 laid:LaidB g
 len:g.d.lasts.length=n
theorem put_was {g g':Lg} {hh th:Int} {by_:Str} (r:Run g) (l:Laid g) (h0:0<=hh) (h1:hh<=1) (h2:0<=th) (q:Put g.d g'.d (wroteF g.d g.turn hh th by_)) (ht:g'.turn=g.turn+1):∃ t h n:Int,0<=t/\t<g'.turn/\ix g'.d.lasts ((g'.turn+1).tmod 2)=headS t h n:=by
 have t0:=r.t0
 have hl:=r.len
 obtain ⟨m1,m2,m3,m4⟩:=mod_flip (t:=g.turn) (by omega)
 obtain ⟨f1,f0,fm⟩:=r.b.half h0 h1
 refine ⟨g.turn,g.half,(g.bytes.length:Int),by omega,by omega,?_⟩
 rw [ht,m4,q.at_ _ m2 (by omega)]
 unfold wroteF
 rw [if_neg (by omega), if_neg (by rintro ⟨_, h, _⟩; have : 0 <= th / 256 := by omega
                                   omega)]
 show nowD g.d (g.turn.tmod 2)=_
 unfold nowD
 rw [l.fresh]
 exact l.hd
theorem zero_headS:headS 0 0 0=List.replicate 256 0:=by
 have e8:leB 0 8=List.replicate 8 0:=by decide
 have e1:leB 0 1=List.replicate 1 0:=by decide
 have e4:leB 0 4=List.replicate 4 0:=by decide
 unfold headS
 rw [e8,e1,e4]
 simp only [List.replicate_append_replicate]
theorem live_new {n:Int} (h6:6<=n) (h8:n<=8192):Live ⟨1,0,[],[],[],false,(fmtS (Dk.new n)).2⟩ n.toNat:=by
 have hN:(Dk.new n).lasts.length=n.toNat:=List.length_replicate
 have okn:(Dk.new n).Ok:=new_Ok (by omega) h8
 obtain ⟨y,e1,e2,r,l,z⟩:=fmt_new5 (x:=Dk.new n) ⟨okn,rfl,rfl⟩ (by omega)
 rw [e1]
 exact ⟨r,⟨l,0,0,0,Int.le_refl 0,by show (0:Int)<1; decide,by show ix y.lasts 0=_; rw [z,zero_headS]⟩,e2.trans hN⟩
theorem Live.app {g:Lg} {n:Nat} (h:Live g n) (l:List Str) :
  (ShL l/\((framesS l).length:Int)<=roomS g/\appS g l=(.nil,⟨g.turn,g.half,g.bytes,g.recs,g.wait++l,g.dead,g.d⟩)/\Live ⟨g.turn,g.half,g.bytes,g.recs,g.wait++l,g.dead,g.d⟩ n) ∨
  ((¬ ShL l/\appS g l=(.no 4,g)) ∨ (ShL l/\roomS g<((framesS l).length:Int)/\appS g l=(.no 6,g))):=by
 by_cases hs:ShL l
 . by_cases hr:((framesS l).length:Int)<=roomS g
   . obtain ⟨a,b⟩:=app_run h.run hs hr
     exact .inl ⟨hs,hr,a,b,⟨⟨h.laid.l.fresh,h.laid.l.hd,h.laid.l.other,h.laid.l.data⟩,h.laid.was⟩,h.len⟩
   . exact .inr (.inr ⟨hs,by omega,app_full h.run hs (by omega)⟩)
 . exact .inr (.inl ⟨hs,app_no h.run hs⟩)
theorem Live.sync {g:Lg} {n:Nat} (h:Live g n) (t2:g.turn<=1099511627776) :
  (g.wait=[]/\syncS g=(.nil,g)) ∨ (g.wait≠[]/\∃ y,syncS g=(.nil,⟨g.turn+1,g.half,g.bytes++framesS g.wait,g.recs++g.wait,[],false,y⟩)/\Live ⟨g.turn+1,g.half,g.bytes++framesS g.wait,g.recs++g.wait,[],false,y⟩ n):=by
 by_cases hw:g.wait=[]
 . exact .inl ⟨hw,sync_none h.run hw⟩
 . obtain ⟨y,e,q,r⟩:=sync_run h.run hw
   have hl:=sync_laid h.run h.laid.l t2 q
   exact .inr ⟨hw,y,e,r,⟨hl,put_was (g':=⟨g.turn+1,g.half,g.bytes++framesS g.wait,g.recs++g.wait,[],false,y⟩) h.run h.laid.l h.run.h0 h.run.h1 (by omega) q rfl⟩,q.len.trans h.len⟩
theorem Live.comp {g:Lg} {n:Nat} (h:Live g n) (t2:g.turn<=1099511627776) (l:List Str) :
  (ShL l/\((framesS l).length:Int)<=sizeG g/\∃ y,compS g l=(.nil,⟨g.turn+1,1-g.half,framesS l,l,[],false,y⟩)/\Live ⟨g.turn+1,1-g.half,framesS l,l,[],false,y⟩ n) ∨ (¬ (ShL l/\((framesS l).length:Int)<=sizeG g)/\(compS g l).1≠.nil/\(compS g l).2=g):=by
 have h0:=h.run.h0
 have h1:=h.run.h1
 by_cases hs:ShL l/\((framesS l).length:Int)<=sizeG g
 . obtain ⟨y,e,q,r⟩:=comp_run h.run hs.1 hs.2
   have hl:=comp_laid h.run h.laid.l t2 hs.2 q
   exact .inl ⟨hs.1,hs.2,y,e,r,⟨hl,put_was (g':=⟨g.turn+1,1-g.half,framesS l,l,[],false,y⟩) h.run h.laid.l (by omega) (by omega) (Int.le_refl 0) q rfl⟩,q.len.trans h.len⟩
 . exact .inr ⟨hs,comp_no h.run hs⟩
theorem Live.lgB {g:Lg} {n:Nat} (h:Live g n) (t:g.turn<=1099511627776):LgB g:=h.run.lgB (by omega)
theorem Live.size {g:Lg} {n:Nat} (h:Live g n):sizeG g=((n:Int)-2) / 2 * 256:=by
 have hl:=h.run.len
 obtain ⟨_,_,f2⟩:=half_at h.run.pow.ok
 unfold sizeG
 rw [f2 (by omega),h.len]
theorem Live.room {g:Lg} {n:Nat} (h:Live g n):halfS g.d * 256-(g.bytes.length:Int)-sizeS g.wait=((n:Int)-2) / 2 * 256-(g.bytes.length:Int)-((framesS g.wait).length:Int):=by
 have h1:=h.size
 have h2:=h.run.roomS
 rw [h1] at h2
 exact h2
theorem Live.recs {g:Lg} {n:Nat} (h:Live g n):g.recs.length<=1000000:=by
 obtain ⟨s0,s1⟩:=h.run.size
 have hr:=h.run.room
 have f1:=frames_len g.recs
 rw [<- h.run.by_] at f1
 omega
theorem nr_nil:Err.nr .nil=0:=rfl
theorem nr_no {k:Int} (h0:1<=k) (h1:k<=16):Err.nr (.no k)=k:=by
 show (match Err.num (.no k) with | some n=>if 1<=n/\n<=16 then n else -1 | none=>-1)=k
 show (if 1<=k/\k<=16 then k else -1)=k
 rw [if_pos ⟨h0,h1⟩]
theorem nr_zero {e:Err} (h:e≠.nil):e.nr≠0:=by
 cases hn:e.num with
 | none =>
  cases e with
  | nil=>exact absurd rfl h
  | _=>unfold Err.nr; simp only [hn]; decide
 | some n =>
  have e1:e.nr=if 1<=n/\n<=16 then n else -1:=by
   cases e with
   | nil=>exact absurd rfl h
   | _=>unfold Err.nr; simp only [hn]
  rw [e1]
  split <;> omega
theorem frames_cl (r:Str) (t:List Str):(framesS (r::t)).length=7+r.length+(framesS t).length:=by
 have e:framesS (r::t)=frameS r++framesS t:=by unfold framesS; rw [List.map_cons,List.flatten_cons]
 rw [e,List.length_append,frame_len]
theorem frames_nl:(framesS []).length=0:=rfl
theorem shL_of {l:List Str} (h:l.all (fun s=>Nat.ble s.length 30000)=true):ShL l:=fun s hs=>by
 have:=List.all_eq_true.1 h s hs
 exact Nat.le_of_ble_eq_true this
theorem smL_of {l:List Str} (h:ShL l) (hl:l.length<=1000000):SmL l:=⟨hl,fun s hs=>by have:=h s hs; omega⟩
theorem sameL_self (a:List Str):sameL a a=true:=decide_eq_true rfl
end Go.Proofs.Ytckpdliipjekgaa
end
section
namespace Go.Proofs.Ytckpdliipjekgaa
open Go Go.Wk Go.Wl Go.Rx Go.Wa 
def anal:Nat->Ann:=fun | 9=>⟨79,fun _=>none,fun _=>none⟩ | _=>⟨0,fun _=>none,fun _=>none⟩
def Val  (Q:Bool->Prop):Prop :=
(6:Int)<=(10:Int) /\
 (10:Int)<=(8192:Int) /\
  ∀ (x':Dk),
   x'=(fmtS (Dk.new (10:Int))).snd ->
    True ->
     LgB (Lg.mk (1:Int) (0:Int) [] [] [] (decide (false=true)) x') /\
      (halfS x' * (256:Int)-(↑([]:List UInt8).length:Int)-sizeS []≠(1024:Int)->Q false) /\
       (¬halfS x' * (256:Int)-(↑([]:List UInt8).length:Int)-sizeS []≠(1024:Int) ->
        LgB (Lg.mk (1:Int) (0:Int) [] [] [] (decide (decide (false=true)=true)) x') /\
         SmL [[(97:UInt8)]] /\
          ∀ (e':Err) (tn' hf':Int) (bt':List UInt8) (rs' wt':List (List UInt8)) (dd':Bool) (x'_1:Dk),
           (e',Lg.mk tn' hf' bt' rs' wt' dd' x'_1)=appS (Lg.mk (1:Int) (0:Int) [] [] [] (decide (decide (false=true)=true)) x') [[(97:UInt8)]] ->
            True ->
             (e'.nr≠(0:Int)->Q false) /\
              (¬e'.nr≠(0:Int) ->
               LgB (Lg.mk tn' hf' bt' rs' wt' (decide (dd'=true)) x'_1) /\
                (halfS x'_1 * (256:Int)-(↑bt'.length:Int)-sizeS wt'≠(1016:Int)->Q false) /\
                 (¬halfS x'_1 * (256:Int)-(↑bt'.length:Int)-sizeS wt'≠(1016:Int) ->
                  ((↑wt'.length:Int)≠(1:Int)->Q false) /\
                   (¬(↑wt'.length:Int)≠(1:Int) ->
                    rs'.length<=(1000000:Nat) /\
                     ((↑rs'.length:Int)≠(0:Int)->Q false) /\
                      (¬(↑rs'.length:Int)≠(0:Int) ->
                       LgB (Lg.mk tn' hf' bt' rs' wt' (decide (decide (decide (decide (dd'=true)=true)=true)=true)) x'_1) /\
                        ∀ (e':Err) (tn'_1 hf'_1:Int) (bt'_1:List UInt8) (rs'_1 wt'_1:List (List UInt8)) (dd'_1:Bool) (x':Dk),
                         (e',Lg.mk tn'_1 hf'_1 bt'_1 rs'_1 wt'_1 dd'_1 x') =
                           syncS (Lg.mk tn' hf' bt' rs' wt' (decide (decide (decide (decide (dd'=true)=true)=true)=true)) x'_1) ->
                          True ->
                           (e'.nr≠(0:Int)->Q false) /\
                            (¬e'.nr≠(0:Int) ->
                             rs'_1.length<=(1000000:Nat) /\
                              rs'_1.length<=(1000000:Nat) /\
                               (sameL rs'_1 [[(97:UInt8)]]=true/\tn'_1=(2:Int) ->
                                 LgB (Lg.mk tn'_1 hf'_1 bt'_1 rs'_1 wt'_1 (decide (decide (decide (dd'_1=true)=true)=true)) x') /\
                                  SmL [[(98:UInt8)],[(99:UInt8)]] /\
                                   ∀ (e':Err) (tn' hf':Int) (bt':List UInt8) (rs' wt':List (List UInt8)) (dd':Bool) (x'_2:Dk),
                                    (e',Lg.mk tn' hf' bt' rs' wt' dd' x'_2) =
                                      compS (Lg.mk tn'_1 hf'_1 bt'_1 rs'_1 wt'_1 (decide (decide (decide (dd'_1=true)=true)=true)) x')
                                       [[(98:UInt8)],[(99:UInt8)]] ->
                                     True ->
                                      (e'.nr=(0:Int) ->
                                        rs'.length<=(1000000:Nat) /\
                                         rs'.length<=(1000000:Nat) /\
                                          (sameL rs' [[(98:UInt8)],[(99:UInt8)]]=true ->
                                            LgB (Lg.mk tn' hf' bt' rs' wt' (decide (decide (dd'=true)=true)) x'_2) /\
                                             (halfS x'_2 * (256:Int)-(↑bt'.length:Int)-sizeS wt'=(1008:Int)->Q (decide (tn'=(3:Int)))) /\
                                              (¬halfS x'_2 * (256:Int)-(↑bt'.length:Int)-sizeS wt'=(1008:Int)->Q false)) /\
                                           (¬sameL rs' [[(98:UInt8)],[(99:UInt8)]]=true->Q false)) /\
                                       (¬e'.nr=(0:Int)->Q false)) /\
                                (¬(sameL rs'_1 [[(97:UInt8)]]=true/\tn'_1=(2:Int))->Q false)))))))
theorem Val_ok  {Q:Bool->Prop} (h:Val  Q):vcFun (E:=NL) (inlHN NL HL anal 2) (anal 9) Try.f9 [] [] [] 0 (resP NL [.bool] Q):=Eq.mp (show Val  Q=vcFun (E:=NL) (inlHN NL HL anal 2) (anal 9) Try.f9 [] [] [] 0 (resP NL [.bool] Q) by kernel_rfl) h
set_option maxHeartbeats 1000000 in
theorem pal   : Val  (fun y0=>y0=true):=by
 unfold Val
 simp only [Bool.decide_eq_true]
 refine ⟨by decide,by decide,?_⟩
 rintro x rfl _
 have L0:=live_new (n:=10) (by decide) (by decide)
 generalize (fmtS (Dk.new 10)).2=x at L0 ⊢
 have R0:=L0.room
 have s1:ShL [[97]]:=shL_of rfl
 have s2:ShL [[98],[99]]:=shL_of rfl
 refine ⟨L0.lgB (by show (1:Int)<=_; decide),fun h=>absurd R0 h,fun _=>⟨L0.lgB (by show (1:Int)<=_; decide),smL_of s1 (by decide),?_⟩⟩
 rintro e tn hf bt rs wt dd y he _
 rcases L0.app [[97]] with ⟨_,_,h1,L1⟩ | ⟨h,_⟩ | ⟨_,h,_⟩
 rotate_left
 . exact absurd s1 h
 . have R:roomS ⟨1,0,[],[],[],false,x⟩=1024:=R0
   rw [R,frames_cl,frames_nl] at h
   exact absurd h (by decide)
 rw [h1] at he
 simp only [Prod.mk.injEq,Lg.mk.injEq] at he
 obtain ⟨rfl,rfl,rfl,rfl,rfl,rfl,rfl,rfl⟩:=he
 have R1:=L1.room
 simp only [List.nil_append,frames_cl,frames_nl] at R1 L1 ⊢
 refine ⟨fun h=>absurd nr_nil h,fun _=>⟨L1.lgB (by show (1:Int)<=_; decide),fun h=>absurd R1 h,fun _=>⟨fun h=>absurd rfl h,fun _=>⟨by decide,fun h=>absurd rfl h,fun _=>⟨L1.lgB (by show (1:Int)<=_; decide),?_⟩⟩⟩⟩⟩
 rintro e tn hf bt rs wt dd y he _
 rcases L1.sync (by show (1:Int)<=_; decide) with ⟨h,_⟩ | ⟨_,z,h2,L2⟩
 . cases h
 rw [h2] at he
 simp only [Prod.mk.injEq,Lg.mk.injEq] at he
 obtain ⟨rfl,rfl,rfl,rfl,rfl,rfl,rfl,rfl⟩:=he
 simp only [List.nil_append] at L2 ⊢
 refine ⟨fun h=>absurd nr_nil h,fun _=>⟨by decide,by decide,fun _=>⟨L2.lgB (by show (1:Int)+1<=_; decide),smL_of s2 (by decide),?_⟩,fun h=>absurd ⟨sameL_self _,rfl⟩ h⟩⟩
 rintro e tn hf bt rs wt dd y he _
 rcases L2.comp (by show (1:Int)+1<=_; decide) [[98],[99]] with ⟨_,_,z3,h3,L3⟩ | ⟨h,_⟩
 . rw [h3] at he
   simp only [Prod.mk.injEq,Lg.mk.injEq] at he
   obtain ⟨rfl,rfl,rfl,rfl,rfl,rfl,rfl,rfl⟩:=he
   have R3:=L3.room
   simp only [frames_cl,frames_nl] at R3
   refine ⟨fun _=>⟨by decide,by decide,fun _=>⟨L3.lgB (by show (1:Int)+1+1<=_; decide),fun _=>rfl,fun h=>?_⟩,fun h=>absurd (sameL_self _) h⟩,fun h=>absurd nr_nil h⟩
   refine absurd ?_ h
   rw [show ((framesS [[98],[99]]).length:Int)=16 by rw [frames_cl,frames_cl,frames_nl]; rfl]
   exact R3
 . refine absurd ⟨s2,?_⟩ h
   rw [L2.size,frames_cl,frames_cl,frames_nl]
   decide
def cal (a:List (SV U)):Option (Q1 U):=match a with | []=>some ⟨[],[],blB true⟩ | _=>none
theorem cal_ok (args:List (SV U)) (q:Q1 U) (h:cal args=some q) (ho:allP q.ob):LendOK NL 9 args ⟨q.ob,q.hy,q.v,[]⟩:=by
 unfold cal at h
 split at h
 . cases h
   exact lend1 NL_ok (inlHN_ok NL_ok HL_ok anal 2) Try.func9 (k:=.bool) (x:=true) trivial (Val_ok (pal  )) 0
 . cases h
noncomputable def Nal:Env:=NL.addL 9 cal
theorem Nal_ok:EnvOK Nal:=NL_ok.addL Try.call9 cal_ok
end Go.Proofs.Ytckpdliipjekgaa
end
section
namespace Go.Proofs.Ytckpdliipjekgaa
open Go Go.Wk Go.Wl Go.Rx Go.Wa Go.Wa
theorem Live.appE {g g':Lg} {n:Nat} {l:List Str} {e:Err} (h:Live g n) (he:(e,g')=appS g l):g'.turn=g.turn/\Live g' n/\g'.recs=g.recs:=by
 rcases h.app l with ⟨_,_,e1,L⟩ | ⟨_,e1⟩ | ⟨_,_,e1⟩
 . rw [e1] at he; cases he; exact ⟨rfl,L,rfl⟩
 . rw [e1] at he; cases he; exact ⟨rfl,h,rfl⟩
 . rw [e1] at he; cases he; exact ⟨rfl,h,rfl⟩
theorem Live.syncE {g g':Lg} {n:Nat} {e:Err} (h:Live g n) (t:g.turn<=1099511627776) (he:(e,g')=syncS g):e=.nil/\Live g' n/\g'.wait=[]/\g'.recs=g.recs++g.wait/\(g.wait=[]/\g'=g ∨ g.wait≠[]/\g'.turn=g.turn+1):=by
 rcases h.sync t with ⟨hw,e1⟩ | ⟨hw,y,e1,L⟩
 . rw [e1] at he; cases he; exact ⟨rfl,h,hw,by rw [hw,List.append_nil],.inl ⟨hw,rfl⟩⟩
 . rw [e1] at he; cases he; exact ⟨rfl,L,rfl,rfl,.inr ⟨hw,rfl⟩⟩
theorem Live.compE {g g':Lg} {n:Nat} {l:List Str} {e:Err} (h:Live g n) (t:g.turn<=1099511627776) (he:(e,g')=compS g l):Live g' n/\(e.nr=0/\g'.turn=g.turn+1/\g'.wait=[]/\g'.recs=l/\g'.bytes=framesS l ∨ e.nr≠0/\g'=g):=by
 rcases h.comp t l with ⟨_,_,y,e1,L⟩ | ⟨_,e1,e2⟩
 . rw [e1] at he; cases he; exact ⟨L,.inl ⟨rfl,rfl,rfl,rfl,rfl⟩⟩
 . rw [<- he] at e1 e2
   have e2:g'=g:=e2
   rw [e2]
   exact ⟨h,.inr ⟨nr_zero e1,rfl⟩⟩
theorem moreU_ge:∀ (l:List Str) (n:Int),n<=moreU n l/\∀ s∈l,n+min (s.length:Int) 100000<=moreU n l
 | [],n=>⟨Int.le_refl n,fun _ h=>by cases h⟩
 | s::r,n=>by
  obtain ⟨h1,h2⟩:=moreU_ge r (n+min (s.length:Int) 100000)
  rw [moreU]
  refine ⟨by omega,fun t ht=>?_⟩
  rcases List.mem_cons.1 ht with e | ht
  . rw [e]; exact h1
  . have:=h2 t ht; omega
theorem few_mem:∀ (l:List Act) (n:Int),0<=n->fewU n l=true->∀ a∈l,a.S.length<=40000/\a.More.length<=50/\∀ s∈a.More,s.length<=40000
 | [],_,_,_,_,h=>by cases h
 | b::r,n,h0,h,a,ha=>by
  rw [fewU] at h
  split at h
  . cases h
  . rename_i hc
    have h1:actU n b<=40000:=Int.not_lt.1 fun h=>hc (.inl h)
    have h2:(b.More.length:Int)<=50:=Int.not_lt.1 fun h=>hc (.inr h)
    obtain ⟨m1,m2⟩:=moreU_ge (b.More.take 51) (n+min (b.S.length:Int) 100000+min (b.Kept.length:Int) 1000+min (b.More.length:Int) 1000)
    rw [List.take_of_length_le (by omega)] at m1 m2
    unfold actU at h1
    rw [List.take_of_length_le (by omega)] at h1
    rcases List.mem_cons.1 ha with e | ha
    . rw [e]
      refine ⟨by omega,by omega,fun s hs=>?_⟩
      have:=m2 s hs
      omega
    . refine few_mem r (actU n b) ?_ h a ha
      unfold actU
      rw [List.take_of_length_le (by omega)]
      omega
theorem few_at {l:List Act} (h:fewS l=true):l.length<=60/\∀ i:Int,0<=i->i<l.length->(ix l i).More.length<=1000000/\SmL ((ix l i).S::(ix l i).More):=by
 unfold fewS at h
 split at h
 . rename_i h1
   have h2:=of_decide_eq_true h
   rw [List.take_of_length_le (by omega)] at h1
   refine ⟨by omega,fun i i0 i1=>?_⟩
   obtain ⟨a1,a2,a3⟩:=few_mem l 0 (Int.le_refl 0) h1 _ (ix_memW i0 i1)
   refine ⟨by omega,by rw [List.length_cons]; omega,fun s hs=>?_⟩
   rcases List.mem_cons.1 hs with e | hs
   . rw [e]; omega
   . have:=a3 s hs; omega
 . cases h
theorem mod_rg {n b:Int} (h0:0<b) (h1:b<=100000):in64 (n.tmod b+b)/\0<=(n.tmod b+b).tmod b/\(n.tmod b+b).tmod b<b:=by
 have h2:n.tmod b<b:=Int.tmod_lt_of_pos n h0
 have h3:-b<n.tmod b:=Int.lt_tmod_of_pos n h0
 refine ⟨⟨by omega,by omega⟩,?_,Int.tmod_lt_of_pos _ h0⟩
 rw [Int.tmod_eq_emod_of_nonneg (by omega)]
 exact Int.emod_nonneg _ (by omega)
structure LiveB (g:Lg):Prop where
 b:RunB g
 l:LaidB g
 dead:g.dead=false
 sw:ShL g.wait
 room:(g.bytes.length:Int)+((framesS g.wait).length:Int)<=sizeG g
theorem Live.limit {g:Lg} {n:Nat} {m:Int} (h:Live g n) (hm:0<=m/\m<=1000):LiveB ⟨g.turn,g.half,g.bytes,g.recs,g.wait,g.dead,g.d.limit m⟩:=by
 have r:=h.run.b
 exact ⟨⟨limit_Ok r.ok (by simp only [InI]; omega),r.len,r.h0,r.h1,r.t0,r.sr,r.by_,r.room⟩,⟨⟨h.laid.l.fresh,h.laid.l.hd,h.laid.l.other,h.laid.l.data⟩,h.laid.was⟩,h.run.dead,h.run.sw,h.run.room⟩
theorem RunB.size {g:Lg} (r:RunB g):0<=sizeG g/\sizeG g<=1048320:=by
 obtain ⟨g0,g1,_⟩:=half_at r.ok
 unfold sizeG; omega
theorem LiveB.lgB {g:Lg} (h:LiveB g) (t1:g.turn<=1099511627776):LgB g:=by
 obtain ⟨s0,s1⟩:=h.b.size
 have hr:=h.room
 have t0:=h.b.t0
 have f1:=frames_len g.recs
 have f2:=frames_len g.wait
 rw [<- h.b.by_] at f1
 exact ⟨h.b.ok,h.b.h0,h.b.h1,by omega,by omega,by omega,by omega,Run.small h.sw (by omega),by rw [pack_ok h.sw]; show (framesS g.wait).length<=_; omega⟩
theorem LiveB.recs {g:Lg} (h:LiveB g):g.recs.length<=1000000:=by
 obtain ⟨s0,s1⟩:=h.b.size
 have hr:=h.b.room
 have f1:=frames_len g.recs
 rw [<- h.b.by_] at f1
 omega
theorem headW_Ok {g:Lg} {hh th:Int} {by_:Str} {rc:List Str} (ok:g.d.Ok):(headW g hh th by_ rc).2.d.Ok:=by
 unfold headW
 split
 . exact store_Ok _ _ ok
 . exact store_Ok _ _ ok
theorem writeS_Ok {g:Lg} {hh th:Int} {by_:Str} {rc:List Str} (ok:g.d.Ok):(writeS g hh th by_ rc).2.d.Ok:=by
 unfold writeS
 split
 . split
   . exact flush_Ok ok
   . exact headW_Ok (flush_Ok ok)
 . split
   . exact store_Ok _ _ ok
   . exact headW_Ok (store_Ok _ _ ok)
theorem dead_app {g g':Lg} {l:List Str} {e:Err} (hd:g.dead=true) (he:(e,g')=appS g l):e.nr≠0:=by
 unfold appS at he
 rw [if_pos hd] at he
 cases he
 rw [nr_no (by decide) (by decide)]; decide
theorem LiveB.appE {g g':Lg} {l:List Str} {e:Err} (h:LiveB g) (he:(e,g')=appS g l):(e=.nil/\LiveB g'/\g'.wait=g.wait++l/\g'.recs=g.recs/\g'.turn=g.turn) ∨ e.nr≠0:=by
 unfold appS at he
 rw [if_neg (by rw [h.dead]; decide)] at he
 by_cases hs:ShL l
 . rw [pack_ok hs,if_neg (by simp)] at he
   have hrm:roomS g=sizeG g-(g.bytes.length:Int)-((framesS g.wait).length:Int):=by
    unfold roomS
    rw [size_frames h.sw]
   by_cases hr:roomS g<((framesS l).length:Int)
   . rw [if_pos hr] at he
     cases he
     exact .inr (by rw [nr_no (by decide) (by decide)]; decide)
   . rw [if_neg hr] at he
     cases he
     refine .inl ⟨rfl,⟨⟨h.b.ok,h.b.len,h.b.h0,h.b.h1,h.b.t0,h.b.sr,h.b.by_,h.b.room⟩,⟨⟨h.l.l.fresh,h.l.l.hd,h.l.l.other,h.l.l.data⟩,h.l.was⟩,h.dead,h.sw.app hs,?_⟩,rfl,rfl,rfl⟩
     show (g.bytes.length:Int)+((framesS (g.wait++l)).length:Int)<=sizeG g
     rw [frames_app,List.length_append]
     omega
 . rw [pack_no hs,if_pos (by simp)] at he
   cases he
   exact .inr (by rw [nr_no (by decide) (by decide)]; decide)
theorem LiveB.syncE {g g':Lg} {e:Err} (h:LiveB g) (t2:g.turn+1<=1099511627776) (he:(e,g')=syncS g) :
  (e=.nil/\LiveB g'/\g'.wait=[]/\g'.recs=g.recs++g.wait/\g'.turn<=g.turn+1) ∨
  (e≠.nil/\g'.dead=true/\LgB g'/\g'.recs=g.recs/\∀ t c k,(opnS (g'.d.crash t c k)).1=.nil/\((opnS (g'.d.crash t c k)).2.2.2.2=g.recs ∨ (opnS (g'.d.crash t c k)).2.2.2.2=g.recs++g.wait)):=by
 have t0:=h.b.t0
 have hr:=h.room
 have h6:=h.b.len
 unfold syncS at he
 rw [if_neg (by rw [h.dead]; decide)] at he
 by_cases hw:g.wait.length=0
 . rw [if_pos hw] at he
   have hw:=List.eq_nil_of_length_eq_zero hw
   cases he
   exact .inl ⟨rfl,h,hw,by rw [hw,List.append_nil],by omega⟩
 . rw [if_neg hw,pack_ok h.sw,if_neg (by simp)] at he
   have he:(e,g')=writeS g g.half (g.bytes.length:Int) (g.bytes++framesS g.wait) (g.recs++g.wait):=he
   obtain ⟨f1,f0,fm⟩:=h.b.half h.b.h0 h.b.h1
   have hsz:sizeG g=halfS g.d * 256:=rfl
   have hB:=h.lgB (by omega)
   have okw:=writeS_Ok (g:=g) (hh:=g.half) (th:=(g.bytes.length:Int)) (by_:=g.bytes++framesS g.wait) (rc:=g.recs++g.wait) h.b.ok
   rcases write_whole (g:=g) (hh:=g.half) (th:=(g.bytes.length:Int)) (by_:=g.bytes++framesS g.wait) (rc:=g.recs++g.wait) h.b h.l t2 h.b.h0 h.b.h1 (by omega) (by rw [List.length_append]; omega) (h.b.sr.app h.sw) (by rw [frames_app,<- h.b.by_]) (by rw [List.length_append]; omega) (fun j hj hc=>by
    rw [List.length_append] at hj
    by_cases hlt:256 * j+256<=g.bytes.length
    . have hd:=h.l.l.data j (by omega)
      have h256:(ix g.d.lasts (2+g.half * halfS g.d+(j:Int))).length=256:=h.b.ok.len _ (ix_memW (by omega) (by omega))
      rw [List.take_of_length_le (by omega)] at hd
      rw [List.take_of_length_le (by rw [List.length_append]; omega),hd,List.drop_append_of_le_length (by omega),List.take_append_of_le_length (by rw [List.length_drop]; omega)]
    . have hz:(framesS g.wait).length=0:=by
        rcases hc with h | h
        . omega
        . rw [List.length_append] at h; omega
      have he:=List.eq_nil_of_length_eq_zero hz
      rw [he,List.append_nil]
      exact h.l.l.data j (by omega)) (fun j i hj hi hc hji=>by
    have e:i=j:=by omega
    subst e
    rw [pad_take (by rw [List.length_drop,List.length_append]; omega),List.take_take,show min (g.bytes.length-256 * i) 256=g.bytes.length-256 * i by omega,List.drop_append_of_le_length (by omega),List.take_append_of_le_length (by rw [List.length_drop]; omega),List.take_of_length_le (by rw [List.length_drop]; omega),List.take_of_length_le (by rw [List.length_drop]; omega)]) with ⟨y,q1,q2,q3,q4⟩ | ⟨e2,y,q1,q2,q3⟩
   . rw [q1] at he
     cases he
     refine .inl ⟨rfl,⟨q2,q3,h.dead,ShL.nil,?_⟩,rfl,rfl,Int.le_refl _⟩
     have:=q2.room
     show ((g.bytes++framesS g.wait).length:Int)+((0:Nat):Int)<=_
     have e:((g.bytes++framesS g.wait).length:Int)<=sizeG ⟨g.turn+1,g.half,g.bytes++framesS g.wait,g.recs++g.wait,[],g.dead,y⟩:=this
     omega
   . rw [q1] at he okw
     cases he
     refine .inr ⟨q2,rfl,⟨okw,hB.h0,hB.h1,hB.b,hB.t0,hB.t1,hB.n,hB.w,hB.p⟩,rfl,fun t c k=>?_⟩
     rcases q3 t c k with h | h
     . show (opnS (y.crash t c k)).1=_/\_
       rw [h]; exact ⟨rfl,.inl rfl⟩
     . show (opnS (y.crash t c k)).1=_/\_
       rw [h]; exact ⟨rfl,.inr rfl⟩
theorem LiveB.compE {g g':Lg} {l:List Str} {e:Err} (h:LiveB g) (t2:g.turn+1<=1099511627776) (he:(e,g')=compS g l) :
  g'.d.Ok/\∀ t c k,(opnS (g'.d.crash t c k)).1=.nil/\((opnS (g'.d.crash t c k)).2.2.2.2=l ∨ e.nr≠0/\(opnS (g'.d.crash t c k)).2.2.2.2=g.recs):=by
 have t0:=h.b.t0
 have hr:=h.room
 have h0:=h.b.h0
 have h1:=h.b.h1
 have ag:=again_b h.b h.l.l (by omega)
 unfold compS at he
 rw [if_neg (by rw [h.dead]; decide)] at he
 have n4:(Err.no 4).nr≠0:=by rw [nr_no (by decide) (by decide)]; decide
 have n6:(Err.no 6).nr≠0:=by rw [nr_no (by decide) (by decide)]; decide
 by_cases hs:ShL l
 . rw [pack_ok hs,if_neg (by simp)] at he
   by_cases hz:sizeG g<((framesS l).length:Int)
   . rw [if_pos hz] at he
     cases he
     exact ⟨h.b.ok,fun t c k=>by rw [ag]; exact ⟨rfl,.inr ⟨n6,rfl⟩⟩⟩
   . rw [if_neg hz] at he
     have he:(e,g')=writeS g (1-g.half) 0 (framesS l) l:=he
     obtain ⟨f1,f0,fm⟩:=h.b.half h0 h1
     obtain ⟨_,_,fn⟩:=h.b.half (hh:=1-g.half) (by omega) (by omega)
     have hsz:sizeG g=halfS g.d * 256:=rfl
     have okw:=writeS_Ok (g:=g) (hh:=1-g.half) (th:=0) (by_:=framesS l) (rc:=l) h.b.ok
     rcases write_whole (g:=g) (hh:=1-g.half) (th:=0) (by_:=framesS l) (rc:=l) h.b h.l t2 (by omega) (by omega) (by omega) (by omega) hs rfl (by omega) (fun j hj hc=>by omega) (fun j i hj hi hc hji=>by omega) with ⟨y,q1,q2,q3,q4⟩ | ⟨e2,y,q1,q2,q3⟩
     . rw [q1] at he okw
       cases he
       refine ⟨okw,fun t c k=>?_⟩
       have ag2:=again_b q2 q3.l t2 t c k
       show (opnS (y.crash t c k)).1=_/\_
       rw [ag2]; exact ⟨rfl,.inl rfl⟩
     . rw [q1] at he okw
       cases he
       refine ⟨okw,fun t c k=>?_⟩
       rcases q3 t c k with h | h
       . show (opnS (y.crash t c k)).1=_/\_
         rw [h]; exact ⟨rfl,.inr ⟨nr_zero q2,rfl⟩⟩
       . show (opnS (y.crash t c k)).1=_/\_
         rw [h]; exact ⟨rfl,.inl rfl⟩
 . rw [pack_no hs,if_pos (by simp)] at he
   cases he
   exact ⟨h.b.ok,fun t c k=>by rw [ag]; exact ⟨rfl,.inr ⟨n4,rfl⟩⟩⟩
theorem LiveB.again {g:Lg} (h:LiveB g) (t2:g.turn<=1099511627776) (t c:Int) (k:List Int):(opnS (g.d.crash t c k)).1=.nil/\(opnS (g.d.crash t c k)).2.2.2.2=g.recs:=by
 rw [again_b h.b h.l.l t2]; exact ⟨rfl,rfl⟩
end Go.Proofs.Ytckpdliipjekgaa
end
section
namespace Go.Proofs.Ytckpdliipjekgaa
open Go Go.Wk Go.Wl Go.Rx Go.Wa 
def anlW:Nat->Ann:=fun | 7=>⟨164,fun | 12=>some ⟨[1,2,3,4,5,6,15,16,72,73],[.slot 74 (.int .i64),.tree [] [.own (some 16) 54 [.to 1,.v (.int .i64),.v (.int .i64),.v .str,.v (.acc 9),.v (.acc 9),.v .bool],.ob (some 15) 0]]⟩ | 6=>some ⟨[0,1,2,3,4,5,6,15,16],[.slot 17 (.int .i64),.slot 18 (.int .i64)]⟩ | _=>none,fun _=>none⟩ | _=>⟨0,fun _=>none,fun _=>none⟩
def VlW (l:List Act) (rr:List Str) (cm:Bool) (lim:Int) (t:Int) (c:Int) (k:List Int) (Q:Bool->Prop):Prop :=
(6:Int)<=82/\(82:Int)<=8192/\∀ (x':Dk),x'=(fmtS (Dk.new (82:Int))).snd->True->(¬true=true->Q false)/\(¬¬true=true->∃ (I:Int->Int->Prop),∃ (m:Int->Int->Nat),I (0:Int) (0:Int)/\∀ (x x_1:Int),I x x_1->(x_1<(↑rr.length:Int)/\x_1<=50->(0:Int)<=x_1/\x_1<(↑rr.length:Int)/\in64 (x+bif false then max (↑(ix rr x_1).length:Int) (100000:Int) else min (↑(ix rr x_1).length:Int) (100000:Int))/\in64 (x_1+1)/\I (x+bif false then max (↑(ix rr x_1).length:Int) (100000:Int) else min (↑(ix rr x_1).length:Int) (100000:Int)) (x_1+1)/\m (x+bif false then max (↑(ix rr x_1).length:Int) (100000:Int) else min (↑(ix rr x_1).length:Int) (100000:Int)) (x_1+1)<m x x_1)/\(¬(x_1<(↑rr.length:Int)/\x_1<=50)->(((¬fewS l=true ∨ (50:Int)<(↑rr.length:Int)) ∨ (10000:Int)<x) ∨ (200:Int)<(↑k.length:Int)->Q true)/\(¬(((¬fewS l=true ∨ (50:Int)<(↑rr.length:Int)) ∨ (10000:Int)<x) ∨ (200:Int)<(↑k.length:Int))->∃ (I:Int->Int->Int->List UInt8->List (List UInt8)->List (List UInt8)->Bool->Dk->Prop),∃ (m:Int->Int->Int->List UInt8->List (List UInt8)->List (List UInt8)->Bool->Dk->Nat),I (0:Int) (1:Int) (0:Int) [] [] [] (decide (false=true)) x'/\∀ (x x_2 x_3:Int) (x_4:List UInt8) (x_5 x_6:List (List UInt8)) (x_7:Bool) (x_8:Dk),I x x_2 x_3 x_4 x_5 x_6 x_7 x_8->(x<(↑l.length:Int)->(0:Int)<=x/\x<(↑l.length:Int)/\(in64 (ix l x).Kind->in64 (ix l x).N->in64 (ix l x).Cut->((ix l x).Kind=0->((ix l x).Kind=0->(ix l x).More.length<=1000000/\LgB (Lg.mk x_2 x_3 x_4 x_5 x_6 (decide (x_7=true)) x_8)/\SmL ((ix l x).S::(ix l x).More)/\∀ (e':Err) (tn' hf':Int) (bt':List UInt8) (rs' wt':List (List UInt8)) (dd':Bool) (x':Dk),(e',Lg.mk tn' hf' bt' rs' wt' dd' x')=appS (Lg.mk x_2 x_3 x_4 x_5 x_6 (decide (x_7=true)) x_8) ((ix l x).S::(ix l x).More)->True->in64 (x+1)/\I (x+1) tn' hf' bt' rs' wt' (decide (dd'=true)) x'/\m (x+1) tn' hf' bt' rs' wt' (decide (dd'=true)) x'<m x x_2 x_3 x_4 x_5 x_6 x_7 x_8)/\(¬(ix l x).Kind=0->((ix l x).Kind=2->LgB (Lg.mk x_2 x_3 x_4 x_5 x_6 (decide (x_7=true)) x_8)/\∀ (e':Err) (tn' hf':Int) (bt':List UInt8) (rs' wt':List (List UInt8)) (dd':Bool) (x':Dk),(e',Lg.mk tn' hf' bt' rs' wt' dd' x')=syncS (Lg.mk x_2 x_3 x_4 x_5 x_6 (decide (x_7=true)) x_8)->True->in64 (x+1)/\I (x+1) tn' hf' bt' rs' wt' (decide (dd'=true)) x'/\m (x+1) tn' hf' bt' rs' wt' (decide (dd'=true)) x'<m x x_2 x_3 x_4 x_5 x_6 x_7 x_8)/\(¬(ix l x).Kind=2->((ix l x).Kind=3->(ix l x).More.length<=1000000/\LgB (Lg.mk x_2 x_3 x_4 x_5 x_6 (decide (x_7=true)) x_8)/\SmL ((ix l x).S::(ix l x).More)/\∀ (e':Err) (tn' hf':Int) (bt':List UInt8) (rs' wt':List (List UInt8)) (dd':Bool) (x':Dk),(e',Lg.mk tn' hf' bt' rs' wt' dd' x')=compS (Lg.mk x_2 x_3 x_4 x_5 x_6 (decide (x_7=true)) x_8) ((ix l x).S::(ix l x).More)->True->in64 (x+1)/\I (x+1) tn' hf' bt' rs' wt' (decide (dd'=true)) x'/\m (x+1) tn' hf' bt' rs' wt' (decide (dd'=true)) x'<m x x_2 x_3 x_4 x_5 x_6 x_7 x_8)/\(¬(ix l x).Kind=3->in64 (x+1)/\I (x+1) x_2 x_3 x_4 x_5 x_6 (decide (x_7=true)) x_8/\m (x+1) x_2 x_3 x_4 x_5 x_6 (decide (x_7=true)) x_8<m x x_2 x_3 x_4 x_5 x_6 x_7 x_8))))/\(¬(ix l x).Kind=0->((ix l x).Kind=1->(ix l x).More.length<=1000000/\LgB (Lg.mk x_2 x_3 x_4 x_5 x_6 (decide (x_7=true)) x_8)/\SmL ((ix l x).S::(ix l x).More)/\∀ (e':Err) (tn' hf':Int) (bt':List UInt8) (rs' wt':List (List UInt8)) (dd':Bool) (x':Dk),(e',Lg.mk tn' hf' bt' rs' wt' dd' x')=appS (Lg.mk x_2 x_3 x_4 x_5 x_6 (decide (x_7=true)) x_8) ((ix l x).S::(ix l x).More)->True->in64 (x+1)/\I (x+1) tn' hf' bt' rs' wt' (decide (dd'=true)) x'/\m (x+1) tn' hf' bt' rs' wt' (decide (dd'=true)) x'<m x x_2 x_3 x_4 x_5 x_6 x_7 x_8)/\(¬(ix l x).Kind=1->((ix l x).Kind=2->LgB (Lg.mk x_2 x_3 x_4 x_5 x_6 (decide (x_7=true)) x_8)/\∀ (e':Err) (tn' hf':Int) (bt':List UInt8) (rs' wt':List (List UInt8)) (dd':Bool) (x':Dk),(e',Lg.mk tn' hf' bt' rs' wt' dd' x')=syncS (Lg.mk x_2 x_3 x_4 x_5 x_6 (decide (x_7=true)) x_8)->True->in64 (x+1)/\I (x+1) tn' hf' bt' rs' wt' (decide (dd'=true)) x'/\m (x+1) tn' hf' bt' rs' wt' (decide (dd'=true)) x'<m x x_2 x_3 x_4 x_5 x_6 x_7 x_8)/\(¬(ix l x).Kind=2->((ix l x).Kind=3->(ix l x).More.length<=1000000/\LgB (Lg.mk x_2 x_3 x_4 x_5 x_6 (decide (x_7=true)) x_8)/\SmL ((ix l x).S::(ix l x).More)/\∀ (e':Err) (tn' hf':Int) (bt':List UInt8) (rs' wt':List (List UInt8)) (dd':Bool) (x':Dk),(e',Lg.mk tn' hf' bt' rs' wt' dd' x')=compS (Lg.mk x_2 x_3 x_4 x_5 x_6 (decide (x_7=true)) x_8) ((ix l x).S::(ix l x).More)->True->in64 (x+1)/\I (x+1) tn' hf' bt' rs' wt' (decide (dd'=true)) x'/\m (x+1) tn' hf' bt' rs' wt' (decide (dd'=true)) x'<m x x_2 x_3 x_4 x_5 x_6 x_7 x_8)/\(¬(ix l x).Kind=3->in64 (x+1)/\I (x+1) x_2 x_3 x_4 x_5 x_6 (decide (x_7=true)) x_8/\m (x+1) x_2 x_3 x_4 x_5 x_6 (decide (x_7=true)) x_8<m x x_2 x_3 x_4 x_5 x_6 x_7 x_8))))))/\(¬x<(↑l.length:Int)->x_5.length<=1000000/\(61:Int)≠0/\in64 (lim.tmod (61:Int)+61)/\(61:Int)≠0/\x_8.Ok/\(cm=true->LgB (Lg.mk x_2 x_3 x_4 x_5 x_6 (decide (decide (x_7=true)=true)) (x_8.limit ((lim.tmod (61:Int)+61).tmod (61:Int))))/\SmL rr/\∀ (e':Err) (tn' hf':Int) (bt':List UInt8) (rs' wt':List (List UInt8)) (dd':Bool) (x':Dk),(e',Lg.mk tn' hf' bt' rs' wt' dd' x')=compS (Lg.mk x_2 x_3 x_4 x_5 x_6 (decide (decide (x_7=true)=true)) (x_8.limit ((lim.tmod (61:Int)+61).tmod (61:Int)))) rr->True->x'.Ok/\(x'.crash t c k).Ok/\(((opnS (x'.crash t c k)).fst=Err.nil->False)->((opnS (x'.crash t c k)).fst.nr≠0 ∨ True->Q false)/\(¬((opnS (x'.crash t c k)).fst.nr≠0 ∨ True)->((0:Int)≠0->Q false)/\(¬(0:Int)≠0->(e'.nr=0->False)/\(¬e'.nr=0->False))))/\((opnS (x'.crash t c k)).fst=Err.nil->(Err.nil.nr≠0 ∨ False->Q false)/\(¬(Err.nil.nr≠0 ∨ False)->((↑([]:List UInt8).length:Int)≠0->Q false)/\(¬(↑([]:List UInt8).length:Int)≠0->(opnS (x'.crash t c k)).snd.snd.snd.snd.length<=1000000/\(e'.nr=0->(opnS (x'.crash t c k)).snd.snd.snd.snd.length<=1000000/\Q (decide (sameL (opnS (x'.crash t c k)).snd.snd.snd.snd rr=true)))/\(¬e'.nr=0->(opnS (x'.crash t c k)).snd.snd.snd.snd.length<=1000000/\(¬sameL (opnS (x'.crash t c k)).snd.snd.snd.snd x_5=true->(opnS (x'.crash t c k)).snd.snd.snd.snd.length<=1000000)/\Q (decide (sameL (opnS (x'.crash t c k)).snd.snd.snd.snd x_5=true ∨ sameL (opnS (x'.crash t c k)).snd.snd.snd.snd rr=true)))))))/\(¬cm=true->LgB (Lg.mk x_2 x_3 x_4 x_5 x_6 (decide (decide (x_7=true)=true)) (x_8.limit ((lim.tmod (61:Int)+61).tmod (61:Int))))/\∀ (e':Err) (tn' hf':Int) (bt':List UInt8) (rs' wt':List (List UInt8)) (dd':Bool) (x':Dk),(e',Lg.mk tn' hf' bt' rs' wt' dd' x')=syncS (Lg.mk x_2 x_3 x_4 x_5 x_6 (decide (decide (x_7=true)=true)) (x_8.limit ((lim.tmod (61:Int)+61).tmod (61:Int))))->True->rs'.length<=1000000/\LgB (Lg.mk tn' hf' bt' rs' wt' (decide (decide (dd'=true)=true)) x')/\SmL rr/\∀ (e':Err) (tn'_1 hf'_1:Int) (bt'_1:List UInt8) (rs'_1 wt'_1:List (List UInt8)) (dd'_1:Bool) (x'_1:Dk),(e',Lg.mk tn'_1 hf'_1 bt'_1 rs'_1 wt'_1 dd'_1 x'_1)=appS (Lg.mk tn' hf' bt' rs' wt' (decide (decide (dd'=true)=true)) x') rr->True->(e'.nr≠0->Q true)/\(¬e'.nr≠0->(([]:List UInt8).length+rs'.length) * (some (16:Nat)).getD (0:Nat)<=140737488355328/\(([]++rs').length+rr.length) * (some (16:Nat)).getD (0:Nat)<=140737488355328/\LgB (Lg.mk tn'_1 hf'_1 bt'_1 rs'_1 wt'_1 (decide (dd'_1=true)) x'_1)/\∀ (e':Err) (tn' hf':Int) (bt':List UInt8) (rs'_2 wt':List (List UInt8)) (dd':Bool) (x':Dk),(e',Lg.mk tn' hf' bt' rs'_2 wt' dd' x')=syncS (Lg.mk tn'_1 hf'_1 bt'_1 rs'_1 wt'_1 (decide (dd'_1=true)) x'_1)->True->x'.Ok/\(x'.crash t c k).Ok/\(((opnS (x'.crash t c k)).fst=Err.nil->False)->((opnS (x'.crash t c k)).fst.nr≠0 ∨ True->Q false)/\(¬((opnS (x'.crash t c k)).fst.nr≠0 ∨ True)->((0:Int)≠0->Q false)/\(¬(0:Int)≠0->(e'.nr=0->False)/\(¬e'.nr=0->False))))/\((opnS (x'.crash t c k)).fst=Err.nil->(Err.nil.nr≠0 ∨ False->Q false)/\(¬(Err.nil.nr≠0 ∨ False)->((↑([]:List UInt8).length:Int)≠0->Q false)/\(¬(↑([]:List UInt8).length:Int)≠0->(opnS (x'.crash t c k)).snd.snd.snd.snd.length<=1000000/\(e'.nr=0->(opnS (x'.crash t c k)).snd.snd.snd.snd.length<=1000000/\Q (decide (sameL (opnS (x'.crash t c k)).snd.snd.snd.snd ([]++rs'++rr)=true)))/\(¬e'.nr=0->(opnS (x'.crash t c k)).snd.snd.snd.snd.length<=1000000/\(¬sameL (opnS (x'.crash t c k)).snd.snd.snd.snd rs'=true->(opnS (x'.crash t c k)).snd.snd.snd.snd.length<=1000000)/\Q (decide (sameL (opnS (x'.crash t c k)).snd.snd.snd.snd rs'=true ∨ sameL (opnS (x'.crash t c k)).snd.snd.snd.snd ([]++rs'++rr)=true))))))))))))
theorem VlW_ok {l:List Act} {rr:List Str} {cm:Bool} {lim:Int} {t:Int} {c:Int} {k:List Int} {Q:Bool->Prop} (h:VlW l rr cm lim t c k Q):vcFun (E:=Nal) (inlHN Nal HL anlW 2) (anlW 7) Try.f7 [.sl (N:=U) 46 l,.sl (N:=U) 9 rr,blB cm,.int .i64 lim,.int .i64 t,.int .i64 c,.sl (N:=U) 3 k] [] [] 0 (resP Nal [.bool] Q):=Eq.mp (show VlW l rr cm lim t c k Q=vcFun (E:=Nal) (inlHN Nal HL anlW 2) (anlW 7) Try.f7 [.sl (N:=U) 46 l,.sl (N:=U) 9 rr,blB cm,.int .i64 lim,.int .i64 t,.int .i64 c,.sl (N:=U) 3 k] [] [] 0 (resP Nal [.bool] Q) by kernel_rfl) h
set_option maxHeartbeats 4000000 in
theorem plW (l:List Act) (rr:List Str) (cm:Bool) (lim:Int) (t:Int) (c:Int) (k:List Int)  : VlW l rr cm lim t c k (fun y0=>y0=true):=by
 unfold VlW
 simp only [Bool.decide_eq_true]
 refine ⟨by decide,by decide,?_⟩
 rintro x rfl _
 have L0:=live_new (n:=82) (by decide) (by decide)
 generalize (fmtS (Dk.new 82)).2=x at L0 ⊢
 refine ⟨fun h=>absurd trivial h,fun _=>?_⟩
 have b0:∀ a b:Int,(bif false then max a b else min a b)=min a b:=fun _ _=>rfl
 refine ⟨fun s i=>0<=i/\i<=51/\i<=rr.length/\0<=s/\s<=100000 * i/\∀ j:Int,0<=j->j<i->min ((ix rr j).length:Int) 100000<=s,fun _ i=>(51-i).toNat,⟨Int.le_refl 0,by decide,by omega,Int.le_refl 0,by decide,fun j _ _=>by omega⟩,?_⟩
 rintro s i ⟨i0,i1,i2,s0,s1,hs⟩
 refine ⟨fun hi=>?_,fun hi=>?_⟩
 . rw [b0]
   refine ⟨i0,hi.1,⟨by omega,by omega⟩,⟨by omega,by omega⟩,⟨by omega,by omega,by omega,by omega,by omega,fun j j0 j1=>?_⟩,by dsimp only; omega⟩
   by_cases e:j=i
   . subst e; omega
   . have:=hs j j0 (by omega)
     omega
 refine ⟨fun _=>trivial,fun hf=>?_⟩
 have hr50:(rr.length:Int)<=50:=Int.not_lt.1 fun h=>hf (.inl (.inl (.inr h)))
 have hs1:s<=10000:=Int.not_lt.1 fun h=>hf (.inl (.inr h))
 have hSr:SmL rr:=⟨by omega,fun u hu=>by
  obtain ⟨j,hj,e⟩:=List.getElem_of_mem hu
  have:=hs j (by omega) (by omega)
  rw [ix_get (by omega)] at this
  have e:rr[(j:Int).toNat]'(by omega)=u:=e
  rw [e] at this
  omega⟩
 obtain ⟨hl,hat⟩:=few_at (Classical.not_not.1 fun h=>hf (.inl (.inl (.inl h))))
 clear hs
 refine ⟨fun i tn hf bt rs wt dd y=>0<=i/\i<=l.length/\tn<=1+i/\Live ⟨tn,hf,bt,rs,wt,dd,y⟩ 82,fun i _ _ _ _ _ _ _=>((l.length:Int)-i).toNat,⟨Int.le_refl 0,by omega,by decide,L0⟩,?_⟩
 rintro i tn hf bt rs wt dd y ⟨i0,i1,ht,L⟩
 have t0:1<=tn:=L.run.t0
 have tl:tn<=1099511627776:=by omega
 have hB:=L.lgB tl
 refine ⟨fun hi=>⟨i0,hi,fun _ _ _=>?_⟩,fun _=>?_⟩
 . obtain ⟨hM,hS⟩:=hat i i0 hi
   generalize ix l i=a at hM hS ⊢
   refine ⟨fun k0=>⟨fun _=>⟨hM,hB,hS,?_⟩,fun h=>absurd k0 h⟩,fun k0=>⟨fun k1=>⟨hM,hB,hS,?_⟩,fun k1=>⟨fun k2=>⟨hB,?_⟩,fun k2=>⟨fun k3=>⟨hM,hB,hS,?_⟩,fun k3=>?_⟩⟩⟩⟩
   iterate 2
    . rintro e tn2 hf2 bt2 rs2 wt2 dd2 y2 he _
      obtain ⟨et,L2,_⟩:=L.appE he
      have et:tn2=tn:=et
      exact ⟨⟨by omega,by omega⟩,⟨by omega,by omega,by omega,L2⟩,by dsimp only; omega⟩
   . rintro e tn2 hf2 bt2 rs2 wt2 dd2 y2 he _
     obtain ⟨en,L2,w2,_,ec⟩:=L.syncE tl he
     have et:tn2<=tn+1:=by
      rcases ec with ⟨_,e1⟩ | ⟨_,e1⟩
      . have e1:tn2=tn:=congrArg Lg.turn e1
        omega
      . exact Int.le_of_eq e1
     exact ⟨⟨by omega,by omega⟩,⟨by omega,by omega,by omega,L2⟩,by dsimp only; omega⟩
   . rintro e tn2 hf2 bt2 rs2 wt2 dd2 y2 he _
     obtain ⟨L2,ec⟩:=L.compE tl he
     have et:tn2<=tn+1:=by
      rcases ec with ⟨_,e1,_⟩ | ⟨_,e1⟩
      . exact Int.le_of_eq e1
      . have e1:tn2=tn:=congrArg Lg.turn e1
        omega
     exact ⟨⟨by omega,by omega⟩,⟨by omega,by omega,by omega,L2⟩,by dsimp only; omega⟩
   . exact ⟨⟨by omega,by omega⟩,⟨by omega,by omega,by omega,L⟩,by dsimp only; omega⟩
 obtain ⟨m1,m2,m3⟩:=mod_rg (n:=lim) (b:=61) (by decide) (by decide)
 generalize (lim.tmod 61+61).tmod 61=q at m2 m3 ⊢
 have hrs:rs.length<=1000000:=L.recs
 have LB:=L.limit (m:=q) ⟨m2,by omega⟩
 refine ⟨hrs,by decide,m1,by decide,L.run.pow.ok,fun _=>⟨LB.lgB tl,hSr,?_⟩,fun _=>⟨LB.lgB tl,?_⟩⟩
 . rintro e tn2 hf2 bt2 rs2 wt2 dd2 y2 he _
   obtain ⟨ok2,F⟩:=LB.compE (show tn+1<=_ by omega) he
   have ok2:y2.Ok:=ok2
   obtain ⟨z1,z2⟩:(opnS (y2.crash t c k)).1=.nil/\((opnS (y2.crash t c k)).2.2.2.2=rr ∨ e.nr≠0/\(opnS (y2.crash t c k)).2.2.2.2=rs):=F t c k
   have hl:(opnS (y2.crash t c k)).2.2.2.2.length<=1000000:=by rcases z2 with h | ⟨_,h⟩ <;> rw [h] <;> omega
   refine ⟨ok2,crash_Ok ok2 t c k,?_⟩
   generalize opnS (Dk.crash _ t c k)=o at z1 z2 hl ⊢
   refine ⟨fun h=>(h z1).elim,fun _=>⟨fun h=>h.elim (fun h=>absurd nr_nil h) False.elim,fun _=>⟨fun h=>absurd rfl h,fun _=>⟨hl,fun hz=>⟨hl,?_⟩,fun hz=>⟨hl,fun _=>hl,?_⟩⟩⟩⟩⟩
   . rcases z2 with h | ⟨h,_⟩
     . rw [h]; exact sameL_self _
     . exact absurd hz h
   . rcases z2 with h | ⟨_,h⟩
     . rw [h]; exact decide_eq_true (.inr (sameL_self _))
     . rw [h]; exact decide_eq_true (.inl (sameL_self _))
 . rintro e tn2 hf2 bt2 rs2 wt2 dd2 y2 he _
   rcases LB.syncE (show tn+1<=_ by omega) he with ⟨en,L2,w2,r2,t2⟩ | ⟨en,d2,B2,r2,F⟩
   . have w2:wt2=[]:=w2
     have t2:tn2<=tn+1:=t2
     have hrs2:rs2.length<=1000000:=L2.recs
     refine ⟨L2.recs,L2.lgB (show tn2<=_ by omega),hSr,?_⟩
     rintro e3 tn3 hf3 bt3 rs3 wt3 dd3 y3 he3 _
     rcases L2.appE he3 with ⟨en3,L3,w3,r3,t3⟩ | h3
     . have w3:wt3=wt2++rr:=w3
       have r3:rs3=rs2:=r3
       have t3:tn3=tn2:=t3
       rw [w2,List.nil_append] at w3
       refine ⟨fun h=>absurd (by rw [en3]; rfl) h,fun _=>⟨by show (0+rs2.length) * 16<=_; omega,by rw [List.nil_append]; show (rs2.length+rr.length) * 16<=_; omega,L3.lgB (show tn3<=_ by omega),?_⟩⟩
       rintro e4 tn4 hf4 bt4 rs4 wt4 dd4 y4 he4 _
       rw [List.nil_append]
       rcases L3.syncE (show tn3+1<=_ by omega) he4 with ⟨en4,L4,w4,r4,t4⟩ | ⟨en4,_,B4,r4,F4⟩
       . have r4:rs4=rs3++wt3:=r4
         have t4:tn4<=tn3+1:=t4
         have ok4:y4.Ok:=L4.b.ok
         obtain ⟨z1,z2⟩:(opnS (y4.crash t c k)).1=.nil/\(opnS (y4.crash t c k)).2.2.2.2=rs4:=L4.again (show tn4<=_ by omega) t c k
         have hl:(opnS (y4.crash t c k)).2.2.2.2.length<=1000000:=by rw [z2]; exact L4.recs
         rw [r4,r3,w3] at z2
         refine ⟨ok4,crash_Ok ok4 t c k,?_⟩
         generalize opnS (Dk.crash _ t c k)=o at z1 z2 hl ⊢
         refine ⟨fun h=>(h z1).elim,fun _=>⟨fun h=>h.elim (fun h=>absurd nr_nil h) False.elim,fun _=>⟨fun h=>absurd rfl h,fun _=>⟨hl,fun hz=>⟨hl,?_⟩,fun hz=>⟨hl,fun _=>hl,?_⟩⟩⟩⟩⟩
         . rw [z2]; exact sameL_self _
         . exact absurd (by rw [en4]; rfl) hz
       . have ok4:y4.Ok:=B4.ok
         obtain ⟨z1,z2⟩:(opnS (y4.crash t c k)).1=.nil/\((opnS (y4.crash t c k)).2.2.2.2=rs3 ∨ (opnS (y4.crash t c k)).2.2.2.2=rs3++wt3):=F4 t c k
         rw [r3,w3] at z2
         have hl:(opnS (y4.crash t c k)).2.2.2.2.length<=1000000:=by
          have:=L3.room
          have e:(opnS (y4.crash t c k)).2.2.2.2.length<=rs2.length+rr.length:=by rcases z2 with h | h <;> rw [h] <;> (try rw [List.length_append]) <;> omega
          have q1:rs3.length+wt3.length<=1000000:=(L3.lgB (show tn3<=_ by omega)).n
          rw [r3,w3] at q1
          omega
         refine ⟨ok4,crash_Ok ok4 t c k,?_⟩
         generalize opnS (Dk.crash _ t c k)=o at z1 z2 hl ⊢
         refine ⟨fun h=>(h z1).elim,fun _=>⟨fun h=>h.elim (fun h=>absurd nr_nil h) False.elim,fun _=>⟨fun h=>absurd rfl h,fun _=>⟨hl,fun hz=>⟨hl,?_⟩,fun hz=>⟨hl,fun _=>hl,?_⟩⟩⟩⟩⟩
         . exact absurd hz (nr_zero en4)
         . rcases z2 with h | h
           . rw [h]; exact decide_eq_true (.inl (sameL_self _))
           . rw [h]; exact decide_eq_true (.inr (sameL_self _))
     . exact ⟨fun _=>trivial,fun h=>absurd h3 h⟩
   . have r2:rs2=rs:=r2
     refine ⟨by rw [r2]; exact hrs,B2,hSr,?_⟩
     rintro e3 tn3 hf3 bt3 rs3 wt3 dd3 y3 he3 _
     have h3:=dead_app d2 he3
     exact ⟨fun _=>trivial,fun h=>absurd h3 h⟩
def clWs (l:List Act) (rr:List Str) (cm:Bool) (lim:Int) (t:Int) (c:Int) (k:List Int):Q1 U:=⟨[],[],blB true⟩
def clW (a:List (SV U)):Option (Q1 U):=match a with | [.sl 46 l,.sl 9 rr,x_cm,.int .i64 lim,.int .i64 t,.int .i64 c,.sl 3 k]=>(boolOf x_cm).bind fun cm=>some (clWs l rr cm lim t c k) | _=>none
theorem clW_ok (args:List (SV U)) (q:Q1 U) (h:clW args=some q) (ho:allP q.ob):LendOK Nal 7 args ⟨q.ob,q.hy,q.v,[]⟩:=by
 unfold clW at h
 split at h
 . rename_i l rr x_cm lim t c k
   obtain ⟨cm,hb_cm,h⟩:=Option.bind_eq_some_iff.1 h
   cases h
   refine LendOK.conv (args':=[.sl (N:=U) 46 l,.sl (N:=U) 9 rr,blB cm,.int .i64 lim,.int .i64 t,.int .i64 c,.sl (N:=U) 3 k]) (lend1 Nal_ok (inlHN_ok Nal_ok HL_ok anlW 2) Try.func7 (k:=.bool) trivial (VlW_ok (plW l rr cm lim t c k )) 0) fun D w vs hr=>?_
   obtain ⟨u0,r0,rfl,h0,hr⟩:=Rep.tup_cons hr
   obtain ⟨u1,r1,rfl,h1,hr⟩:=Rep.tup_cons hr
   obtain ⟨u2,r2,rfl,h2,hr⟩:=Rep.tup_cons hr
   obtain ⟨u3,r3,rfl,h3,hr⟩:=Rep.tup_cons hr
   obtain ⟨u4,r4,rfl,h4,hr⟩:=Rep.tup_cons hr
   obtain ⟨u5,r5,rfl,h5,hr⟩:=Rep.tup_cons hr
   obtain ⟨u6,r6,rfl,h6,hr⟩:=Rep.tup_cons hr
   obtain rfl:=tup0_inv hr
   exact (.tup1 (cs:=[u1,u2,u3,u4,u5,u6]) h0 (.tup1 (cs:=[u2,u3,u4,u5,u6]) h1 (.tup1 (cs:=[u3,u4,u5,u6]) (boolOf_rep hb_cm h2) (.tup1 (cs:=[u4,u5,u6]) h3 (.tup1 (cs:=[u5,u6]) h4 (.tup1 (cs:=[u6]) h5 (.tup1 (cs:=[]) h6 .tup0)))))))
 . cases h
end Go.Proofs.Ytckpdliipjekgaa
end
section
namespace Go.Proofs.Ytckpdliipjekgaa
open Go Go.Wk Go.Wl Go.Rx Go.RowKit Go.ChangeShapes Go.WideShapes Go.Wa
theorem laid0:laidOutB Try.prog=true:=by kernel_rfl
theorem own0:ownKnob Try.prog.godebug=none:=by kernel_rfl
theorem read0 {P:Program} {ts:List TypeId} (h:(ts.all fun t=>P.readableRec t && decide (t<P.types.size))=true):∀ t∈ts,P.readableRec t=true/\t<P.types.size:=fun t ht=>by
 have:=List.all_eq_true.1 h t ht
 rw [Bool.and_eq_true,decide_eq_true_eq] at this
 exact this
theorem opens_dAct:OpensD Try.prog 46 dAct:=fun {H enc fuel w sp cs x} h=>by
 obtain ⟨xs,n,_,_,hlen,hxl,hget⟩:=DataW.trod_struct Try.underlying46 h
 have hz:Try.prog.cellsOf 46=6:=by kernel_rfl
 rw [hz] at hlen
 have z3:Try.prog.cellsOf 3=1:=by kernel_rfl
 have z9:Try.prog.cellsOf 9=1:=by kernel_rfl
 have z22:Try.prog.cellsOf 22=1:=by kernel_rfl
 have z29:Try.prog.cellsOf 29=1:=by kernel_rfl
 have g0:DataW.trod enc Try.prog w 0 sp true n 3 ((cs.drop 0).take (Try.prog.cellsOf 3))=xs[0]? := hget 0 _ rfl
 rw [List.getElem?_eq_getElem (by rw [hxl]; decide),z3] at g0
 obtain ⟨y0,k0⟩:=(opensD_int Try.underlying3) g0
 have g1:DataW.trod enc Try.prog w 0 sp true n 9 ((cs.drop 1).take (Try.prog.cellsOf 9))=xs[1]? := hget 1 _ rfl
 rw [List.getElem?_eq_getElem (by rw [hxl]; decide),z9] at g1
 obtain ⟨y1,k1⟩:=(opensD_str Try.underlying9) g1
 have g2:DataW.trod enc Try.prog w 0 sp true n 29 ((cs.drop 2).take (Try.prog.cellsOf 29))=xs[2]? := hget 2 _ rfl
 rw [List.getElem?_eq_getElem (by rw [hxl]; decide),z29] at g2
 obtain ⟨y2,k2⟩:=(opensD_slice Try.underlying29 (by kernel_rfl) (by decide) (opensD_str Try.underlying9)) g2
 have g3:DataW.trod enc Try.prog w 0 sp true n 3 ((cs.drop 3).take (Try.prog.cellsOf 3))=xs[3]? := hget 3 _ rfl
 rw [List.getElem?_eq_getElem (by rw [hxl]; decide),z3] at g3
 obtain ⟨y3,k3⟩:=(opensD_int Try.underlying3) g3
 have g4:DataW.trod enc Try.prog w 0 sp true n 3 ((cs.drop 4).take (Try.prog.cellsOf 3))=xs[4]? := hget 4 _ rfl
 rw [List.getElem?_eq_getElem (by rw [hxl]; decide),z3] at g4
 obtain ⟨y4,k4⟩:=(opensD_int Try.underlying3) g4
 have g5:DataW.trod enc Try.prog w 0 sp true n 22 ((cs.drop 5).take (Try.prog.cellsOf 22))=xs[5]? := hget 5 _ rfl
 rw [List.getElem?_eq_getElem (by rw [hxl]; decide),z22] at g5
 obtain ⟨y5,k5⟩:=(opensD_slice Try.underlying22 (by kernel_rfl) (by decide) (opensD_int Try.underlying3)) g5
 have q:cs=(cs.drop 0).take (1+(1+(1+(1+(1+(1)))))):=wholeL hlen
 exact ⟨⟨y0,y1,y2,y3,y4,y5⟩,_,_,_,_,_,_,q.trans (cutL.trans (congrArg _ (cutL.trans (congrArg _ (cutL.trans (congrArg _ (cutL.trans (congrArg _ cutL)))))))),k0,k1,k2,k3,k4,k5⟩
theorem rep_A {W:World} {v:Value} {y:List Act} (h:(dSlice dAct).rd (fun _=>True) W [v] y):Rep U eT (fun _=>none) (fun b=>b<W.heap.size) W v (.sl (N:=U) 46 y):=.sl (Rd.weak _ h fun _ _ hb=>hb)
theorem rep_S {W:World} {v:Value} {y:List Str} (h:(dSlice dStr).rd (fun _=>True) W [v] y):Rep U eT (fun _=>none) (fun b=>b<W.heap.size) W v (.sl (N:=U) 9 y):=.sl (Rd.weak _ h fun _ _ hb=>hb)
theorem rep_I {W:World} {v:Value} {y:List Int} (h:(dSlice dInt).rd (fun _=>True) W [v] y):Rep U eT (fun _=>none) (fun b=>b<W.heap.size) W v (.sl (N:=U) 3 y):=.sl (Rd.weak _ h fun _ _ hb=>hb)
theorem bool_true {Z:Nat->Prop} {W:World} {v:Value} (h:Rep U eT (fun _=>none) Z W v (blB true)):v=.bool true:=by
 cases h with | bl=>rfl
theorem trodAll_7 {P:Program} {H:Type} {enc:TypeId×Value->H} {w:World} {base:Nat} {spare:Nat->Bool} {held:Bool} {t0 t1 t2 t3 t4 t5 t6:TypeId} {args:Array Value} {ds:List (DataW H)} {ps:List MemPlace} (h:DataW.TrodAll enc P w base spare held [t0,t1,t2,t3,t4,t5,t6] args.toList ds ps) :
  ∃ v0 v1 v2 v3 v4 v5 v6 d0 d1 d2 d3 d4 d5 d6 p0 p1 p2 p3 p4 p5 p6,args=#[v0,v1,v2,v3,v4,v5,v6]/\ds=[d0,d1,d2,d3,d4,d5,d6]/\ps=p0++(p1++(p2++(p3++(p4++(p5++(p6))))))/\DataW.Trod enc P w base spare held t0 v0 d0 p0/\DataW.Trod enc P w base spare held t1 v1 d1 p1/\DataW.Trod enc P w base spare held t2 v2 d2 p2/\DataW.Trod enc P w base spare held t3 v3 d3 p3/\DataW.Trod enc P w base spare held t4 v4 d4 p4/\DataW.Trod enc P w base spare held t5 v5 d5 p5/\DataW.Trod enc P w base spare held t6 v6 d6 p6:=by
 obtain ⟨v0,vs0,d0,e0,p0,q0,hargs,rfl,rfl,h0,r0⟩:=trodAll_cons h
 obtain ⟨v1,vs1,d1,e1,p1,q1,rfl,rfl,rfl,h1,r1⟩:=trodAll_cons r0
 obtain ⟨v2,vs2,d2,e2,p2,q2,rfl,rfl,rfl,h2,r2⟩:=trodAll_cons r1
 obtain ⟨v3,vs3,d3,e3,p3,q3,rfl,rfl,rfl,h3,r3⟩:=trodAll_cons r2
 obtain ⟨v4,vs4,d4,e4,p4,q4,rfl,rfl,rfl,h4,r4⟩:=trodAll_cons r3
 obtain ⟨v5,vs5,d5,e5,p5,q5,rfl,rfl,rfl,h5,r5⟩:=trodAll_cons r4
 obtain ⟨v6,vs6,d6,e6,p6,q6,rfl,rfl,rfl,h6,r6⟩:=trodAll_cons r5
 obtain ⟨rfl,rfl,rfl⟩:=trodAll_nil r6
 exact ⟨v0,v1,v2,v3,v4,v5,v6,d0,d1,d2,d3,d4,d5,d6,p0,p1,p2,p3,p4,p5,p6,by cases args; simp_all,rfl,by simp,h0,h1,h2,h3,h4,h5,h6⟩
end Go.Proofs.Ytckpdliipjekgaa
end
