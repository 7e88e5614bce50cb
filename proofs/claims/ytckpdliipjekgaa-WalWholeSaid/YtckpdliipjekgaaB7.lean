/- 51 texts, one behind the other. -/
import Derived.Test.YtckpdliipjekgaaB6
import Derived.Shelf.Spec.SlicesGrow
import Derived.Ground.Names8Prog
import Derived.Test.YtckpdliipjekgaaProg
import Derived.Test.YtckpdliipjekgaaB4
set_option linter.unusedVariables false
set_option linter.unusedSimpArgs false
set_option maxRecDepth 100000
section
namespace Go.Proofs.Ytckpdliipjekgaa
open Go Go.Wk Go.Wl Go.Rx Go.Wa 
def inE (what:Str) (e:Err):Err:=if e=.nil then .nil else .p 94 what e.n0
theorem erN_nil {n:Int}:erN n=.nil↔n=0:=by
 unfold erN
 by_cases h:n=0
 . rw [if_pos h]; simp [h]
 . rw [if_neg h]; simp [h]
theorem erN_no {n:Int} (h:erN n≠.nil):erN n=.no (erN n).n0:=by
 unfold erN at *
 by_cases e:n=0
 . rw [if_pos e] at h; exact absurd rfl h
 . rw [if_neg e]; rfl
theorem inE_no {w:Str} {n:Int} (h:n≠0):inE w (erN n)=.p 94 w n:=by
 unfold inE erN
 rw [if_neg h,if_neg (by simp)]; rfl
theorem inE_0 {w:Str}:inE w (erN 0)=.nil:=by unfold inE erN; rw [if_pos rfl,if_pos rfl]
abbrev sWr:Str:=[119,114,105,116,101]
abbrev sFl:Str:=[102,108,117,115,104]
abbrev sHd:Str:=[104,101,97,100]
abbrev sRd:Str:=[114,101,97,100]
def padS (s:Str):Str:=s.take 256++List.replicate (256-s.length) 0
theorem pad_len (s:Str):(padS s).length=256:=by
 unfold padS
 rw [List.length_append,List.length_take,List.length_replicate]; omega
theorem pad_eq (s:Str):s.take (List.replicate (Int.toNat 256) (0:UInt8)).length++(List.replicate (Int.toNat 256) (0:UInt8)).drop s.length=padS s:=by
 unfold padS
 rw [List.length_replicate,List.drop_replicate]; rfl
def secs (s:Str):List Str:=if _:s.length=0 then [] else padS s::secs (s.drop 256)
termination_by s.length
decreasing_by rw [List.length_drop]; omega
theorem secs_nil {s:Str} (h:s.length=0):secs s=[]:=by rw [secs,dif_pos h]
theorem secs_cons {s:Str} (h:s.length≠0):secs s=padS s::secs (s.drop 256):=by rw [secs,dif_neg h]
def storeS:Dk->Int->List Str->Err×Dk
 | x,_,[]=>(inE sFl (erN x.flush.1),x.flush.2)
 | x,a,b::r=>if (x.write a b).1=0 then storeS (x.write a b).2 (a+1) r else (inE sWr (erN (x.write a b).1),(x.write a b).2)
theorem store_Ok:∀ (l:List Str) {x:Dk} (a:Int),x.Ok->(storeS x a l).2.Ok
 | [],_,_,ok=>flush_Ok ok
 | b::r,x,a,ok=>by
  unfold storeS
  split
  . exact store_Ok r _ (write_Ok ok _ _)
  . exact write_Ok ok _ _
theorem store_len:∀ (l:List Str) {x:Dk} (a:Int),x.Ok->(storeS x a l).2.lasts.length=x.lasts.length
 | [],_,_,ok=>flush_len ok
 | b::r,x,a,ok=>by
  unfold storeS
  split
  . rw [store_len r _ (write_Ok ok _ _),write_len]
  . exact congrArg List.length (write_len _ _)
def anin:Nat->Ann:=fun | 38=>⟨12,fun _=>none,fun _=>none⟩ | _=>⟨0,fun _=>none,fun _=>none⟩
def Vin (what:Str) (e:Err) (Q:Err->Prop):Prop :=
(e=Err.nil->Q Err.nil)/\(¬e=Err.nil->e=Err.no e.n0/\Q (Err.p (94:Nat) what e.n0))
theorem Vin_ok {what:Str} {e:Err} {Q:Err->Prop} (h:Vin what e Q):vcFun (E:=N1) (inlHN N1 H1 anin 2) (anin 38) Try.f38 [.str what,.err e] [] [] 0 (resP N1 [.err] Q):=Eq.mp (show Vin what e Q=vcFun (E:=N1) (inlHN N1 H1 anin 2) (anin 38) Try.f38 [.str what,.err e] [] [] 0 (resP N1 [.err] Q) by kernel_rfl) h
theorem pin (what:Str) (e:Err) (h0:e≠.nil->e=.no e.n0):Vin what e (fun y0=>y0=inE what e):=by
 unfold Vin
 refine ⟨fun h=>?_,fun h=>⟨h0 h,?_⟩⟩
 . unfold inE; rw [if_pos h]
 . unfold inE; rw [if_neg h]
def cin (a:List (SV U)) (nx:Nat):Option (CR U):=match a with | [.str what,.err e]=>some ⟨[(e:Err)≠.nil->e=.no e.n0],[],.err (inE what e),[]⟩ | _=>none
theorem cin_ok (args:List (SV U)) (nx:Nat) (c:CR U) (h:cin args nx=some c) (hp:args.all pureS=true) (ho:allP c.ob):ConOK N1.P N1.N N1.T N1.G 38 args nx c:=by
 unfold cin at h
 split at h
 . rename_i what e
   cases h
   exact con1 N1_ok (inlHN_ok N1_ok H1_ok anin 2) Try.func38 (k:=.err) (x:=inE what e) hp (Vin_ok (pin what e ho.1))
 . cases h
noncomputable def Nin:Env:=N1.addC 38 cin
theorem Nin_ok:EnvOK Nin:=N1_ok.addC Try.call38 cin_ok
def anget:Nat->Ann:=fun | 52=>⟨21,fun | 3=>some ⟨[0],[.slot 3 (.int .i64),.slot 4 (.int .i64)]⟩ | _=>none,fun _=>none⟩ | _=>⟨0,fun _=>none,fun _=>none⟩
def Vget (b:Str) (Q:Int->Prop):Prop :=
in64 ((↑(List.length b):Int)-1)/\∃ (I:Int->Int->Prop),∃ (m:Int->Int->Nat),I (0:Int) ((↑(List.length b):Int)-1)/\∀ (x x_1:Int),I x x_1->((0:Int)<=x_1->(0:Int)<=8/\(0:Int)<=x_1/\x_1<(↑(List.length b):Int)/\in64 (x_1-1)/\I (IntKind.i64.wrap (↑(BitVec.ofInt IntKind.i64.bits (IntKind.i64.wrap (x * 2 ^ min (Int.toNat (8:Int)) IntKind.i64.bits)) ||| BitVec.ofInt IntKind.i64.bits (↑(ix b x_1).toNat:Int)).toNat:Int)) (x_1-1)/\m (IntKind.i64.wrap (↑(BitVec.ofInt IntKind.i64.bits (IntKind.i64.wrap (x * 2 ^ min (Int.toNat (8:Int)) IntKind.i64.bits)) ||| BitVec.ofInt IntKind.i64.bits (↑(ix b x_1).toNat:Int)).toNat:Int)) (x_1-1)<m x x_1)/\(¬(0:Int)<=x_1->Q x)
theorem Vget_ok {b:Str} {Q:Int->Prop} (h:Vget b Q):vcFun (E:=Nin) (inlHN Nin H1 anget 2) (anget 52) Try.f52 [.sl (N:=U) 5 b] [] [] 0 (resP Nin [.int .i64] Q):=Eq.mp (show Vget b Q=vcFun (E:=Nin) (inlHN Nin H1 anget 2) (anget 52) Try.f52 [.sl (N:=U) 5 b] [] [] 0 (resP Nin [.int .i64] Q) by kernel_rfl) h
theorem pget (b:Str) (hb:b.length<=100000):Vget b (fun y0=>y0=getS b):=by
 unfold Vget
 refine ⟨⟨by omega,by omega⟩,fun x i=>-1<=i/\i<b.length/\x=getS (b.drop (i+1).toNat),fun _ i=>(i+1).toNat,⟨by omega,by omega,?_⟩,?_⟩
 . rw [List.drop_of_length_le (by omega)]; rfl
 rintro x i ⟨i0,i1,hx⟩
 refine ⟨fun h=>⟨by decide,h,by omega,⟨by omega,by omega⟩,⟨by omega,by omega,?_⟩,by dsimp only; omega⟩,fun h=>?_⟩
 . rw [get_step,hx,getS_next h i1]
   congr 2
   omega
 . rw [hx,show (i+1).toNat=0 by omega]; rfl
def cget (a:List (SV U)):Option (Q1 U):=match a with | [.sl 5 b]=>some ⟨[List.length (α:=UInt8) b<=100000],[],.int .i64 (getS b)⟩ | _=>none
theorem cget_ok (args:List (SV U)) (q:Q1 U) (h:cget args=some q) (ho:allP q.ob):LendOK Nin 52 args ⟨q.ob,q.hy,q.v,[]⟩:=by
 unfold cget at h
 split at h
 . rename_i b
   cases h
   exact lend1 Nin_ok (inlHN_ok Nin_ok H1_ok anget 2) Try.func52 (k:=.int .i64) (x:=getS b) trivial (Vget_ok (pget b ho.1)) 0
 . cases h
noncomputable def Nget:Env:=Nin.addL 52 cget
theorem Nget_ok:EnvOK Nget:=Nin_ok.addL Try.call52 cget_ok
noncomputable def NI57:Env:=Nget.addI 57 Try.f57
theorem NI57_ok:EnvOK NI57:=Nget_ok.addI Try.call57 Try.func57
def anho:Nat->Ann:=fun | 41=>⟨26,fun _=>none,fun _=>none⟩ | 57=>⟨19,fun | 1=>some ⟨[0,1,6],[.cont 0 5,.slot 7 (.int .i64)]⟩ | _=>none,fun _=>none⟩ | _=>⟨0,fun _=>none,fun _=>none⟩
def Vho (turn:Int) (half:Int) (n:Int) (Q:List UInt8->Prop):Prop :=
(0:Int)<=256/\(256:Int)=256/\(↑((some (1:Nat)).getD (0:Nat)):Int) * 256<=140737488355328/\(0:Int)<=8/\(8:Int)<=(↑(List.replicate (Int.toNat (256:Int)) (0:UInt8)).length:Int)/\∃ (I:List UInt8->Int->Prop),∃ (m:List UInt8->Int->Nat),I (List.replicate (Int.toNat (256:Int)) (0:UInt8)) (0:Int)/\∀ (x:List UInt8) (x_1:Int),I x x_1->(x_1<(some (8:Int)).getD (↑(List.replicate (Int.toNat (256:Int)) (0:UInt8)).length:Int)-none.getD (0:Int)->in64 ((8:Int) * x_1)/\(0:Int)<=(8:Int) * x_1/\(0:Int)<=x_1/\x_1<(some (8:Int)).getD (↑(List.replicate (Int.toNat (256:Int)) (0:UInt8)).length:Int)-none.getD (0:Int)/\in64 (x_1+1)/\I (x.set (none.getD (0:Int)+x_1).toNat (UInt8.ofInt (turn.fdiv ((2:Int) ^ min ((8:Int) * x_1).toNat IntKind.i64.bits)))) (x_1+1)/\m (x.set (none.getD (0:Int)+x_1).toNat (UInt8.ofInt (turn.fdiv ((2:Int) ^ min ((8:Int) * x_1).toNat IntKind.i64.bits)))) (x_1+1)<m x x_1)/\(¬x_1<(some (8:Int)).getD (↑(List.replicate (Int.toNat (256:Int)) (0:UInt8)).length:Int)-none.getD (0:Int)->(0:Int)<=8/\(8:Int)<=9/\(9:Int)<=(↑x.length:Int)/\∃ (I:List UInt8->Int->Prop),∃ (m:List UInt8->Int->Nat),I x (0:Int)/\∀ (x_2:List UInt8) (x_3:Int),I x_2 x_3->(x_3<(some (9:Int)).getD (↑x.length:Int)-(some (8:Int)).getD (0:Int)->in64 ((8:Int) * x_3)/\(0:Int)<=(8:Int) * x_3/\(0:Int)<=x_3/\x_3<(some (9:Int)).getD (↑x.length:Int)-(some (8:Int)).getD (0:Int)/\in64 (x_3+1)/\I (x_2.set ((some (8:Int)).getD (0:Int)+x_3).toNat (UInt8.ofInt (half.fdiv ((2:Int) ^ min ((8:Int) * x_3).toNat IntKind.i64.bits)))) (x_3+1)/\m (x_2.set ((some (8:Int)).getD (0:Int)+x_3).toNat (UInt8.ofInt (half.fdiv ((2:Int) ^ min ((8:Int) * x_3).toNat IntKind.i64.bits)))) (x_3+1)<m x_2 x_3)/\(¬x_3<(some (9:Int)).getD (↑x.length:Int)-(some (8:Int)).getD (0:Int)->(0:Int)<=9/\(9:Int)<=13/\(13:Int)<=(↑x_2.length:Int)/\∃ (I:List UInt8->Int->Prop),∃ (m:List UInt8->Int->Nat),I x_2 (0:Int)/\∀ (x:List UInt8) (x_4:Int),I x x_4->(x_4<(some (13:Int)).getD (↑x_2.length:Int)-(some (9:Int)).getD (0:Int)->in64 ((8:Int) * x_4)/\(0:Int)<=(8:Int) * x_4/\(0:Int)<=x_4/\x_4<(some (13:Int)).getD (↑x_2.length:Int)-(some (9:Int)).getD (0:Int)/\in64 (x_4+1)/\I (x.set ((some (9:Int)).getD (0:Int)+x_4).toNat (UInt8.ofInt (n.fdiv ((2:Int) ^ min ((8:Int) * x_4).toNat IntKind.i64.bits)))) (x_4+1)/\m (x.set ((some (9:Int)).getD (0:Int)+x_4).toNat (UInt8.ofInt (n.fdiv ((2:Int) ^ min ((8:Int) * x_4).toNat IntKind.i64.bits)))) (x_4+1)<m x x_4)/\(¬x_4<(some (13:Int)).getD (↑x_2.length:Int)-(some (9:Int)).getD (0:Int)->(0:Int)<=248/\(248:Int)<=(↑x.length:Int)/\∃ (I:List UInt8->Int->Prop),∃ (m:List UInt8->Int->Nat),I x (0:Int)/\∀ (x_5:List UInt8) (x_6:Int),I x_5 x_6->(x_6<none.getD (↑x.length:Int)-(some (248:Int)).getD (0:Int)->in64 ((8:Int) * x_6)/\(0:Int)<=(8:Int) * x_6/\(0:Int)<=x_6/\x_6<none.getD (↑x.length:Int)-(some (248:Int)).getD (0:Int)/\in64 (x_6+1)/\I (x_5.set ((some (248:Int)).getD (0:Int)+x_6).toNat (UInt8.ofInt (turn.fdiv ((2:Int) ^ min ((8:Int) * x_6).toNat IntKind.i64.bits)))) (x_6+1)/\m (x_5.set ((some (248:Int)).getD (0:Int)+x_6).toNat (UInt8.ofInt (turn.fdiv ((2:Int) ^ min ((8:Int) * x_6).toNat IntKind.i64.bits)))) (x_6+1)<m x_5 x_6)/\(¬x_6<none.getD (↑x.length:Int)-(some (248:Int)).getD (0:Int)->Q x_5))))
theorem Vho_ok {turn:Int} {half:Int} {n:Int} {Q:List UInt8->Prop} (h:Vho turn half n Q):vcFun (E:=NI57) (inlHN NI57 H1 anho 2) (anho 41) Try.f41 [.int .i64 turn,.int .i64 half,.int .i64 n] [] [] 0 (resP NI57 [.acc 5] Q):=Eq.mp (show Vho turn half n Q=vcFun (E:=NI57) (inlHN NI57 H1 anho 2) (anho 41) Try.f41 [.int .i64 turn,.int .i64 half,.int .i64 n] [] [] 0 (resP NI57 [.acc 5] Q) by kernel_rfl) h
theorem pho (turn:Int) (half:Int) (n:Int) (h1:in64 half) (h2:in64 n):Vho turn half n (fun y0=>y0=headS turn half n):=by
 unfold Vho
 have hz:(List.replicate (Int.toNat 256) 0:Str).length=256:=by rw [List.length_replicate]; rfl
 have g1:∀ a:Int,(some a).getD 0=a:=fun _=>rfl
 refine ⟨by decide,rfl,by decide,by decide,by rw [hz]; decide,fun y i=>0<=i/\i<=8/\y=putI (List.replicate (Int.toNat 256) 0) 0 8 turn i,fun _ i=>(8-i).toNat,⟨by decide,by decide,(put_0 _ _ _ _).symm⟩,?_⟩
 rintro y i ⟨i0,i1,hy⟩
 have hyl:y.length=256:=by rw [hy,put_len i0 i1 (by rw [hz]; decide),hz]
 refine ⟨fun h=>?_,fun h=>?_⟩
 . have h:i<8:=h
   exact ⟨⟨by omega,by omega⟩,by omega,i0,h,⟨by omega,by omega⟩,⟨by omega,by omega,by rw [hy]; exact put_next i0 h (Nat.le_refl _) (by rw [hz]; decide) (show 0+i=_ by omega)⟩,by dsimp only; omega⟩
 have h:¬ i<8:=h
 rw [put_n _ _ _ _ _ (by omega)] at hy
 refine ⟨by decide,by decide,by rw [hyl]; decide,fun z i=>0<=i/\i<=1/\z=putI y 8 1 half i,fun _ i=>(1-i).toNat,⟨by decide,by decide,(put_0 _ _ _ _).symm⟩,?_⟩
 rintro z i ⟨i0,i1,hz1⟩
 have hzl:z.length=256:=by rw [hz1,put_len i0 i1 (by rw [hyl]; decide),hyl]
 refine ⟨fun h=>?_,fun h=>?_⟩
 . have h:i<9-8:=h
   exact ⟨⟨by omega,by omega⟩,by omega,i0,h,⟨by omega,by omega⟩,⟨by omega,by omega,by rw [hz1]; exact put_next i0 h (by decide) (by rw [hyl]; decide) rfl⟩,by dsimp only; omega⟩
 have h:¬ i<9-8:=h
 rw [put_n _ _ _ _ _ (by omega)] at hz1
 refine ⟨by decide,by decide,by rw [hzl]; decide,fun u i=>0<=i/\i<=4/\u=putI z 9 4 n i,fun _ i=>(4-i).toNat,⟨by decide,by decide,(put_0 _ _ _ _).symm⟩,?_⟩
 rintro u i ⟨i0,i1,hu⟩
 have hul:u.length=256:=by rw [hu,put_len i0 i1 (by rw [hzl]; decide),hzl]
 refine ⟨fun h=>?_,fun h=>?_⟩
 . have h:i<13-9:=h
   exact ⟨⟨by omega,by omega⟩,by omega,i0,h,⟨by omega,by omega⟩,⟨by omega,by omega,by rw [hu]; exact put_next i0 h (by decide) (by rw [hzl]; decide) rfl⟩,by dsimp only; omega⟩
 have h:¬ i<13-9:=h
 rw [put_n _ _ _ _ _ (by omega)] at hu
 have hq:none.getD (u.length:Int)-(some (248:Int)).getD 0=8:=by show (u.length:Int)-248=8; rw [hul]; rfl
 refine ⟨by decide,by rw [hul]; decide,fun v i=>0<=i/\i<=8/\v=putI u 248 8 turn i,fun _ i=>(8-i).toNat,⟨by decide,by decide,(put_0 _ _ _ _).symm⟩,?_⟩
 rintro v i ⟨i0,i1,hv⟩
 rw [hq]
 refine ⟨fun h=>?_,fun h=>?_⟩
 . exact ⟨⟨by omega,by omega⟩,by omega,i0,h,⟨by omega,by omega⟩,⟨by omega,by omega,by rw [hv]; exact put_next i0 h (Nat.le_refl _) (by rw [hul]; decide) rfl⟩,by dsimp only; omega⟩
 rw [put_n _ _ _ _ _ (by omega)] at hv
 rw [hv,hu,hz1,hy]
 exact head_put turn half n
def cho (a:List (SV U)) (nx:Nat):Option (CR U):=match a with | [.int .i64 turn,.int .i64 half,.int .i64 n]=>some ⟨[in64 half,in64 n],[],.acc nx,[.ac 5 (headS turn half n)]⟩ | _=>none
theorem cho_ok (args:List (SV U)) (nx:Nat) (c:CR U) (h:cho args nx=some c) (hp:args.all pureS=true) (ho:allP c.ob):ConOK NI57.P NI57.N NI57.T NI57.G 41 args nx c:=by
 unfold cho at h
 split at h
 . rename_i turn half n
   cases h
   exact con1 NI57_ok (inlHN_ok NI57_ok H1_ok anho 2) Try.func41 (k:=.acc 5) (x:=headS turn half n) hp (Vho_ok (pho turn half n ho.1 ho.2.1))
 . cases h
noncomputable def Nho:Env:=NI57.addC 41 cho
theorem Nho_ok:EnvOK Nho:=NI57_ok.addC Try.call41 cho_ok
noncomputable def NI44:Env:=Nho.addI 44 Try.f44
theorem NI44_ok:EnvOK NI44:=Nho_ok.addI Try.call44 Try.func44
noncomputable def NI34:Env:=NI44.addI 34 Try.f34
theorem NI34_ok:EnvOK NI34:=NI44_ok.addI Try.call34 Try.func34
def anst:Nat->Ann:=fun | 40=>⟨36,fun | 2=>some ⟨[0,1,2],[.slot 7 (.int .i64),.ob 0 0]⟩ | _=>none,fun _=>none⟩ | _=>⟨0,fun _=>none,fun _=>none⟩
def Vst (x:Dk) (at_:Int) (s:Str) (Q:Err->Dk->Prop):Prop :=
∃ (I:Int->Dk->Prop),∃ (m:Int->Dk->Nat),I (0:Int) x/\∀ (x:Int) (x_1:Dk),I x x_1->(x<(↑(List.length s):Int)->(0:Int)<=256/\(256:Int)=256/\(↑((some (1:Nat)).getD (0:Nat)):Int) * 256<=140737488355328/\(0:Int)<=x/\x<=(↑(List.length s):Int)/\(256:Int)≠0/\in64 (x.tdiv (256:Int))/\in64 (at_+x.tdiv (256:Int))/\x_1.Ok/\(erN (x_1.write (at_+x.tdiv (256:Int)) (List.take (List.replicate (Int.toNat (256:Int)) (0:UInt8)).length (List.drop x.toNat s)++List.drop (List.drop x.toNat s).length (List.replicate (Int.toNat (256:Int)) (0:UInt8)))).fst≠Err.nil->(erN (x_1.write (at_+x.tdiv (256:Int)) (List.take (List.replicate (Int.toNat (256:Int)) (0:UInt8)).length (List.drop x.toNat s)++List.drop (List.drop x.toNat s).length (List.replicate (Int.toNat (256:Int)) (0:UInt8)))).fst≠Err.nil->erN (x_1.write (at_+x.tdiv (256:Int)) (List.take (List.replicate (Int.toNat (256:Int)) (0:UInt8)).length (List.drop x.toNat s)++List.drop (List.drop x.toNat s).length (List.replicate (Int.toNat (256:Int)) (0:UInt8)))).fst=Err.no (erN (x_1.write (at_+x.tdiv (256:Int)) (List.take (List.replicate (Int.toNat (256:Int)) (0:UInt8)).length (List.drop x.toNat s)++List.drop (List.drop x.toNat s).length (List.replicate (Int.toNat (256:Int)) (0:UInt8)))).fst).n0)/\Q (inE ([119,114,105,116,101]:List UInt8) (erN (x_1.write (at_+x.tdiv (256:Int)) (List.take (List.replicate (Int.toNat (256:Int)) (0:UInt8)).length (List.drop x.toNat s)++List.drop (List.drop x.toNat s).length (List.replicate (Int.toNat (256:Int)) (0:UInt8)))).fst)) (x_1.write (at_+x.tdiv (256:Int)) (List.take (List.replicate (Int.toNat (256:Int)) (0:UInt8)).length (List.drop x.toNat s)++List.drop (List.drop x.toNat s).length (List.replicate (Int.toNat (256:Int)) (0:UInt8)))).snd)/\(¬erN (x_1.write (at_+x.tdiv (256:Int)) (List.take (List.replicate (Int.toNat (256:Int)) (0:UInt8)).length (List.drop x.toNat s)++List.drop (List.drop x.toNat s).length (List.replicate (Int.toNat (256:Int)) (0:UInt8)))).fst≠Err.nil->in64 (x+256)/\I (x+256) (x_1.write (at_+x.tdiv (256:Int)) (List.take (List.replicate (Int.toNat (256:Int)) (0:UInt8)).length (List.drop x.toNat s)++List.drop (List.drop x.toNat s).length (List.replicate (Int.toNat (256:Int)) (0:UInt8)))).snd/\m (x+256) (x_1.write (at_+x.tdiv (256:Int)) (List.take (List.replicate (Int.toNat (256:Int)) (0:UInt8)).length (List.drop x.toNat s)++List.drop (List.drop x.toNat s).length (List.replicate (Int.toNat (256:Int)) (0:UInt8)))).snd<m x x_1))/\(¬x<(↑(List.length s):Int)->x_1.Ok/\(erN x_1.flush.fst≠Err.nil->erN x_1.flush.fst=Err.no (erN x_1.flush.fst).n0)/\Q (inE ([102,108,117,115,104]:List UInt8) (erN x_1.flush.fst)) x_1.flush.snd)
theorem Vst_eq {x:Dk} {at_:Int} {s:Str} {Q:Err->Dk->Prop}:@Eq Prop (Vst x at_ s Q) (vcFun (E:=NI34) (inlHN NI34 H1 anst 3) (anst 40) Try.f40 [.ref 0 0,.int .i64 at_,.str s] [(0,.ob (N:=U) 0 1 x)] [] 2 (endG NI34 [(0,.ob (N:=U) 0 1 x)] 2 1 [[.slot 0 (.err),.tree [] [.ob (some 200) 0]]] ((Q,fun _ _=>(0:Nat)),()))):=by kernel_rfl
theorem Vst_ok {x:Dk} {at_:Int} {s:Str} {Q:Err->Dk->Prop} (h:Vst x at_ s Q):vcFun (E:=NI34) (inlHN NI34 H1 anst 3) (anst 40) Try.f40 [.ref 0 0,.int .i64 at_,.str s] [(0,.ob (N:=U) 0 1 x)] [] 2 (endG NI34 [(0,.ob (N:=U) 0 1 x)] 2 1 [[.slot 0 (.err),.tree [] [.ob (some 200) 0]]] ((Q,fun _ _=>(0:Nat)),())):=by rw [<- Vst_eq]; exact h
theorem pst (x:Dk) (at_:Int) (s:Str) (ok:x.Ok) (hs:s.length<=10000000) (ha:0<=at_) (hb:at_<=1000000):Vst x at_ s (fun y0 y1=>y0=(storeS x at_ (secs s)).1/\y1=(storeS x at_ (secs s)).2):=by
 unfold Vst
 refine ⟨fun i x'=>∃ k:Int,0<=k/\i=256 * k/\i<s.length+256/\x'.Ok/\storeS x at_ (secs s)=storeS x' (at_+k) (secs (s.drop i.toNat)),fun i _=>((s.length:Int)-i).toNat,⟨0,by omega,by omega,by omega,ok,by rw [Int.add_zero]; rfl⟩,?_⟩
 rintro i x' ⟨k,k0,rfl,hi,ok',he⟩
 have hd:(256 * k).tdiv 256=k:=Int.mul_tdiv_cancel_left _ (by decide)
 rw [pad_eq,hd]
 refine ⟨fun h=>?_,fun h=>?_⟩
 . have hne:(s.drop (256 * k).toNat).length≠0:=by rw [List.length_drop]; omega
   rw [secs_cons hne,storeS] at he
   refine ⟨by decide,rfl,by decide,by omega,by omega,by decide,⟨by omega,by omega⟩,⟨by omega,by omega⟩,ok',fun h1=>⟨fun h2=>erN_no h2,?_⟩,fun h1=>?_⟩
   . rw [if_neg (fun e=>h1 (erN_nil.2 e))] at he
     rw [he]; exact ⟨rfl,rfl⟩
   . rw [if_pos (erN_nil.1 (Classical.not_not.1 h1))] at he
     refine ⟨⟨by omega,by omega⟩,⟨k+1,by omega,by omega,by omega,write_Ok ok' _ _,?_⟩,by dsimp only; omega⟩
     rw [he,List.drop_drop,show (256 * k+256).toNat=(256 * k).toNat+256 by omega,Int.add_assoc]
 . have hz:(s.drop (256 * k).toNat).length=0:=by rw [List.length_drop]; omega
   rw [secs_nil hz,storeS] at he
   rw [he]
   exact ⟨ok',fun h2=>erN_no h2,rfl,rfl⟩
noncomputable def fsts (x:Dk) (at_:Int) (s:Str):FR U:=frOf NI34 [Dk.Ok x,List.length (α:=UInt8) s<=10000000,0<=at_,at_<=1000000] [(0,.ob (N:=U) 0 1 x)] 2 1 [.slot 0 (.err),.tree [] [.ob (some 200) 0]] ((storeS x at_ (secs s)).1,((storeS x at_ (secs s)).2,()),())
noncomputable def fst:FC U:=⟨[],[],fun a its=>match a,its with | [.ref 0 0,.int .i64 at_,.str s],[(0,.ob 0 1 x)]=>some (fsts x at_ s) | _,_=>none⟩
theorem fst_ok (args:List (SV U)) (its:Items U) (r:FR U) (h:fst.C args its=some r) (ho:allP r.ob):GenOK Try.prog U eT Gl 40 args its (2 * its.length) (fun k=>allP r.hy->k r.v r.its r.n):=by
 unfold fst at h
 simp only at h
 split at h
 . rename_i at_ s x
   cases h
   exact fc_ok NI34_ok (inlHN_ok NI34_ok H1_ok anst 3) Try.func40 (n:=1) rfl (vs:=[.slot 0 (.err),.tree [] [.ob (some 200) 0]]) (X:=((storeS x at_ (secs s)).1,((storeS x at_ (secs s)).2,()),())) rfl (Vst_ok (pst x at_ s ho.1 ho.2.1 ho.2.2.1 ho.2.2.2.1))
 . cases h
noncomputable def Nst:Env:=(NI34.addI 40 Try.f40).addX 40 fst
theorem Nst_ok:EnvOK Nst:=(NI34_ok.addI Try.call40 Try.func40).addX Try.call40 fst_ok
end Go.Proofs.Ytckpdliipjekgaa
end
section
namespace Go.Wa
open Go Go.Wk Go.Wl Go.Rx
theorem eq_ix {α:Type} [Inhabited α] {a b:List α} (hl:a.length=b.length) (h:∀ i:Int,0<=i->i<a.length->ix a i=ix b i):a=b:=by
 apply List.ext_getElem hl
 intro i h1 h2
 have:=h i (by omega) (by omega)
 rw [ix_get (by simpa using h1),ix_get (by simpa using h2)] at this
 simpa using this
def eqT (a b:Str):Bool:=decide (a=b)
def xorU (a b:Int):Int:=IntKind.u32.wrap ((BitVec.ofInt IntKind.u32.bits a ^^^ BitVec.ofInt IntKind.u32.bits b).toNat:Int)
def halfU (x:Int):Int:=x.fdiv (2 ^ min (Int.toNat 1) IntKind.u32.bits)
def bitU (x:Int):Int:=if IntKind.u32.wrap ((BitVec.ofInt IntKind.u32.bits x &&& BitVec.ofInt IntKind.u32.bits 1).toNat:Int)=1 then xorU (halfU x) 3988292384 else halfU x
def bitsU:Nat->Int->Int
 | 0,x=>x
 | k+1,x=>bitsU k (bitU x)
def byteU (x:Int) (c:UInt8):Int:=bitsU 8 (xorU x (c.toNat:Int))
def sumU:Int->Str->Int
 | x,[]=>x
 | x,c::r=>sumU (byteU x c) r
theorem sumU_app:∀ (a:Str) (x:Int) (b:Str),sumU x (a++b)=sumU (sumU x a) b
 | [],_,_=>rfl
 | c::r,x,b=>sumU_app r (byteU x c) b
def sumS (l:List Str):Int:=xorU (if IntKind.u32.signed=true then -1 else IntKind.u32.max) (sumU 4294967295 l.flatten)
theorem wrapU (n:Int):IntKind.u32.wrap n=n % 4294967296:=by
 rw [IntKind.wrap_u32]
theorem xorU_rg (a b:Int):0<=xorU a b/\xorU a b<4294967296:=by
 unfold xorU
 rw [wrapU]; omega
theorem sumS_rg (l:List Str):0<=sumS l/\sumS l<4294967296:=xorU_rg _ _
def SmL (l:List Str):Prop:=l.length<=1000000/\∀ s∈l,s.length<=1000000
theorem ix_memW {α:Type} [Inhabited α] {l:List α} {i:Int} (h0:0<=i) (h1:i<l.length):ix l i∈l:=by
 rw [ix_get (by omega)]; exact List.getElem_mem _
def rd32 (s:Str):Int:=IntKind.u32.wrap (leN s)
theorem rd_step (x:Int) (c:UInt8):IntKind.u32.wrap ((BitVec.ofInt IntKind.u32.bits (IntKind.u32.wrap (x * 2 ^ min (Int.toNat 8) IntKind.u32.bits)) ||| BitVec.ofInt IntKind.u32.bits (c.toNat:Int)).toNat:Int)=IntKind.u32.wrap (c.toNat+256 * x):=by
 have hc:c.toNat<256:=c.toNat_lt
 have e8:(2:Int) ^ min (Int.toNat 8) IntKind.u32.bits=256:=by decide
 rw [e8]
 show IntKind.u32.wrap ((BitVec.ofInt 32 (IntKind.u32.wrap (x * 256)) ||| BitVec.ofInt 32 (c.toNat:Int)).toNat:Int)=_
 have bv:∀ z:Int,((BitVec.ofInt 32 z).toNat:Int)=z % 4294967296:=fun z=>by rw [BitVec.toNat_ofInt]; omega
 rw [BitVec.toNat_or]
 have h1:=bv (IntKind.u32.wrap (x * 256))
 have h2:=bv (c.toNat:Int)
 generalize (BitVec.ofInt 32 (IntKind.u32.wrap (x * 256))).toNat=a at h1 ⊢
 generalize (BitVec.ofInt 32 (c.toNat:Int)).toNat=d at h2 ⊢
 rw [wrapU] at h1
 have hd:d=c.toNat:=by omega
 have ha:a % 256=0:=by omega
 have hq:a=2 ^ 8 * (a / 256):=by omega
 have hor:(a ||| d:Nat)=a+d:=by
  rw [hq,hd]
  exact (Nat.two_pow_add_eq_or_of_lt (by omega) _).symm
 rw [hor,wrapU,wrapU]
 omega
theorem rd_next {b:Str} {i:Int} (h0:0<=i) (h1:i<b.length):IntKind.u32.wrap ((ix b i).toNat+256 * rd32 (b.drop (i+1).toNat))=rd32 (b.drop i.toNat):=by
 rw [drop_ix h0 h1]
 unfold rd32
 rw [show leN (ix b i::b.drop (i+1).toNat)=(ix b i).toNat+256 * leN (b.drop (i+1).toNat) from rfl]
 generalize leN (b.drop (i+1).toNat)=L
 rw [wrapU,wrapU,wrapU]
 omega
def sizeU:Int->List Str->Int
 | x,[]=>x
 | x,r::t=>if 30000<(r.length:Int) then 0 else sizeU (x+(7+(r.length:Int))) t
abbrev sizeS (l:List Str):Int:=sizeU 0 l
end Go.Wa
end
section
namespace Go.Proofs.Ytckpdliipjekgaa
open Go Go.Wk Go.Wl Go.Rx Go.Wa 
def aneq:Nat->Ann:=fun | 53=>⟨26,fun | 4=>some ⟨[0,1,12],[.slot 13 (.int .i64)]⟩ | _=>none,fun _=>none⟩ | _=>⟨0,fun _=>none,fun _=>none⟩
def Veq (a:Str) (b:Str) (Q:Bool->Prop):Prop :=
((↑(List.length a):Int)≠(↑(List.length b):Int)->Q false)/\(¬(↑(List.length a):Int)≠(↑(List.length b):Int)->∃ (I:Int->Prop),∃ (m:Int->Nat),I (0:Int)/\∀ (x:Int),I x->(x<(↑(List.length a):Int)->(0:Int)<=x/\x<(↑(List.length a):Int)/\(0:Int)<=x/\x<(↑(List.length b):Int)/\(ix a x≠ix b x->Q false)/\(¬ix a x≠ix b x->in64 (x+1)/\I (x+1)/\m (x+1)<m x))/\(¬x<(↑(List.length a):Int)->Q true))
theorem Veq_ok {a:Str} {b:Str} {Q:Bool->Prop} (h:Veq a b Q):vcFun (E:=Nst) (inlHN Nst H1 aneq 2) (aneq 53) Try.f53 [.sl (N:=U) 5 a,.sl (N:=U) 5 b] [] [] 0 (resP Nst [.bool] Q):=Eq.mp (show Veq a b Q=vcFun (E:=Nst) (inlHN Nst H1 aneq 2) (aneq 53) Try.f53 [.sl (N:=U) 5 a,.sl (N:=U) 5 b] [] [] 0 (resP Nst [.bool] Q) by kernel_rfl) h
theorem peq (a:Str) (b:Str) (ha:a.length<=1000000):Veq a b (fun y0=>y0=eqT a b):=by
 unfold Veq eqT
 refine ⟨fun h=>(decide_eq_false (p:=(a:Str)=b) fun e=>h (by rw [e])).symm,fun h=>?_⟩
 have hl:a.length=b.length:=by omega
 refine ⟨fun i=>0<=i/\∀ j:Int,0<=j->j<i->ix a j=ix b j,fun i=>((a.length:Int)-i).toNat,⟨by omega,fun j h0 h1=>absurd h1 (by omega)⟩,?_⟩
 rintro i ⟨i0,hi⟩
 refine ⟨fun h1=>⟨i0,h1,i0,by omega,fun hn=>(decide_eq_false (p:=(a:Str)=b) fun e=>hn (by rw [e])).symm,fun he=>⟨⟨by omega,by omega⟩,⟨by omega,fun j j0 j1=>?_⟩,by dsimp only; omega⟩⟩,fun h1=>(decide_eq_true (p:=(a:Str)=b) (eq_ix hl fun j j0 j1=>hi j j0 (by omega))).symm⟩
 by_cases e:j=i
 . subst e; exact Classical.not_not.1 he
 . exact hi j j0 (by omega)
def ceq (a:List (SV U)):Option (Q1 U):=match a with | [.sl 5 a,.sl 5 b]=>some ⟨[List.length (α:=UInt8) a<=1000000],[],blB (eqT a b)⟩ | _=>none
theorem ceq_ok (args:List (SV U)) (q:Q1 U) (h:ceq args=some q) (ho:allP q.ob):LendOK Nst 53 args ⟨q.ob,q.hy,q.v,[]⟩:=by
 unfold ceq at h
 split at h
 . rename_i a b
   cases h
   exact lend1 Nst_ok (inlHN_ok Nst_ok H1_ok aneq 2) Try.func53 (k:=.bool) (x:=eqT a b) trivial (Veq_ok (peq a b ho.1)) 0
 . cases h
noncomputable def Neq:Env:=Nst.addL 53 ceq
theorem Neq_ok:EnvOK Neq:=Nst_ok.addL Try.call53 ceq_ok
def annum:Nat->Ann:=fun | 45=>⟨25,fun | 3=>some ⟨[0,5,10],[.cont 5 5,.slot 11 (.int .i64)]⟩ | _=>none,fun _=>none⟩ | _=>⟨0,fun _=>none,fun _=>none⟩
def Vnum (x:Int) (n:Int) (Q:Str->Prop):Prop :=
(0:Int)<=n/\n=n/\(↑((some (1:Nat)).getD (0:Nat)):Int) * n<=140737488355328/\∃ (I:List UInt8->Int->Prop),∃ (m:List UInt8->Int->Nat),I (List.replicate n.toNat (0:UInt8)) (0:Int)/\∀ (x_1:List UInt8) (x_2:Int),I x_1 x_2->(x_2<(↑(List.replicate n.toNat (0:UInt8)).length:Int)->in64 ((8:Int) * x_2)/\(0:Int)<=(8:Int) * x_2/\(0:Int)<=x_2/\x_2<(↑x_1.length:Int)/\in64 (x_2+1)/\I (x_1.set x_2.toNat (UInt8.ofInt (x.fdiv ((2:Int) ^ min ((8:Int) * x_2).toNat IntKind.u32.bits)))) (x_2+1)/\m (x_1.set x_2.toNat (UInt8.ofInt (x.fdiv ((2:Int) ^ min ((8:Int) * x_2).toNat IntKind.u32.bits)))) (x_2+1)<m x_1 x_2)/\(¬x_2<(↑(List.replicate n.toNat (0:UInt8)).length:Int)->Q x_1)
theorem Vnum_ok {x:Int} {n:Int} {Q:Str->Prop} (h:Vnum x n Q):vcFun (E:=Neq) (inlHN Neq H1 annum 2) (annum 45) Try.f45 [.int .u32 x,.int .i64 n] [] [] 0 (resP Neq [.str] Q):=Eq.mp (show Vnum x n Q=vcFun (E:=Neq) (inlHN Neq H1 annum 2) (annum 45) Try.f45 [.int .u32 x,.int .i64 n] [] [] 0 (resP Neq [.str] Q) by kernel_rfl) h
theorem pnum (x:Int) (n:Int) (h0:0<=n) (h4:n<=4):Vnum x n (fun y0=>y0=leB x n.toNat):=by
 unfold Vnum
 have hz:(List.replicate n.toNat 0:Str).length=n.toNat:=List.length_replicate
 refine ⟨h0,rfl,by show (1:Int) * n<=_; omega,fun y i=>0<=i/\i<=n/\y=putI (List.replicate n.toNat 0) 0 n.toNat x i,fun _ i=>(n-i).toNat,⟨by omega,by omega,(put_0 _ _ _ _).symm⟩,?_⟩
 rintro y i ⟨i0,i1,hy⟩
 have hyl:y.length=n.toNat:=by rw [hy,put_len i0 (by omega) (by rw [hz]; omega),hz]
 refine ⟨fun h=>?_,fun h=>?_⟩
 . have h:i<n:=by rw [hz] at h; omega
   exact ⟨⟨by omega,by omega⟩,by omega,i0,by omega,⟨by omega,by omega⟩,⟨by omega,by omega,by rw [hy,shr32 i0 (by omega)]; exact put_step i0 (by omega) (by rw [hz]; omega) (by omega)⟩,by dsimp only; omega⟩
 have h:¬ i<n:=by rw [hz] at h; omega
 rw [put_n _ _ _ _ _ (by omega)] at hy
 rw [hy]
 unfold putS
 rw [List.take_zero,List.nil_append,Nat.zero_add,List.drop_of_length_le (by rw [hz]; exact Nat.le_refl _),List.append_nil]
def cnum (a:List (SV U)):Option (Q1 U):=match a with | [.int .u32 x,.int .i64 n]=>some ⟨[0<=n,n<=4],[],.str (leB x n.toNat)⟩ | _=>none
theorem cnum_ok (args:List (SV U)) (q:Q1 U) (h:cnum args=some q) (ho:allP q.ob):LendOK Neq 45 args ⟨q.ob,q.hy,q.v,[]⟩:=by
 unfold cnum at h
 split at h
 . rename_i x n
   cases h
   exact lend1 Neq_ok (inlHN_ok Neq_ok H1_ok annum 2) Try.func45 (k:=.str) (x:=leB x n.toNat) trivial (Vnum_ok (pnum x n ho.1 ho.2.1)) 0
 . cases h
noncomputable def Nnum:Env:=Neq.addL 45 cnum
theorem Nnum_ok:EnvOK Nnum:=Neq_ok.addL Try.call45 cnum_ok
def anrd:Nat->Ann:=fun | 60=>⟨20,fun | 3=>some ⟨[0],[.slot 3 (.int .u32),.slot 4 (.int .i64)]⟩ | _=>none,fun _=>none⟩ | _=>⟨0,fun _=>none,fun _=>none⟩
def Vrd (s:Str) (Q:Int->Prop):Prop :=
in64 ((↑(List.length s):Int)-1)/\∃ (I:Int->Int->Prop),∃ (m:Int->Int->Nat),I (0:Int) ((↑(List.length s):Int)-1)/\∀ (x x_1:Int),I x x_1->((0:Int)<=x_1->(0:Int)<=8/\(0:Int)<=x_1/\x_1<(↑(List.length s):Int)/\in64 (x_1-1)/\I (IntKind.u32.wrap (↑(BitVec.ofInt IntKind.u32.bits (IntKind.u32.wrap (x * 2 ^ min (Int.toNat (8:Int)) IntKind.u32.bits)) ||| BitVec.ofInt IntKind.u32.bits (↑(ix s x_1).toNat:Int)).toNat:Int)) (x_1-1)/\m (IntKind.u32.wrap (↑(BitVec.ofInt IntKind.u32.bits (IntKind.u32.wrap (x * 2 ^ min (Int.toNat (8:Int)) IntKind.u32.bits)) ||| BitVec.ofInt IntKind.u32.bits (↑(ix s x_1).toNat:Int)).toNat:Int)) (x_1-1)<m x x_1)/\(¬(0:Int)<=x_1->Q x)
theorem Vrd_ok {s:Str} {Q:Int->Prop} (h:Vrd s Q):vcFun (E:=Nnum) (inlHN Nnum H1 anrd 2) (anrd 60) Try.f60 [.str s] [] [] 0 (resP Nnum [.int .u32] Q):=Eq.mp (show Vrd s Q=vcFun (E:=Nnum) (inlHN Nnum H1 anrd 2) (anrd 60) Try.f60 [.str s] [] [] 0 (resP Nnum [.int .u32] Q) by kernel_rfl) h
theorem prd (s:Str) (hs:s.length<=1000000):Vrd s (fun y0=>y0=rd32 s):=by
 unfold Vrd
 refine ⟨⟨by omega,by omega⟩,fun x i=>-1<=i/\i<s.length/\x=rd32 (s.drop (i+1).toNat),fun _ i=>(i+1).toNat,⟨by omega,by omega,?_⟩,?_⟩
 . rw [List.drop_of_length_le (by omega)]; rfl
 rintro x i ⟨i0,i1,hx⟩
 refine ⟨fun h=>⟨by decide,h,by omega,⟨by omega,by omega⟩,⟨by omega,by omega,?_⟩,by dsimp only; omega⟩,fun h=>?_⟩
 . rw [rd_step,hx,rd_next h i1]
   congr 2
   omega
 . rw [hx,show (i+1).toNat=0 by omega]; rfl
def crd (a:List (SV U)):Option (Q1 U):=match a with | [.str s]=>some ⟨[List.length (α:=UInt8) s<=1000000],[],.int .u32 (rd32 s)⟩ | _=>none
theorem crd_ok (args:List (SV U)) (q:Q1 U) (h:crd args=some q) (ho:allP q.ob):LendOK Nnum 60 args ⟨q.ob,q.hy,q.v,[]⟩:=by
 unfold crd at h
 split at h
 . rename_i s
   cases h
   exact lend1 Nnum_ok (inlHN_ok Nnum_ok H1_ok anrd 2) Try.func60 (k:=.int .u32) (x:=rd32 s) trivial (Vrd_ok (prd s ho.1)) 0
 . cases h
noncomputable def Nrd:Env:=Nnum.addL 60 crd
theorem Nrd_ok:EnvOK Nrd:=Nnum_ok.addL Try.call60 crd_ok
def ansum:Nat->Ann:=fun | 46=>⟨40,fun | 3=>some ⟨[8,9],[.slot 3 (.int .u32),.slot 10 (.int .i64)]⟩ | 6=>some ⟨[5,8,9,10,15],[.slot 3 (.int .u32),.slot 16 (.int .i64)]⟩ | 10=>some ⟨[5,8,9,10,15,16],[.slot 3 (.int .u32),.slot 25 (.int .i64)]⟩ | _=>none,fun _=>none⟩ | _=>⟨0,fun _=>none,fun _=>none⟩
def Vsum (l:List Str) (Q:Int->Prop):Prop :=
∃ (I:Int->Int->Prop),∃ (m:Int->Int->Nat),I (4294967295:Int) (0:Int)/\∀ (x x_1:Int),I x x_1->(x_1<(↑l.length:Int)->(0:Int)<=x_1/\x_1<(↑l.length:Int)/\∃ (I_1:Int->Int->Prop),∃ (m_1:Int->Int->Nat),I_1 x (0:Int)/\∀ (x_2 x_3:Int),I_1 x_2 x_3->(x_3<(↑(ix l x_1).length:Int)->(0:Int)<=x_3/\x_3<(↑(ix l x_1).length:Int)/\∃ (I:Int->Int->Prop),∃ (m:Int->Int->Nat),I (IntKind.u32.wrap (↑(BitVec.ofInt IntKind.u32.bits x_2 ^^^ BitVec.ofInt IntKind.u32.bits (↑(ix (ix l x_1) x_3).toNat:Int)).toNat:Int)) (0:Int)/\∀ (x x_4:Int),I x x_4->(x_4<8->(0:Int)<=1/\(IntKind.u32.wrap (↑(BitVec.ofInt IntKind.u32.bits x &&& BitVec.ofInt IntKind.u32.bits (1:Int)).toNat:Int)=1->in64 (x_4+1)/\I (IntKind.u32.wrap (↑(BitVec.ofInt IntKind.u32.bits (x.fdiv ((2:Int) ^ min (Int.toNat (1:Int)) IntKind.u32.bits)) ^^^ BitVec.ofInt IntKind.u32.bits (3988292384:Int)).toNat:Int)) (x_4+1)/\m (IntKind.u32.wrap (↑(BitVec.ofInt IntKind.u32.bits (x.fdiv ((2:Int) ^ min (Int.toNat (1:Int)) IntKind.u32.bits)) ^^^ BitVec.ofInt IntKind.u32.bits (3988292384:Int)).toNat:Int)) (x_4+1)<m x x_4)/\(¬IntKind.u32.wrap (↑(BitVec.ofInt IntKind.u32.bits x &&& BitVec.ofInt IntKind.u32.bits (1:Int)).toNat:Int)=1->in64 (x_4+1)/\I (x.fdiv ((2:Int) ^ min (Int.toNat (1:Int)) IntKind.u32.bits)) (x_4+1)/\m (x.fdiv ((2:Int) ^ min (Int.toNat (1:Int)) IntKind.u32.bits)) (x_4+1)<m x x_4))/\(¬x_4<8->in64 (x_3+1)/\I_1 x (x_3+1)/\m_1 x (x_3+1)<m_1 x_2 x_3))/\(¬x_3<(↑(ix l x_1).length:Int)->in64 (x_1+1)/\I x_2 (x_1+1)/\m x_2 (x_1+1)<m x x_1))/\(¬x_1<(↑l.length:Int)->Q (IntKind.u32.wrap (↑(BitVec.ofInt IntKind.u32.bits (if IntKind.u32.signed=true then (-1:Int) else IntKind.u32.max) ^^^ BitVec.ofInt IntKind.u32.bits x).toNat:Int)))
theorem Vsum_ok {l:List Str} {Q:Int->Prop} (h:Vsum l Q):vcFun (E:=Nrd) (inlHN Nrd H1 ansum 2) (ansum 46) Try.f46 [.sl (N:=U) 9 l] [] [] 0 (resP Nrd [.int .u32] Q):=Eq.mp (show Vsum l Q=vcFun (E:=Nrd) (inlHN Nrd H1 ansum 2) (ansum 46) Try.f46 [.sl (N:=U) 9 l] [] [] 0 (resP Nrd [.int .u32] Q) by kernel_rfl) h
theorem psum (l:List Str) (hl:SmL l):Vsum l (fun y0=>y0=sumS l):=by
 unfold Vsum
 obtain ⟨hl0,hl1⟩:=hl
 refine ⟨fun x i=>0<=i/\i<=l.length/\sumU x (l.drop i.toNat).flatten=sumU 4294967295 l.flatten,fun _ i=>((l.length:Int)-i).toNat,⟨by omega,by omega,rfl⟩,?_⟩
 rintro x i ⟨i0,i1,hx⟩
 refine ⟨fun h=>?_,fun h=>?_⟩
 . have hp:=hl1 _ (ix_memW i0 h)
   rw [drop_ix i0 h,List.flatten_cons,sumU_app] at hx
   generalize ix l i=p at hp hx ⊢
   refine ⟨i0,h,fun y j=>0<=j/\j<=p.length/\sumU y (p.drop j.toNat)=sumU x p,fun _ j=>((p.length:Int)-j).toNat,⟨by omega,by omega,rfl⟩,?_⟩
   rintro y j ⟨j0,j1,hy⟩
   refine ⟨fun h2=>?_,fun h2=>?_⟩
   . rw [drop_ix j0 h2,sumU] at hy
     refine ⟨j0,h2,fun z k=>0<=k/\k<=8/\bitsU (8-k).toNat z=byteU y (ix p j),fun _ k=>(8-k).toNat,⟨by omega,by omega,rfl⟩,?_⟩
     rintro z k ⟨k0,k1,hz⟩
     refine ⟨fun h3=>?_,fun h3=>?_⟩
     . rw [show (8-k).toNat=(8-(k+1)).toNat+1 by omega,bitsU] at hz
       refine ⟨by decide,fun hb=>⟨⟨by omega,by omega⟩,⟨by omega,by omega,?_⟩,by dsimp only; omega⟩,fun hb=>⟨⟨by omega,by omega⟩,⟨by omega,by omega,?_⟩,by dsimp only; omega⟩⟩
       . rw [<- hz,bitU,if_pos hb]; rfl
       . rw [<- hz,bitU,if_neg hb]; rfl
     . rw [show (8-k).toNat=0 by omega,bitsU] at hz
       exact ⟨⟨by omega,by omega⟩,⟨by omega,by omega,by rw [hz]; exact hy⟩,by dsimp only; omega⟩
   . rw [List.drop_of_length_le (by omega),sumU] at hy
     exact ⟨⟨by omega,by omega⟩,⟨by omega,by omega,by rw [hy]; exact hx⟩,by dsimp only; omega⟩
 . rw [List.drop_of_length_le (by omega)] at hx
   have hx:x=sumU 4294967295 l.flatten:=hx
   rw [hx]; rfl
def csum (a:List (SV U)):Option (Q1 U):=match a with | [.sl 9 l]=>some ⟨[SmL l],[],.int .u32 (sumS l)⟩ | _=>none
theorem csum_ok (args:List (SV U)) (q:Q1 U) (h:csum args=some q) (ho:allP q.ob):LendOK Nrd 46 args ⟨q.ob,q.hy,q.v,[]⟩:=by
 unfold csum at h
 split at h
 . rename_i l
   cases h
   exact lend1 Nrd_ok (inlHN_ok Nrd_ok H1_ok ansum 2) Try.func46 (k:=.int .u32) (x:=sumS l) trivial (Vsum_ok (psum l ho.1)) 0
 . cases h
noncomputable def Nsum:Env:=Nrd.addL 46 csum
theorem Nsum_ok:EnvOK Nsum:=Nrd_ok.addL Try.call46 csum_ok
def ansize:Nat->Ann:=fun | 27=>⟨22,fun | 3=>some ⟨[6,7],[.slot 3 (.int .i64),.slot 8 (.int .i64)]⟩ | _=>none,fun _=>none⟩ | _=>⟨0,fun _=>none,fun _=>none⟩
def Vsize (l:List Str) (Q:Int->Prop):Prop :=
∃ (I:Int->Int->Prop),∃ (m:Int->Int->Nat),I (0:Int) (0:Int)/\∀ (x x_1:Int),I x x_1->(x_1<(↑l.length:Int)->(0:Int)<=x_1/\x_1<(↑l.length:Int)/\((30000:Int)<(↑(ix l x_1).length:Int)->Q (0:Int))/\(¬(30000:Int)<(↑(ix l x_1).length:Int)->in64 ((7:Int)+(↑(ix l x_1).length:Int))/\in64 (x+((7:Int)+(↑(ix l x_1).length:Int)))/\in64 (x_1+1)/\I (x+((7:Int)+(↑(ix l x_1).length:Int))) (x_1+1)/\m (x+((7:Int)+(↑(ix l x_1).length:Int))) (x_1+1)<m x x_1))/\(¬x_1<(↑l.length:Int)->Q x)
theorem Vsize_ok {l:List Str} {Q:Int->Prop} (h:Vsize l Q):vcFun (E:=Nsum) (inlHN Nsum H1 ansize 2) (ansize 27) Try.f27 [.sl (N:=U) 9 l] [] [] 0 (resP Nsum [.int .i64] Q):=Eq.mp (show Vsize l Q=vcFun (E:=Nsum) (inlHN Nsum H1 ansize 2) (ansize 27) Try.f27 [.sl (N:=U) 9 l] [] [] 0 (resP Nsum [.int .i64] Q) by kernel_rfl) h
theorem psize (l:List Str) (hl:SmL l):Vsize l (fun y0=>y0=sizeS l):=by
 unfold Vsize
 obtain ⟨hl0,hl1⟩:=hl
 refine ⟨fun x i=>0<=i/\i<=l.length/\0<=x/\x<=1000007 * i/\sizeU x (l.drop i.toNat)=sizeS l,fun _ i=>((l.length:Int)-i).toNat,⟨by omega,by omega,by omega,by omega,rfl⟩,?_⟩
 rintro x i ⟨i0,i1,x0,x1,hx⟩
 refine ⟨fun h=>?_,fun h=>?_⟩
 . have hp:=hl1 _ (ix_memW i0 h)
   rw [drop_ix i0 h,sizeU] at hx
   generalize ix l i=p at hp hx ⊢
   refine ⟨i0,h,fun hb=>?_,fun hb=>?_⟩
   . rw [if_pos hb] at hx; exact hx
   . rw [if_neg hb] at hx
     exact ⟨⟨by omega,by omega⟩,⟨by omega,by omega⟩,⟨by omega,by omega⟩,⟨by omega,by omega,by omega,by omega,hx⟩,by dsimp only; omega⟩
 . rw [List.drop_of_length_le (by omega),sizeU] at hx
   exact hx
def csize (a:List (SV U)):Option (Q1 U):=match a with | [.sl 9 l]=>some ⟨[SmL l],[],.int .i64 (sizeS l)⟩ | _=>none
theorem csize_ok (args:List (SV U)) (q:Q1 U) (h:csize args=some q) (ho:allP q.ob):LendOK Nsum 27 args ⟨q.ob,q.hy,q.v,[]⟩:=by
 unfold csize at h
 split at h
 . rename_i l
   cases h
   exact lend1 Nsum_ok (inlHN_ok Nsum_ok H1_ok ansize 2) Try.func27 (k:=.int .i64) (x:=sizeS l) trivial (Vsize_ok (psize l ho.1)) 0
 . cases h
noncomputable def Nsize:Env:=Nsum.addL 27 csize
theorem Nsize_ok:EnvOK Nsize:=Nsum_ok.addL Try.call27 csize_ok
end Go.Proofs.Ytckpdliipjekgaa
end
section
namespace Go.Proofs.Ytckpdliipjekgaa
open Go Go.Wk Go.Wl Go.Rx Go.Wa Go.Wa
theorem leN_t3 (s:Str):0<=leN (s.take 3)/\leN (s.take 3)<16777216:=by
 refine ⟨leN_nn _,?_⟩
 have h:=leN_lt (s.take 3)
 have hl:(s.take 3).length<=3:=by rw [List.length_take]; omega
 generalize (s.take 3).length=k at h hl
 match k,hl with
 | 0,_=>have h:leN (s.take 3)<1:=h; omega
 | 1,_=>have h:leN (s.take 3)<256:=h; omega
 | 2,_=>have h:leN (s.take 3)<65536:=h; omega
 | 3,_=>have h:leN (s.take 3)<16777216:=h; omega
def oneL (s:Str):Int:=leN (s.take 3)-1
theorem oneL_at (s:Str):IntKind.i64.wrap (rd32 (s.take (Int.toNat 3)))-1=oneL s:=by
 obtain ⟨h0,h1⟩:=leN_t3 s
 show IntKind.i64.wrap (IntKind.u32.wrap (leN (s.take 3)))-1=leN (s.take 3)-1
 rw [wrapU,wrap_at]
 omega
def oneS (s:Str):Str×Str×Err :=
 if (s.length:Int)<7 then ([],[],.w 115 [] (.no 4)) else
 if oneL s<0 ∨ 30000<oneL s then ([],[],.w 115 [] (.no 11)) else
 if (s.length:Int)-7<oneL s then ([],[],.w 115 [] (.no 4)) else
 if sumS [s.take 3,(s.take (7+oneL s).toNat).drop 7]≠rd32 ((s.take 7).drop 3) then ([],[],.w 115 [] (.no 11)) else
 ((s.take (7+oneL s).toNat).drop 7,s.drop (7+oneL s).toNat,.nil)
def longS (r:Str):Str:=leB ((r.length:Int)+1) 3
def frameS (r:Str):Str:=longS r++leB (sumS [longS r,r]) 4++r
theorem frame_len (r:Str):(frameS r).length=7+r.length:=by
 unfold frameS longS
 simp only [List.length_append,leB_len]
def packU:Str->List Str->Str×Err
 | x,[]=>(x,.nil)
 | x,r::t=>if 30000<(r.length:Int) then ([],.no 4) else packU (x++frameS r) t
abbrev packE (l:List Str):Str×Err:=packU [] l
def ShL (l:List Str):Prop:=∀ r∈l,r.length<=30000
instance (l:List Str):Decidable (ShL l):=inferInstanceAs (Decidable (∀ r∈l,r.length<=30000))
def framesS (l:List Str):Str:=(l.map frameS).flatten
theorem frames_app (a b:List Str):framesS (a++b)=framesS a++framesS b:=by
 unfold framesS; rw [List.map_append,List.flatten_append]
theorem packU_eq:∀ (l:List Str) (x:Str),packU x l=if ShL l then (x++framesS l,.nil) else ([],.no 4)
 | [],x=>by
  rw [if_pos (show ShL [] from fun _ h=>absurd h (List.not_mem_nil))]
  show (x,Err.nil)=(x++[],Err.nil)
  rw [List.append_nil]
 | r::t,x=>by
  unfold packU
  by_cases h:30000<(r.length:Int)
  . rw [if_pos h,if_neg fun hs=>absurd (hs r (List.mem_cons_self ..)) (by omega)]
  . rw [if_neg h,packU_eq t]
    by_cases ht:ShL t
    . rw [if_pos ht,if_pos (show ShL (r::t) from fun s hs=>by
        rcases List.mem_cons.1 hs with e | hs
        . subst e; omega
        . exact ht s hs),List.append_assoc]
      rfl
    . rw [if_neg ht,if_neg fun hs=>ht fun s h'=>hs s (List.mem_cons_of_mem _ h')]
theorem pack_eq (l:List Str):packE l=if ShL l then (framesS l,.nil) else ([],.no 4):=packU_eq l []
theorem pack_bare (l:List Str):(packE l).2=.nil ∨ ∃ n,(packE l).2=.no n:=by
 rw [pack_eq]
 split
 . exact .inl rfl
 . exact .inr ⟨_,rfl⟩
theorem sizeU_eq:∀ (l:List Str) (x:Int),ShL l->sizeU x l=x+((framesS l).length:Int)
 | [],x,_=>by show x=x+((([]:Str).length:Nat):Int); rw [List.length_nil]; omega
 | r::t,x,h=>by
  have hr:=h r (List.mem_cons_self ..)
  unfold sizeU
  rw [if_neg (by omega),sizeU_eq t _ fun s hs=>h s (List.mem_cons_of_mem _ hs)]
  have e:framesS (r::t)=frameS r++framesS t:=by unfold framesS; rw [List.map_cons,List.flatten_cons]
  rw [e,List.length_append,frame_len]; omega
theorem size_frames {l:List Str} (h:ShL l):sizeS l=((framesS l).length:Int):=by rw [sizeS,sizeU_eq l 0 h]; omega
theorem longU {r:Str} (h:r.length<=30000):leB (IntKind.u32.wrap ((r.length:Int)+1)) (Int.toNat 3)=longS r:=by
 rw [wrapU,Int.emod_eq_of_lt (by omega) (by omega)]; rfl
theorem long_len (r:Str):(longS r).length=3:=leB_len _ _
theorem smL2 {a b:Str} (ha:a.length<=1000000) (hb:b.length<=1000000):SmL [a,b]:=by
 refine ⟨by rw [List.length_cons,List.length_cons,List.length_nil]; decide,fun s hs=>?_⟩
 rcases List.mem_cons.1 hs with e | hs
 . subst e; exact ha
 . rcases List.mem_cons.1 hs with e | hs
   . subst e; exact hb
   . exact absurd hs List.not_mem_nil
theorem oneS_lt {s:Str} (h:(oneS s).2.2=.nil):(oneS s).2.1.length+7<=s.length/\(oneS s).1.length<=30000/\s.length=7+(oneS s).1.length+(oneS s).2.1.length:=by
 unfold oneS at h ⊢
 by_cases h1:(s.length:Int)<7
 . rw [if_pos h1] at h; simp at h
 rw [if_neg h1] at h ⊢
 by_cases h2:oneL s<0 ∨ 30000<oneL s
 . rw [if_pos h2] at h; simp at h
 rw [if_neg h2] at h ⊢
 by_cases h3:(s.length:Int)-7<oneL s
 . rw [if_pos h3] at h; simp at h
 rw [if_neg h3] at h ⊢
 split at h
 . simp at h
 . rename_i h4
   rw [if_neg h4]
   simp only [List.length_drop,List.length_take]
   omega
def scanL (s:Str):List Str:=if _:(oneS s).2.2=.nil then (oneS s).1::scanL (oneS s).2.1 else []
termination_by s.length
decreasing_by have:=(oneS_lt ‹_›).1; omega
def scanR (s:Str):Str:=if _:(oneS s).2.2=.nil then scanR (oneS s).2.1 else s
termination_by s.length
decreasing_by have:=(oneS_lt ‹_›).1; omega
theorem scanL_pos {s:Str} (h:(oneS s).2.2=.nil):scanL s=(oneS s).1::scanL (oneS s).2.1:=by rw [scanL,dif_pos h]
theorem scanL_neg {s:Str} (h:(oneS s).2.2≠.nil):scanL s=[]:=by rw [scanL,dif_neg h]
theorem scanR_pos {s:Str} (h:(oneS s).2.2=.nil):scanR s=scanR (oneS s).2.1:=by rw [scanR,dif_pos h]
theorem scanR_neg {s:Str} (h:(oneS s).2.2≠.nil):scanR s=s:=by rw [scanR,dif_neg h]
theorem oneS_err (s:Str):(oneS s).2.2=.nil ∨ (oneS s).2.2=.w 115 [] (.no 4) ∨ (oneS s).2.2=.w 115 [] (.no 11):=by
 unfold oneS
 split
 . exact .inr (.inl rfl)
 split
 . exact .inr (.inr rfl)
 split
 . exact .inr (.inl rfl)
 split
 . exact .inr (.inr rfl)
 . exact .inl rfl
theorem oneS_is (s:Str):(Err.is (oneS s).2.2 11 ∨ Err.is (oneS s).2.2 4)↔(oneS s).2.2≠.nil:=by
 rcases oneS_err s with h | h | h <;> rw [h] <;> simp [Err.is,Err.num]
end Go.Proofs.Ytckpdliipjekgaa
end
section
namespace Go.Proofs.Ytckpdliipjekgaa
open Go Go.Wk Go.Wl Go.Rx Go.Wa 
def anone:Nat->Ann:=fun | 55=>⟨58,fun _=>none,fun _=>none⟩ | _=>⟨0,fun _=>none,fun _=>none⟩
def Vone (s:Str) (Q:Str->Str->Err->Prop):Prop :=
((↑(List.length s):Int)<7->Q [] [] (Err.w (115:Nat) [] (Err.no (4:Int))))/\(¬(↑(List.length s):Int)<7->(0:Int)<=3/\(3:Int)<=(↑(List.length s):Int)/\(List.take (Int.toNat (3:Int)) s).length<=1000000/\in64 (IntKind.i64.wrap (rd32 (List.take (Int.toNat (3:Int)) s))-1)/\(IntKind.i64.wrap (rd32 (List.take (Int.toNat (3:Int)) s))-1<0 ∨ (30000:Int)<IntKind.i64.wrap (rd32 (List.take (Int.toNat (3:Int)) s))-1->Q [] [] (Err.w (115:Nat) [] (Err.no (11:Int))))/\(¬(IntKind.i64.wrap (rd32 (List.take (Int.toNat (3:Int)) s))-1<0 ∨ (30000:Int)<IntKind.i64.wrap (rd32 (List.take (Int.toNat (3:Int)) s))-1)->in64 ((↑(List.length s):Int)-7)/\((↑(List.length s):Int)-7<IntKind.i64.wrap (rd32 (List.take (Int.toNat (3:Int)) s))-1->Q [] [] (Err.w (115:Nat) [] (Err.no (4:Int))))/\(¬(↑(List.length s):Int)-7<IntKind.i64.wrap (rd32 (List.take (Int.toNat (3:Int)) s))-1->in64 ((7:Int)+(IntKind.i64.wrap (rd32 (List.take (Int.toNat (3:Int)) s))-1))/\(0:Int)<=7/\(7:Int)<=(7:Int)+(IntKind.i64.wrap (rd32 (List.take (Int.toNat (3:Int)) s))-1)/\(7:Int)+(IntKind.i64.wrap (rd32 (List.take (Int.toNat (3:Int)) s))-1)<=(↑(List.length s):Int)/\((0:Int)<=3/\(3:Int)<=(↑(List.length s):Int))/\SmL [List.take (Int.toNat (3:Int)) s,List.drop (Int.toNat (7:Int)) (List.take ((7:Int)+(IntKind.i64.wrap (rd32 (List.take (Int.toNat (3:Int)) s))-1)).toNat s)]/\((0:Int)<=3/\(3:Int)<=7/\(7:Int)<=(↑(List.length s):Int))/\(List.drop (Int.toNat (3:Int)) (List.take (Int.toNat (7:Int)) s)).length<=1000000/\(sumS [List.take (Int.toNat (3:Int)) s,List.drop (Int.toNat (7:Int)) (List.take ((7:Int)+(IntKind.i64.wrap (rd32 (List.take (Int.toNat (3:Int)) s))-1)).toNat s)]≠rd32 (List.drop (Int.toNat (3:Int)) (List.take (Int.toNat (7:Int)) s))->Q [] [] (Err.w (115:Nat) [] (Err.no (11:Int))))/\(¬sumS [List.take (Int.toNat (3:Int)) s,List.drop (Int.toNat (7:Int)) (List.take ((7:Int)+(IntKind.i64.wrap (rd32 (List.take (Int.toNat (3:Int)) s))-1)).toNat s)]≠rd32 (List.drop (Int.toNat (3:Int)) (List.take (Int.toNat (7:Int)) s))->in64 ((7:Int)+(IntKind.i64.wrap (rd32 (List.take (Int.toNat (3:Int)) s))-1))/\(0:Int)<=(7:Int)+(IntKind.i64.wrap (rd32 (List.take (Int.toNat (3:Int)) s))-1)/\(7:Int)+(IntKind.i64.wrap (rd32 (List.take (Int.toNat (3:Int)) s))-1)<=(↑(List.length s):Int)/\Q (List.drop (Int.toNat (7:Int)) (List.take ((7:Int)+(IntKind.i64.wrap (rd32 (List.take (Int.toNat (3:Int)) s))-1)).toNat s)) (List.drop ((7:Int)+(IntKind.i64.wrap (rd32 (List.take (Int.toNat (3:Int)) s))-1)).toNat s) Err.nil))))
theorem Vone_ok {s:Str} {Q:Str->Str->Err->Prop} (h:Vone s Q):vcFun (E:=Nsize) (inlHN Nsize H1 anone 2) (anone 55) Try.f55 [.str s] [] [] 0 (resP Nsize [.str,.str,.err] Q):=Eq.mp (show Vone s Q=vcFun (E:=Nsize) (inlHN Nsize H1 anone 2) (anone 55) Try.f55 [.str s] [] [] 0 (resP Nsize [.str,.str,.err] Q) by kernel_rfl) h
theorem pone (s:Str) (hs:s.length<=100000000):Vone s (fun y0 y1 y2=>y0=(oneS s).1/\y1=(oneS s).2.1/\y2=(oneS s).2.2):=by
 unfold Vone oneS
 rw [oneL_at]
 have e3:Int.toNat 3=3:=rfl
 have e7:Int.toNat 7=7:=rfl
 refine ⟨fun h=>?_,fun h=>?_⟩
 . rw [if_pos h]; exact ⟨rfl,rfl,rfl⟩
 rw [if_neg h]
 obtain ⟨t0,t1⟩:=leN_t3 s
 have hL:oneL s=leN (s.take 3)-1:=rfl
 refine ⟨by decide,by omega,by rw [List.length_take]; omega,⟨by omega,by omega⟩,fun h2=>?_,fun h2=>?_⟩
 . rw [if_pos h2]; exact ⟨rfl,rfl,rfl⟩
 rw [if_neg h2]
 refine ⟨⟨by omega,by omega⟩,fun h3=>?_,fun h3=>?_⟩
 . rw [if_pos h3]; exact ⟨rfl,rfl,rfl⟩
 rw [if_neg h3]
 refine ⟨⟨by omega,by omega⟩,by decide,by omega,by omega,⟨by decide,by omega⟩,smL2 (by rw [List.length_take]; omega) (by rw [List.length_drop,List.length_take]; omega),⟨by decide,by decide,by omega⟩,by rw [List.length_drop,List.length_take]; omega,fun h4=>?_,fun h4=>?_⟩
 . have h4:sumS [s.take 3,(s.take (7+oneL s).toNat).drop 7]≠rd32 ((s.take 7).drop 3):=h4
   rw [if_pos h4]; exact ⟨rfl,rfl,rfl⟩
 have h4:¬ sumS [s.take 3,(s.take (7+oneL s).toNat).drop 7]≠rd32 ((s.take 7).drop 3):=h4
 rw [if_neg h4]
 exact ⟨⟨by omega,by omega⟩,by omega,by omega,rfl,rfl,rfl⟩
def cone (a:List (SV U)) (nx:Nat):Option (CR U):=match a with | [.str s]=>some ⟨[List.length (α:=UInt8) s<=100000000],[],.tup [.str ((oneS s).1),.str ((oneS s).2.1),.err ((oneS s).2.2)],[]⟩ | _=>none
theorem cone_ok (args:List (SV U)) (nx:Nat) (c:CR U) (h:cone args nx=some c) (hp:args.all pureS=true) (ho:allP c.ob):ConOK Nsize.P Nsize.N Nsize.T Nsize.G 55 args nx c:=by
 unfold cone at h
 split at h
 . rename_i s
   cases h
   exact con3 Nsize_ok (inlHN_ok Nsize_ok H1_ok anone 2) Try.func55 (k1:=.str) (k2:=.str) (k3:=.err) (x1:=(oneS s).1) (x2:=(oneS s).2.1) (x3:=(oneS s).2.2) rfl rfl hp (Vone_ok (pone s ho.1))
 . cases h
noncomputable def None:Env:=Nsize.addC 55 cone
theorem None_ok:EnvOK None:=Nsize_ok.addC Try.call55 cone_ok
def anpack:Nat->Ann:=fun | 29=>⟨39,fun | 3=>some ⟨[8,9],[.slot 4 (.acc 5),.slot 10 (.int .i64)]⟩ | _=>none,fun _=>none⟩ | _=>⟨0,fun _=>none,fun _=>none⟩
def Vpack (l:List Str) (Q:Str->Err->Prop):Prop :=
∃ (I:List UInt8->Int->Prop),∃ (m:List UInt8->Int->Nat),I [] (0:Int)/\∀ (x:List UInt8) (x_1:Int),I x x_1->(x_1<(↑l.length:Int)->(0:Int)<=x_1/\x_1<(↑l.length:Int)/\((30000:Int)<(↑(ix l x_1).length:Int)->Q [] (Err.no (4:Int)))/\(¬(30000:Int)<(↑(ix l x_1).length:Int)->in64 ((↑(ix l x_1).length:Int)+1)/\(0:Int)<=3/\(3:Int)<=4/\(x.length+List.length (leB (IntKind.u32.wrap ((↑(ix l x_1).length:Int)+1)) (Int.toNat (3:Int)))) * (some (1:Nat)).getD (0:Nat)<=140737488355328/\SmL [leB (IntKind.u32.wrap ((↑(ix l x_1).length:Int)+1)) (Int.toNat (3:Int)),ix l x_1]/\(0:Int)<=4/\(4:Int)<=4/\((x++leB (IntKind.u32.wrap ((↑(ix l x_1).length:Int)+1)) (Int.toNat (3:Int))).length+List.length (leB (sumS [leB (IntKind.u32.wrap ((↑(ix l x_1).length:Int)+1)) (Int.toNat (3:Int)),ix l x_1]) (Int.toNat (4:Int)))) * (some (1:Nat)).getD (0:Nat)<=140737488355328/\((x++leB (IntKind.u32.wrap ((↑(ix l x_1).length:Int)+1)) (Int.toNat (3:Int))++leB (sumS [leB (IntKind.u32.wrap ((↑(ix l x_1).length:Int)+1)) (Int.toNat (3:Int)),ix l x_1]) (Int.toNat (4:Int))).length+(ix l x_1).length) * (some (1:Nat)).getD (0:Nat)<=140737488355328/\in64 (x_1+1)/\I (x++leB (IntKind.u32.wrap ((↑(ix l x_1).length:Int)+1)) (Int.toNat (3:Int))++leB (sumS [leB (IntKind.u32.wrap ((↑(ix l x_1).length:Int)+1)) (Int.toNat (3:Int)),ix l x_1]) (Int.toNat (4:Int))++ix l x_1) (x_1+1)/\m (x++leB (IntKind.u32.wrap ((↑(ix l x_1).length:Int)+1)) (Int.toNat (3:Int))++leB (sumS [leB (IntKind.u32.wrap ((↑(ix l x_1).length:Int)+1)) (Int.toNat (3:Int)),ix l x_1]) (Int.toNat (4:Int))++ix l x_1) (x_1+1)<m x x_1))/\(¬x_1<(↑l.length:Int)->Q x Err.nil)
theorem Vpack_ok {l:List Str} {Q:Str->Err->Prop} (h:Vpack l Q):vcFun (E:=None) (inlHN None H1 anpack 2) (anpack 29) Try.f29 [.sl (N:=U) 9 l] [] [] 0 (resP None [.str,.err] Q):=Eq.mp (show Vpack l Q=vcFun (E:=None) (inlHN None H1 anpack 2) (anpack 29) Try.f29 [.sl (N:=U) 9 l] [] [] 0 (resP None [.str,.err] Q) by kernel_rfl) h
theorem ppack (l:List Str) (hl:SmL l):Vpack l (fun y0 y1=>y0=(packE l).1/\y1=(packE l).2):=by
 unfold Vpack
 obtain ⟨hl0,hl1⟩:=hl
 refine ⟨fun x i=>0<=i/\i<=l.length/\(x.length:Int)<=40000 * i/\packU x (l.drop i.toNat)=packE l,fun _ i=>((l.length:Int)-i).toNat,⟨by omega,by omega,by decide,rfl⟩,?_⟩
 rintro x i ⟨i0,i1,x1,hx⟩
 refine ⟨fun h=>?_,fun h=>?_⟩
 . have hp:=hl1 _ (ix_memW i0 h)
   rw [drop_ix i0 h,packU] at hx
   generalize ix l i=p at hp hx ⊢
   refine ⟨i0,h,fun hb=>?_,fun hb=>?_⟩
   . rw [if_pos hb] at hx; rw [<- hx]; exact ⟨rfl,rfl⟩
   . rw [if_neg hb] at hx
     rw [longU (by omega)]
     have e1:=long_len p
     have e2:(leB (sumS [longS p,p]) (Int.toNat 4)).length=4:=leB_len _ _
     have e3:(some (1:Nat)).getD 0=1:=rfl
     refine ⟨⟨by omega,by omega⟩,by decide,by decide,?_,smL2 (by omega) hp,by decide,by decide,?_,?_,⟨by omega,by omega⟩,⟨by omega,by omega,?_,?_⟩,by dsimp only; omega⟩
     . rw [e1,e3]; omega
     . rw [List.length_append,e1,e2,e3]; omega
     . rw [List.length_append,List.length_append,e1,e2,e3]; omega
     . rw [List.length_append,List.length_append,List.length_append,e1,e2]; omega
     . rw [<- hx]; unfold frameS; rw [<- List.append_assoc,<- List.append_assoc]; rfl
 . rw [List.drop_of_length_le (by omega)] at hx
   have hx:(x,Err.nil)=packE l:=hx
   rw [<- hx]; exact ⟨rfl,rfl⟩
def cpack (a:List (SV U)):Option (Q1 U):=match a with | [.sl 9 l]=>some ⟨[SmL l],[],.tup [.str ((packE l).1),.err ((packE l).2)]⟩ | _=>none
theorem cpack_ok (args:List (SV U)) (q:Q1 U) (h:cpack args=some q) (ho:allP q.ob):LendOK None 29 args ⟨q.ob,q.hy,q.v,[]⟩:=by
 unfold cpack at h
 split at h
 . rename_i l
   cases h
   exact lend2 None_ok (inlHN_ok None_ok H1_ok anpack 2) Try.func29 (k1:=.str) (k2:=.err) (x1:=(packE l).1) (x2:=(packE l).2) trivial (pack_bare l) (Vpack_ok (ppack l ho.1)) 0
 . cases h
noncomputable def Npack:Env:=None.addL 29 cpack
theorem Npack_ok:EnvOK Npack:=None_ok.addL Try.call29 cpack_ok
def anscan:Nat->Ann:=fun | 39=>⟨35,fun | 3=>some ⟨[0],[.slot 4 (.acc 9),.slot 5 .str]⟩ | _=>none,fun _=>none⟩ | _=>⟨0,fun _=>none,fun _=>none⟩
def Vscan (s:Str) (Q:List Str->Int->Prop):Prop :=
∃ (I:List (List UInt8)->List UInt8->Prop),∃ (m:List (List UInt8)->List UInt8->Nat),I [] s/\∀ (x:List (List UInt8)) (x_1:List UInt8),I x x_1->x_1.length<=100000000/\((oneS x_1).snd.snd.is (11:Int) ∨ (oneS x_1).snd.snd.is (4:Int)->in64 ((↑(List.length s):Int)-(↑x_1.length:Int))/\Q x ((↑(List.length s):Int)-(↑x_1.length:Int)))/\(¬((oneS x_1).snd.snd.is (11:Int) ∨ (oneS x_1).snd.snd.is (4:Int))->(x.length+[(oneS x_1).fst].length) * (some (16:Nat)).getD (0:Nat)<=140737488355328/\I (x++[(oneS x_1).fst]) (oneS x_1).snd.fst/\m (x++[(oneS x_1).fst]) (oneS x_1).snd.fst<m x x_1)
theorem Vscan_ok {s:Str} {Q:List Str->Int->Prop} (h:Vscan s Q):vcFun (E:=Npack) (inlHN Npack H1 anscan 2) (anscan 39) Try.f39 [.str s] [] [] 0 (resP Npack [.acc 9,.int .i64] Q):=Eq.mp (show Vscan s Q=vcFun (E:=Npack) (inlHN Npack H1 anscan 2) (anscan 39) Try.f39 [.str s] [] [] 0 (resP Npack [.acc 9,.int .i64] Q) by kernel_rfl) h
theorem pscan (s:Str) (hs:s.length<=100000000):Vscan s (fun y0 y1=>y0=scanL s/\y1=((s.length:Int)-((scanR s).length:Int))):=by
 unfold Vscan
 refine ⟨fun x r=>x++scanL r=scanL s/\scanR r=scanR s/\x.length+r.length<=s.length,fun _ r=>r.length,⟨rfl,rfl,by show 0+_<=_; omega⟩,?_⟩
 rintro x r ⟨h0,h1,h2⟩
 refine ⟨by omega,fun he=>?_,fun he=>?_⟩
 . have he:=(oneS_is r).1 he
   rw [scanL_neg he,List.append_nil] at h0
   rw [scanR_neg he] at h1
   rw [h0,<- h1]
   exact ⟨⟨by omega,by omega⟩,rfl,rfl⟩
 . have he:=Classical.not_not.1 (fun h=>he ((oneS_is r).2 h))
   obtain ⟨g1,g2,g3⟩:=oneS_lt he
   rw [scanL_pos he] at h0
   rw [scanR_pos he] at h1
   refine ⟨?_,⟨?_,h1,?_⟩,by dsimp only; omega⟩
   . have e:(some 16).getD 0=16:=rfl
     rw [List.length_singleton,e]; omega
   . rw [List.append_assoc]; exact h0
   . rw [List.length_append,List.length_singleton]; omega
def cscan (a:List (SV U)) (nx:Nat):Option (CR U):=match a with | [.str s]=>some ⟨[List.length (α:=UInt8) s<=100000000],[],.tup [.acc nx,.int .i64 ((s.length:Int)-((scanR s).length:Int))],[.ac 9 (scanL s)]⟩ | _=>none
theorem cscan_ok (args:List (SV U)) (nx:Nat) (c:CR U) (h:cscan args nx=some c) (hp:args.all pureS=true) (ho:allP c.ob):ConOK Npack.P Npack.N Npack.T Npack.G 39 args nx c:=by
 unfold cscan at h
 split at h
 . rename_i s
   cases h
   exact con2 Npack_ok (inlHN_ok Npack_ok H1_ok anscan 2) Try.func39 (k1:=.acc 9) (k2:=.int .i64) (x1:=scanL s) (x2:=((s.length:Int)-((scanR s).length:Int))) rfl hp (Vscan_ok (pscan s ho.1))
 . cases h
noncomputable def Nscan:Env:=Npack.addC 39 cscan
theorem Nscan_ok:EnvOK Nscan:=Npack_ok.addC Try.call39 cscan_ok
end Go.Proofs.Ytckpdliipjekgaa
end
section
namespace Go.Proofs.Ytckpdliipjekgaa
open Go Go.Wk Go.Wl Go.Rx Go.Wa Go.Wa
def hdT (b:Str) (at_:Int):Int×Int×Int :=
 if getS (b.take 8)<1 ∨ 1099511627776<getS (b.take 8) ∨ (getS (b.take 8)).tmod 2≠at_ ∨ 1<getS ((b.take 9).drop 8) ∨ b≠headS (getS (b.take 8)) (getS ((b.take 9).drop 8)) (getS ((b.take 13).drop 9)) then (0,0,0)
 else (getS (b.take 8),getS ((b.take 9).drop 8),getS ((b.take 13).drop 9))
def hdA (x:Dk) (at_:Int):Int×Int×Int×Err :=
 if (x.read at_).2=0 then ((hdT (x.read at_).1 at_).1,(hdT (x.read at_).1 at_).2.1,(hdT (x.read at_).1 at_).2.2,.nil) else (0,0,0,inE sHd (erN (x.read at_).2))
theorem read_256 {x:Dk} (ok:x.Ok) {a:Int} (h:(x.read a).2=0):(x.read a).1.length=256:=by
 unfold Dk.read at h ⊢
 split at h
 . simp at h
 . rename_i hw
   split at h
   . simp at h
   . rename_i ho
     simp only [hw,ho]
     unfold Dk.wrong at hw
     cases e:aget x.fresh a with
     | some s=>exact (aget_flen ok e).1
     | none =>
      split at hw
      . simp at hw
      . refine ok.len _ (ix_memW ?_ ?_) <;> omega
theorem getS_rg (b:Str):in64 (getS b):=by
 unfold getS
 rw [wrap_at]
 exact ⟨by omega,by omega⟩
def fitE (x:Dk):Err:=if x.lasts.length=0 then .no 1 else if x.lasts.length<6 then .no 2 else .nil
theorem fitE_2 {x:Dk} (h:1<=x.lasts.length) (h6:x.lasts.length<6):fitE x=.no 2:=by
 unfold fitE
 rw [if_neg (by omega),if_pos h6]
theorem fitE_0 {x:Dk} (h6:6<=x.lasts.length):fitE x=.nil:=by
 unfold fitE
 rw [if_neg (by omega),if_neg (by omega)]
def fmtS (x:Dk):Err×Dk :=
 if fitE x≠.nil then (fitE x,x) else
 if (storeS x 0 (secs (List.replicate 512 0))).1≠.nil then storeS x 0 (secs (List.replicate 512 0)) else
 storeS (storeS x 0 (secs (List.replicate 512 0))).2 1 (secs (headS 1 0 0))
end Go.Proofs.Ytckpdliipjekgaa
end
section
namespace Go.Proofs.Ytckpdliipjekgaa
open Go Go.Wk Go.Wl Go.Rx Go.Wa 
def anhA:Nat->Ann:=fun | 35=>⟨60,fun _=>none,fun _=>none⟩ | _=>⟨0,fun _=>none,fun _=>none⟩
def VhA (x:Dk) (at_:Int) (Q:Int->Int->Int->Err->Dk->Prop):Prop :=
x.Ok/\(erN (x.read at_).snd≠Err.nil->(erN (x.read at_).snd≠Err.nil->erN (x.read at_).snd=Err.no (erN (x.read at_).snd).n0)/\Q (0:Int) (0:Int) (0:Int) (inE ([104,101,97,100]:List UInt8) (erN (x.read at_).snd)) x)/\(¬erN (x.read at_).snd≠Err.nil->((0:Int)<=8/\(8:Int)<=(↑(List.length (x.read at_).fst):Int))/\(List.drop (none.getD (0:Int)).toNat (List.take ((none.getD (0:Int)).toNat+((some (8:Int)).getD (↑(List.length (x.read at_).fst):Int)-none.getD (0:Int)).toNat) (x.read at_).fst)).length<=100000/\((0:Int)<=8/\(8:Int)<=9/\(9:Int)<=(↑(List.length (x.read at_).fst):Int))/\(List.drop ((some (8:Int)).getD (0:Int)).toNat (List.take (((some (8:Int)).getD (0:Int)).toNat+((some (9:Int)).getD (↑(List.length (x.read at_).fst):Int)-(some (8:Int)).getD (0:Int)).toNat) (x.read at_).fst)).length<=100000/\((0:Int)<=9/\(9:Int)<=13/\(13:Int)<=(↑(List.length (x.read at_).fst):Int))/\(List.drop ((some (9:Int)).getD (0:Int)).toNat (List.take (((some (9:Int)).getD (0:Int)).toNat+((some (13:Int)).getD (↑(List.length (x.read at_).fst):Int)-(some (9:Int)).getD (0:Int)).toNat) (x.read at_).fst)).length<=100000/\(¬(getS (List.drop (none.getD (0:Int)).toNat (List.take ((none.getD (0:Int)).toNat+((some (8:Int)).getD (↑(List.length (x.read at_).fst):Int)-none.getD (0:Int)).toNat) (x.read at_).fst))<1 ∨ (1099511627776:Int)<getS (List.drop (none.getD (0:Int)).toNat (List.take ((none.getD (0:Int)).toNat+((some (8:Int)).getD (↑(List.length (x.read at_).fst):Int)-none.getD (0:Int)).toNat) (x.read at_).fst)))->(2:Int)≠0)/\(((getS (List.drop (none.getD (0:Int)).toNat (List.take ((none.getD (0:Int)).toNat+((some (8:Int)).getD (↑(List.length (x.read at_).fst):Int)-none.getD (0:Int)).toNat) (x.read at_).fst))<1 ∨ (1099511627776:Int)<getS (List.drop (none.getD (0:Int)).toNat (List.take ((none.getD (0:Int)).toNat+((some (8:Int)).getD (↑(List.length (x.read at_).fst):Int)-none.getD (0:Int)).toNat) (x.read at_).fst))) ∨ (getS (List.drop (none.getD (0:Int)).toNat (List.take ((none.getD (0:Int)).toNat+((some (8:Int)).getD (↑(List.length (x.read at_).fst):Int)-none.getD (0:Int)).toNat) (x.read at_).fst))).tmod (2:Int)≠at_) ∨ (1:Int)<getS (List.drop ((some (8:Int)).getD (0:Int)).toNat (List.take (((some (8:Int)).getD (0:Int)).toNat+((some (9:Int)).getD (↑(List.length (x.read at_).fst):Int)-(some (8:Int)).getD (0:Int)).toNat) (x.read at_).fst))->Q (0:Int) (0:Int) (0:Int) Err.nil x)/\(¬(((getS (List.drop (none.getD (0:Int)).toNat (List.take ((none.getD (0:Int)).toNat+((some (8:Int)).getD (↑(List.length (x.read at_).fst):Int)-none.getD (0:Int)).toNat) (x.read at_).fst))<1 ∨ (1099511627776:Int)<getS (List.drop (none.getD (0:Int)).toNat (List.take ((none.getD (0:Int)).toNat+((some (8:Int)).getD (↑(List.length (x.read at_).fst):Int)-none.getD (0:Int)).toNat) (x.read at_).fst))) ∨ (getS (List.drop (none.getD (0:Int)).toNat (List.take ((none.getD (0:Int)).toNat+((some (8:Int)).getD (↑(List.length (x.read at_).fst):Int)-none.getD (0:Int)).toNat) (x.read at_).fst))).tmod (2:Int)≠at_) ∨ (1:Int)<getS (List.drop ((some (8:Int)).getD (0:Int)).toNat (List.take (((some (8:Int)).getD (0:Int)).toNat+((some (9:Int)).getD (↑(List.length (x.read at_).fst):Int)-(some (8:Int)).getD (0:Int)).toNat) (x.read at_).fst)))->in64 (getS (List.drop ((some (8:Int)).getD (0:Int)).toNat (List.take (((some (8:Int)).getD (0:Int)).toNat+((some (9:Int)).getD (↑(List.length (x.read at_).fst):Int)-(some (8:Int)).getD (0:Int)).toNat) (x.read at_).fst)))/\in64 (getS (List.drop ((some (9:Int)).getD (0:Int)).toNat (List.take (((some (9:Int)).getD (0:Int)).toNat+((some (13:Int)).getD (↑(List.length (x.read at_).fst):Int)-(some (9:Int)).getD (0:Int)).toNat) (x.read at_).fst)))/\List.length (x.read at_).fst<=1000000/\(¬eqT (x.read at_).fst (headS (getS (List.drop (none.getD (0:Int)).toNat (List.take ((none.getD (0:Int)).toNat+((some (8:Int)).getD (↑(List.length (x.read at_).fst):Int)-none.getD (0:Int)).toNat) (x.read at_).fst))) (getS (List.drop ((some (8:Int)).getD (0:Int)).toNat (List.take (((some (8:Int)).getD (0:Int)).toNat+((some (9:Int)).getD (↑(List.length (x.read at_).fst):Int)-(some (8:Int)).getD (0:Int)).toNat) (x.read at_).fst))) (getS (List.drop ((some (9:Int)).getD (0:Int)).toNat (List.take (((some (9:Int)).getD (0:Int)).toNat+((some (13:Int)).getD (↑(List.length (x.read at_).fst):Int)-(some (9:Int)).getD (0:Int)).toNat) (x.read at_).fst))))=true->Q (0:Int) (0:Int) (0:Int) Err.nil x)/\(¬¬eqT (x.read at_).fst (headS (getS (List.drop (none.getD (0:Int)).toNat (List.take ((none.getD (0:Int)).toNat+((some (8:Int)).getD (↑(List.length (x.read at_).fst):Int)-none.getD (0:Int)).toNat) (x.read at_).fst))) (getS (List.drop ((some (8:Int)).getD (0:Int)).toNat (List.take (((some (8:Int)).getD (0:Int)).toNat+((some (9:Int)).getD (↑(List.length (x.read at_).fst):Int)-(some (8:Int)).getD (0:Int)).toNat) (x.read at_).fst))) (getS (List.drop ((some (9:Int)).getD (0:Int)).toNat (List.take (((some (9:Int)).getD (0:Int)).toNat+((some (13:Int)).getD (↑(List.length (x.read at_).fst):Int)-(some (9:Int)).getD (0:Int)).toNat) (x.read at_).fst))))=true->Q (getS (List.drop (none.getD (0:Int)).toNat (List.take ((none.getD (0:Int)).toNat+((some (8:Int)).getD (↑(List.length (x.read at_).fst):Int)-none.getD (0:Int)).toNat) (x.read at_).fst))) (getS (List.drop ((some (8:Int)).getD (0:Int)).toNat (List.take (((some (8:Int)).getD (0:Int)).toNat+((some (9:Int)).getD (↑(List.length (x.read at_).fst):Int)-(some (8:Int)).getD (0:Int)).toNat) (x.read at_).fst))) (getS (List.drop ((some (9:Int)).getD (0:Int)).toNat (List.take (((some (9:Int)).getD (0:Int)).toNat+((some (13:Int)).getD (↑(List.length (x.read at_).fst):Int)-(some (9:Int)).getD (0:Int)).toNat) (x.read at_).fst))) Err.nil x)))
theorem VhA_eq {x:Dk} {at_:Int} {Q:Int->Int->Int->Err->Dk->Prop}:@Eq Prop (VhA x at_ Q) (vcFun (E:=Nscan) (inlHN Nscan H1 anhA 3) (anhA 35) Try.f35 [.ref 0 0,.int .i64 at_] [(0,.ob (N:=U) 0 1 x)] [] 2 (endG Nscan [(0,.ob (N:=U) 0 1 x)] 2 4 [[.slot 0 (.int .i64),.slot 1 (.int .i64),.slot 2 (.int .i64),.slot 3 (.err),.tree [] [.ob (some 200) 0]]] ((Q,fun _ _ _ _ _=>(0:Nat)),()))):=by kernel_rfl
theorem VhA_ok {x:Dk} {at_:Int} {Q:Int->Int->Int->Err->Dk->Prop} (h:VhA x at_ Q):vcFun (E:=Nscan) (inlHN Nscan H1 anhA 3) (anhA 35) Try.f35 [.ref 0 0,.int .i64 at_] [(0,.ob (N:=U) 0 1 x)] [] 2 (endG Nscan [(0,.ob (N:=U) 0 1 x)] 2 4 [[.slot 0 (.int .i64),.slot 1 (.int .i64),.slot 2 (.int .i64),.slot 3 (.err),.tree [] [.ob (some 200) 0]]] ((Q,fun _ _ _ _ _=>(0:Nat)),())):=by rw [<- VhA_eq]; exact h
theorem phA (x:Dk) (at_:Int) (ok:x.Ok):VhA x at_ (fun y0 y1 y2 y3 y4=>y0=(hdA x at_).1/\y1=(hdA x at_).2.1/\y2=(hdA x at_).2.2.1/\y3=(hdA x at_).2.2.2/\y4=x):=by
 unfold VhA hdA
 refine ⟨ok,fun h=>⟨fun _=>erN_no h,?_⟩,fun h=>?_⟩
 . have hn:(x.read at_).2≠0:=fun e=>h (erN_nil.2 e)
   rw [if_neg hn]; exact ⟨rfl,rfl,rfl,rfl,rfl⟩
 have hz:(x.read at_).2=0:=erN_nil.1 (Classical.not_not.1 h)
 rw [if_pos hz]
 have hl:=read_256 ok hz
 unfold hdT
 generalize (x.read at_).1=b at hl ⊢
 have e1:(List.drop ((none:Option Int).getD 0).toNat (List.take (((none:Option Int).getD 0).toNat+((some 8:Option Int).getD (b.length:Int)-(none:Option Int).getD 0).toNat) b))=b.take 8:=rfl
 have e2:(List.drop ((some 8:Option Int).getD 0).toNat (List.take (((some 8:Option Int).getD 0).toNat+((some 9:Option Int).getD (b.length:Int)-(some 8:Option Int).getD 0).toNat) b))=(b.take 9).drop 8:=rfl
 have e3:(List.drop ((some 9:Option Int).getD 0).toNat (List.take (((some 9:Option Int).getD 0).toNat+((some 13:Option Int).getD (b.length:Int)-(some 9:Option Int).getD 0).toNat) b))=(b.take 13).drop 9:=rfl
 rw [e1,e2,e3]
 have g2:=getS_rg ((b.take 9).drop 8)
 have g3:=getS_rg ((b.take 13).drop 9)
 have l1:(b.take 8).length<=100000:=by rw [List.length_take]; omega
 have l2:((b.take 9).drop 8).length<=100000:=by rw [List.length_drop,List.length_take]; omega
 have l3:((b.take 13).drop 9).length<=100000:=by rw [List.length_drop,List.length_take]; omega
 generalize getS ((b.take 9).drop 8)=H at g2 ⊢
 generalize getS ((b.take 13).drop 9)=M at g3 ⊢
 generalize getS (b.take 8)=T
 refine ⟨⟨by decide,by omega⟩,l1,⟨by decide,by decide,by omega⟩,l2,⟨by decide,by decide,by omega⟩,l3,fun _=>by decide,fun h1=>?_,fun h1=>⟨g2,g3,by omega,fun h2=>?_,fun h2=>?_⟩⟩
 . rw [if_pos (by rcases h1 with ((h1 | h1) | h1) | h1
                  . exact .inl h1
                  . exact .inr (.inl h1)
                  . exact .inr (.inr (.inl h1))
                  . exact .inr (.inr (.inr (.inl h1))))]
   exact ⟨rfl,rfl,rfl,rfl,rfl⟩
 . rw [if_pos (.inr (.inr (.inr (.inr fun e=>h2 (decide_eq_true e)))))]
   exact ⟨rfl,rfl,rfl,rfl,rfl⟩
 . have h2:=of_decide_eq_true (Classical.not_not.1 h2)
   rw [if_neg (by rintro (e | e | e | e | e)
                  . exact h1 (.inl (.inl (.inl e)))
                  . exact h1 (.inl (.inl (.inr e)))
                  . exact h1 (.inl (.inr e))
                  . exact h1 (.inr e)
                  . exact e h2)]
   exact ⟨rfl,rfl,rfl,rfl,rfl⟩
noncomputable def fhAs (x:Dk) (at_:Int):FR U:=frOf Nscan [Dk.Ok x] [(0,.ob (N:=U) 0 1 x)] 2 4 [.slot 0 (.int .i64),.slot 1 (.int .i64),.slot 2 (.int .i64),.slot 3 (.err),.tree [] [.ob (some 200) 0]] ((hdA x at_).1,(hdA x at_).2.1,(hdA x at_).2.2.1,(hdA x at_).2.2.2,(x,()),())
noncomputable def fhA:FC U:=⟨[],[],fun a its=>match a,its with | [.ref 0 0,.int .i64 at_],[(0,.ob 0 1 x)]=>some (fhAs x at_) | _,_=>none⟩
theorem fhA_ok (args:List (SV U)) (its:Items U) (r:FR U) (h:fhA.C args its=some r) (ho:allP r.ob):GenOK Try.prog U eT Gl 35 args its (2 * its.length) (fun k=>allP r.hy->k r.v r.its r.n):=by
 unfold fhA at h
 simp only at h
 split at h
 . rename_i at_ x
   cases h
   exact fc_ok Nscan_ok (inlHN_ok Nscan_ok H1_ok anhA 3) Try.func35 (n:=4) rfl (vs:=[.slot 0 (.int .i64),.slot 1 (.int .i64),.slot 2 (.int .i64),.slot 3 (.err),.tree [] [.ob (some 200) 0]]) (X:=((hdA x at_).1,(hdA x at_).2.1,(hdA x at_).2.2.1,(hdA x at_).2.2.2,(x,()),())) rfl (VhA_ok (phA x at_ ho.1))
 . cases h
noncomputable def NhA:Env:=(Nscan.addI 35 Try.f35).addX 35 fhA
theorem NhA_ok:EnvOK NhA:=(Nscan_ok.addI Try.call35 Try.func35).addX Try.call35 fhA_ok
def anfmt:Nat->Ann:=fun | 19=>⟨21,fun _=>none,fun _=>none⟩ | _=>⟨0,fun _=>none,fun _=>none⟩
def Vfmt (x:Dk) (Q:Err->Dk->Prop):Prop :=
x.Ok/\((↑x.lasts.length:Int)=0->(Err.no (1:Int)≠Err.nil->Q (Err.no (1:Int)) x)/\(¬Err.no (1:Int)≠Err.nil->(0:Int)<=512/\(512:Int)=512/\(↑((some (1:Nat)).getD (0:Nat)):Int) * 512<=140737488355328/\x.Ok/\(List.replicate (Int.toNat (512:Int)) (0:UInt8)).length<=10000000/\(0:Int)<=0/\(0:Int)<=1000000/\((storeS x (0:Int) (secs (List.replicate (Int.toNat (512:Int)) (0:UInt8)))).fst≠Err.nil->Q (storeS x (0:Int) (secs (List.replicate (Int.toNat (512:Int)) (0:UInt8)))).fst (storeS x (0:Int) (secs (List.replicate (Int.toNat (512:Int)) (0:UInt8)))).snd)/\(¬(storeS x (0:Int) (secs (List.replicate (Int.toNat (512:Int)) (0:UInt8)))).fst≠Err.nil->in64 (0:Int)/\in64 (0:Int)/\(storeS x (0:Int) (secs (List.replicate (Int.toNat (512:Int)) (0:UInt8)))).snd.Ok/\List.length (headS (1:Int) (0:Int) (0:Int))<=10000000/\(0:Int)<=1/\(1:Int)<=1000000/\Q (storeS (storeS x (0:Int) (secs (List.replicate (Int.toNat (512:Int)) (0:UInt8)))).snd (1:Int) (secs (headS (1:Int) (0:Int) (0:Int)))).fst (storeS (storeS x (0:Int) (secs (List.replicate (Int.toNat (512:Int)) (0:UInt8)))).snd (1:Int) (secs (headS (1:Int) (0:Int) (0:Int)))).snd)))/\(¬(↑x.lasts.length:Int)=0->x.Ok/\((↑x.lasts.length:Int)<6->(Err.no (2:Int)≠Err.nil->Q (Err.no (2:Int)) x)/\(¬Err.no (2:Int)≠Err.nil->(0:Int)<=512/\(512:Int)=512/\(↑((some (1:Nat)).getD (0:Nat)):Int) * 512<=140737488355328/\x.Ok/\(List.replicate (Int.toNat (512:Int)) (0:UInt8)).length<=10000000/\(0:Int)<=0/\(0:Int)<=1000000/\((storeS x (0:Int) (secs (List.replicate (Int.toNat (512:Int)) (0:UInt8)))).fst≠Err.nil->Q (storeS x (0:Int) (secs (List.replicate (Int.toNat (512:Int)) (0:UInt8)))).fst (storeS x (0:Int) (secs (List.replicate (Int.toNat (512:Int)) (0:UInt8)))).snd)/\(¬(storeS x (0:Int) (secs (List.replicate (Int.toNat (512:Int)) (0:UInt8)))).fst≠Err.nil->in64 (0:Int)/\in64 (0:Int)/\(storeS x (0:Int) (secs (List.replicate (Int.toNat (512:Int)) (0:UInt8)))).snd.Ok/\List.length (headS (1:Int) (0:Int) (0:Int))<=10000000/\(0:Int)<=1/\(1:Int)<=1000000/\Q (storeS (storeS x (0:Int) (secs (List.replicate (Int.toNat (512:Int)) (0:UInt8)))).snd (1:Int) (secs (headS (1:Int) (0:Int) (0:Int)))).fst (storeS (storeS x (0:Int) (secs (List.replicate (Int.toNat (512:Int)) (0:UInt8)))).snd (1:Int) (secs (headS (1:Int) (0:Int) (0:Int)))).snd)))/\(¬(↑x.lasts.length:Int)<6->(Err.nil≠Err.nil->Q Err.nil x)/\(¬Err.nil≠Err.nil->(0:Int)<=512/\(512:Int)=512/\(↑((some (1:Nat)).getD (0:Nat)):Int) * 512<=140737488355328/\x.Ok/\(List.replicate (Int.toNat (512:Int)) (0:UInt8)).length<=10000000/\(0:Int)<=0/\(0:Int)<=1000000/\((storeS x (0:Int) (secs (List.replicate (Int.toNat (512:Int)) (0:UInt8)))).fst≠Err.nil->Q (storeS x (0:Int) (secs (List.replicate (Int.toNat (512:Int)) (0:UInt8)))).fst (storeS x (0:Int) (secs (List.replicate (Int.toNat (512:Int)) (0:UInt8)))).snd)/\(¬(storeS x (0:Int) (secs (List.replicate (Int.toNat (512:Int)) (0:UInt8)))).fst≠Err.nil->in64 (0:Int)/\in64 (0:Int)/\(storeS x (0:Int) (secs (List.replicate (Int.toNat (512:Int)) (0:UInt8)))).snd.Ok/\List.length (headS (1:Int) (0:Int) (0:Int))<=10000000/\(0:Int)<=1/\(1:Int)<=1000000/\Q (storeS (storeS x (0:Int) (secs (List.replicate (Int.toNat (512:Int)) (0:UInt8)))).snd (1:Int) (secs (headS (1:Int) (0:Int) (0:Int)))).fst (storeS (storeS x (0:Int) (secs (List.replicate (Int.toNat (512:Int)) (0:UInt8)))).snd (1:Int) (secs (headS (1:Int) (0:Int) (0:Int)))).snd))))
theorem Vfmt_eq {x:Dk} {Q:Err->Dk->Prop}:@Eq Prop (Vfmt x Q) (vcFun (E:=NhA) (inlHN NhA H1 anfmt 3) (anfmt 19) Try.f19 [.ref 0 0] [(0,.ob (N:=U) 0 1 x)] [] 2 (endG NhA [(0,.ob (N:=U) 0 1 x)] 2 1 [[.slot 0 (.err),.tree [] [.ob (some 200) 0]]] ((Q,fun _ _=>(0:Nat)),()))):=by kernel_rfl
theorem Vfmt_ok {x:Dk} {Q:Err->Dk->Prop} (h:Vfmt x Q):vcFun (E:=NhA) (inlHN NhA H1 anfmt 3) (anfmt 19) Try.f19 [.ref 0 0] [(0,.ob (N:=U) 0 1 x)] [] 2 (endG NhA [(0,.ob (N:=U) 0 1 x)] 2 1 [[.slot 0 (.err),.tree [] [.ob (some 200) 0]]] ((Q,fun _ _=>(0:Nat)),())):=by rw [<- Vfmt_eq]; exact h
theorem pfmt (x:Dk) (ok:x.Ok):Vfmt x (fun y0 y1=>y0=(fmtS x).1/\y1=(fmtS x).2):=by
 unfold Vfmt fmtS
 have p:=ok.pos
 have e5:Int.toNat 512=512:=rfl
 rw [e5]
 generalize hs:secs (List.replicate 512 0)=S0
 refine ⟨ok,fun h=>absurd h (by omega),fun h=>⟨ok,fun h6=>⟨fun _=>?_,fun hn=>absurd hn (by simp)⟩,fun h6=>⟨fun hn=>absurd rfl hn,fun _=>?_⟩⟩⟩
 . rw [fitE_2 p (by omega),if_pos (by simp)]; exact ⟨rfl,rfl⟩
 rw [fitE_0 (by omega),if_neg (by simp)]
 refine ⟨by decide,rfl,by decide,ok,by rw [List.length_replicate]; decide,by decide,by decide,fun h1=>?_,fun h1=>⟨⟨by decide,by decide⟩,⟨by decide,by decide⟩,store_Ok _ _ ok,by rw [head_len]; decide,by decide,by decide,?_⟩⟩
 . rw [if_pos h1]; exact ⟨rfl,rfl⟩
 . rw [if_neg h1]; exact ⟨rfl,rfl⟩
noncomputable def ffmts (x:Dk):FR U:=frOf NhA [Dk.Ok x] [(0,.ob (N:=U) 0 1 x)] 2 1 [.slot 0 (.err),.tree [] [.ob (some 200) 0]] ((fmtS x).1,((fmtS x).2,()),())
noncomputable def ffmt:FC U:=⟨[],[],fun a its=>match a,its with | [.ref 0 0],[(0,.ob 0 1 x)]=>some (ffmts x) | _,_=>none⟩
theorem ffmt_ok (args:List (SV U)) (its:Items U) (r:FR U) (h:ffmt.C args its=some r) (ho:allP r.ob):GenOK Try.prog U eT Gl 19 args its (2 * its.length) (fun k=>allP r.hy->k r.v r.its r.n):=by
 unfold ffmt at h
 simp only at h
 split at h
 . rename_i x
   cases h
   exact fc_ok NhA_ok (inlHN_ok NhA_ok H1_ok anfmt 3) Try.func19 (n:=1) rfl (vs:=[.slot 0 (.err),.tree [] [.ob (some 200) 0]]) (X:=((fmtS x).1,((fmtS x).2,()),())) rfl (Vfmt_ok (pfmt x ho.1))
 . cases h
noncomputable def Nfmt:Env:=(NhA.addI 19 Try.f19).addX 19 ffmt
theorem Nfmt_ok:EnvOK Nfmt:=(NhA_ok.addI Try.call19 Try.func19).addX Try.call19 ffmt_ok
end Go.Proofs.Ytckpdliipjekgaa
end
section
namespace Go.Proofs.Ytckpdliipjekgaa
open Go Go.Wk Go.Wl Go.Rx Go.Wa Go.Wa
def halfS (x:Dk):Int:=((x.lasts.length:Int)-2).tdiv 2
theorem half_at {x:Dk} (ok:x.Ok):0<=halfS x/\halfS x<=4095/\(2<=x.lasts.length->halfS x=((x.lasts.length:Int)-2) / 2):=by
 have h1:=ok.pos
 have h2:=ok.max
 unfold halfS
 by_cases h:2<=x.lasts.length
 . have e:((x.lasts.length:Int)-2).tdiv 2=((x.lasts.length:Int)-2) / 2:=Int.tdiv_eq_ediv_of_nonneg (by omega)
   rw [e]
   exact ⟨by omega,by omega,fun _=>rfl⟩
 . have e:(x.lasts.length:Int)-2=-1:=by omega
   rw [e]
   exact ⟨by decide,by decide,fun h'=>absurd h' h⟩
def opH1 (p q:Int×Int×Int):Int×Int×Int:=if p.1<q.1 then q else p
def opHf (x:Dk):Nat->Int->Int×Int×Int->Err×Int×Int×Int
 | 0,_,p=>(.nil,p)
 | k+1,a,p=>if (hdA x a).2.2.2≠.nil then ((hdA x a).2.2.2,0,0,0) else opHf x k (a+1) (opH1 p ((hdA x a).1,(hdA x a).2.1,(hdA x a).2.2.1))
abbrev opH (x:Dk):Err×Int×Int×Int:=opHf x 2 0 (0,0,0)
def readN (x:Dk):Nat->Int->Str->Str×Err
 | 0,_,b=>(b,.nil)
 | k+1,i,b=>if (x.read i).2=0 then readN x k (i+1) (b++(x.read i).1) else ([],inE sRd (erN (x.read i).2))
def manyS (n:Int):Nat:=((n+255) / 256).toNat
def opn3 (x:Dk) (p:Int×Int×Int):Err×Int×Int×Str×List Str :=
 if p.1=0 then (.no 10,0,0,[],[]) else if halfS x * 256<p.2.2 then (.no 10,0,0,[],[]) else
 if (readN x (manyS p.2.2) (2+p.2.1 * halfS x) []).2≠.nil then ((readN x (manyS p.2.2) (2+p.2.1 * halfS x) []).2,0,0,[],[]) else
 if (((readN x (manyS p.2.2) (2+p.2.1 * halfS x) []).1.take p.2.2.toNat).length:Int)-((scanR ((readN x (manyS p.2.2) (2+p.2.1 * halfS x) []).1.take p.2.2.toNat)).length:Int)≠p.2.2 then (.no 10,0,0,[],[]) else
 (.nil,p.1,p.2.1,(readN x (manyS p.2.2) (2+p.2.1 * halfS x) []).1.take p.2.2.toNat,scanL ((readN x (manyS p.2.2) (2+p.2.1 * halfS x) []).1.take p.2.2.toNat))
def opn2 (x:Dk):Err×Int×Int×Str×List Str:=if (opH x).1≠.nil then ((opH x).1,0,0,[],[]) else opn3 x (opH x).2
def opnS (x:Dk):Err×Int×Int×Str×List Str:=if fitE x≠.nil then (fitE x,0,0,[],[]) else opn2 x
theorem getS_4 {b:Str} (h:b.length<=4):0<=getS b/\getS b<4294967296:=by
 have h0:=leN_nn b
 have h1:=leN_lt b
 have e:leN b<4294967296:=by
  generalize b.length=k at h h1
  match k,h with
  | 0,_=>have h1:leN b<1:=h1; omega
  | 1,_=>have h1:leN b<256:=h1; omega
  | 2,_=>have h1:leN b<65536:=h1; omega
  | 3,_=>have h1:leN b<16777216:=h1; omega
  | 4,_=>have h1:leN b<4294967296:=h1; omega
 unfold getS
 rw [wrap_at]; omega
theorem hdA_rg (x:Dk) (a:Int):0<=(hdA x a).2.1/\(hdA x a).2.1<=1/\0<=(hdA x a).2.2.1/\(hdA x a).2.2.1<4294967296:=by
 unfold hdA
 split
 . unfold hdT
   split
   . exact ⟨by decide,by decide,by decide,by decide⟩
   . rename_i hn
     have g1:=getS_4 (b:=(((x.read a).1.take 9).drop 8)) (by rw [List.length_drop,List.length_take]; omega)
     have g2:=getS_4 (b:=(((x.read a).1.take 13).drop 9)) (by rw [List.length_drop,List.length_take]; omega)
     refine ⟨g1.1,?_,g2.1,g2.2⟩
     exact Int.not_lt.1 fun e=>hn (.inr (.inr (.inr (.inl e))))
 . exact ⟨Int.le_refl 0,show (0:Int)<=1 by decide,Int.le_refl 0,show (0:Int)<4294967296 by decide⟩
theorem cut_take {n:Int} {b:Str}:List.drop ((none:Option Int).getD 0).toNat (List.take (((none:Option Int).getD 0).toNat+((some n:Option Int).getD (b.length:Int)-(none:Option Int).getD 0).toNat) b)=b.take n.toNat:=by
 show List.drop 0 (List.take (0+(n-0).toNat) b)=_
 rw [Nat.zero_add,Int.sub_zero]; rfl
theorem many_lt {n:Int} {l j:Nat} (h0:0<=n) (hl:l=256 * j):((l:Int)<n↔j<manyS n):=by
 unfold manyS
 omega
theorem mul_half {x:Dk} (ok:x.Ok) {h:Int} (h0:0<=h) (h1:h<=1):0<=h * halfS x/\h * halfS x<=4095:=by
 obtain ⟨g1,g2,_⟩:=half_at ok
 have hh:h=0 ∨ h=1:=by omega
 rcases hh with e | e
 . rw [e]; omega
 . rw [e]; omega
end Go.Proofs.Ytckpdliipjekgaa
end
section
namespace Go.Proofs.Ytckpdliipjekgaa
open Go Go.Wk Go.Wl Go.Rx Go.Wa 
def anhalf:Nat->Ann:=fun | 44=>⟨7,fun _=>none,fun _=>none⟩ | _=>⟨0,fun _=>none,fun _=>none⟩
def Vhalf (x:Dk) (Q:Int->Dk->Prop):Prop :=
x.Ok/\in64 ((↑x.lasts.length:Int)-2)/\(2:Int)≠0/\in64 (((↑x.lasts.length:Int)-2).tdiv (2:Int))/\Q (((↑x.lasts.length:Int)-2).tdiv (2:Int)) x
theorem Vhalf_eq {x:Dk} {Q:Int->Dk->Prop}:@Eq Prop (Vhalf x Q) (vcFun (E:=Nfmt) (inlHN Nfmt H1 anhalf 3) (anhalf 44) Try.f44 [.ref 0 0] [(0,.ob (N:=U) 0 1 x)] [] 2 (endG Nfmt [(0,.ob (N:=U) 0 1 x)] 2 1 [[.slot 0 (.int .i64),.tree [] [.ob (some 200) 0]]] ((Q,fun _ _=>(0:Nat)),()))):=by kernel_rfl
theorem Vhalf_ok {x:Dk} {Q:Int->Dk->Prop} (h:Vhalf x Q):vcFun (E:=Nfmt) (inlHN Nfmt H1 anhalf 3) (anhalf 44) Try.f44 [.ref 0 0] [(0,.ob (N:=U) 0 1 x)] [] 2 (endG Nfmt [(0,.ob (N:=U) 0 1 x)] 2 1 [[.slot 0 (.int .i64),.tree [] [.ob (some 200) 0]]] ((Q,fun _ _=>(0:Nat)),())):=by rw [<- Vhalf_eq]; exact h
theorem phalf (x:Dk) (ok:x.Ok):Vhalf x (fun y0 y1=>y0=halfS x/\y1=x):=by
 unfold Vhalf
 have h1:=ok.pos
 have h2:=ok.max
 obtain ⟨g1,g2,_⟩:=half_at ok
 have e:((x.lasts.length:Int)-2).tdiv 2=halfS x:=rfl
 rw [e]
 exact ⟨ok,⟨by omega,by omega⟩,by decide,⟨by omega,by omega⟩,rfl,rfl⟩
noncomputable def fhalfs (x:Dk):FR U:=frOf Nfmt [Dk.Ok x] [(0,.ob (N:=U) 0 1 x)] 2 1 [.slot 0 (.int .i64),.tree [] [.ob (some 200) 0]] (halfS x,(x,()),())
noncomputable def fhalf:FC U:=⟨[],[],fun a its=>match a,its with | [.ref 0 0],[(0,.ob 0 1 x)]=>some (fhalfs x) | _,_=>none⟩
theorem fhalf_ok (args:List (SV U)) (its:Items U) (r:FR U) (h:fhalf.C args its=some r) (ho:allP r.ob):GenOK Try.prog U eT Gl 44 args its (2 * its.length) (fun k=>allP r.hy->k r.v r.its r.n):=by
 unfold fhalf at h
 simp only at h
 split at h
 . rename_i x
   cases h
   exact fc_ok Nfmt_ok (inlHN_ok Nfmt_ok H1_ok anhalf 3) Try.func44 (n:=1) rfl (vs:=[.slot 0 (.int .i64),.tree [] [.ob (some 200) 0]]) (X:=(halfS x,(x,()),())) rfl (Vhalf_ok (phalf x ho.1))
 . cases h
noncomputable def Nhalf:Env:=(Nfmt.addI 44 Try.f44).addX 44 fhalf
theorem Nhalf_ok:EnvOK Nhalf:=(Nfmt_ok.addI Try.call44 Try.func44).addX Try.call44 fhalf_ok
noncomputable def NI26:Env:=Nhalf.addI 26 Try.f26
theorem NI26_ok:EnvOK NI26:=Nhalf_ok.addI Try.call26 Try.func26
noncomputable def NI36:Env:=NI26.addI 36 Try.f36
theorem NI36_ok:EnvOK NI36:=NI26_ok.addI Try.call36 Try.func36
def anopen:Nat->Ann:=fun | 18=>⟨113,fun | 19=>some ⟨[0,5,6],[.slot 12 (.acc 5),.slot 13 (.int .i64),.ob 0 0]⟩ | 7=>some ⟨[0,5],[.slot 6 (.int .i64),.slot 26 (.int .i64),.tree [] [.own (some 5) 54 [.to 1,.v (.int .i64),.v (.int .i64),.v .str,.v (.acc 9),.v (.acc 9),.v .bool],.ob (some 0) 0]]⟩ | _=>none,fun _=>none⟩ | _=>⟨0,fun _=>none,fun _=>none⟩
def Vopen (x:Dk) (Q0:Unit->Err->Dk->Prop) (Q1:Int->Int->Str->List Str->List Str->Bool->Dk->Err->Prop):Prop :=
x.Ok/\((↑x.lasts.length:Int)=0->(Err.no (1:Int)≠Err.nil->Q0 () (Err.no (1:Int)) x)/\(¬Err.no (1:Int)≠Err.nil->∃ (I:Int->Int->Int->Int->List UInt8->List (List UInt8)->List (List UInt8)->Bool->Dk->Prop),∃ (m:Int->Int->Int->Int->List UInt8->List (List UInt8)->List (List UInt8)->Bool->Dk->Nat),I (0:Int) (0:Int) (0:Int) (0:Int) [] [] [] false x/\∀ (x x_1 x_2 x_3:Int) (x_4:List UInt8) (x_5 x_6:List (List UInt8)) (x_7:Bool) (x_8:Dk),I x x_1 x_2 x_3 x_4 x_5 x_6 x_7 x_8->(x_1<2->x_8.Ok/\((hdA x_8 x_1).snd.snd.snd≠Err.nil->Q0 () (hdA x_8 x_1).snd.snd.snd x_8)/\(¬(hdA x_8 x_1).snd.snd.snd≠Err.nil->(x_2<(hdA x_8 x_1).fst->in64 (x_1+1)/\I (hdA x_8 x_1).snd.snd.fst (x_1+1) (hdA x_8 x_1).fst (hdA x_8 x_1).snd.fst x_4 x_5 x_6 (decide (x_7=true)) x_8/\m (hdA x_8 x_1).snd.snd.fst (x_1+1) (hdA x_8 x_1).fst (hdA x_8 x_1).snd.fst x_4 x_5 x_6 (decide (x_7=true)) x_8<m x x_1 x_2 x_3 x_4 x_5 x_6 x_7 x_8)/\(¬x_2<(hdA x_8 x_1).fst->in64 (x_1+1)/\I x (x_1+1) x_2 x_3 x_4 x_5 x_6 (decide (x_7=true)) x_8/\m x (x_1+1) x_2 x_3 x_4 x_5 x_6 (decide (x_7=true)) x_8<m x x_1 x_2 x_3 x_4 x_5 x_6 x_7 x_8)))/\(¬x_1<2->(x_2=0->Q0 () (Err.no (10:Int)) x_8)/\(¬x_2=0->x_8.Ok/\in64 (halfS x_8 * 256)/\(halfS x_8 * 256<x->Q0 () (Err.no (10:Int)) x_8)/\(¬halfS x_8 * 256<x->x_8.Ok/\in64 (x_3 * halfS x_8)/\in64 ((2:Int)+x_3 * halfS x_8)/\∃ (I:List UInt8->Int->Dk->Prop),∃ (m:List UInt8->Int->Dk->Nat),I [] ((2:Int)+x_3 * halfS x_8) x_8/\∀ (x_9:List UInt8) (x_10:Int) (x_11:Dk),I x_9 x_10 x_11->((↑x_9.length:Int)<x->x_11.Ok/\(erN (x_11.read x_10).snd≠Err.nil->(erN (x_11.read x_10).snd≠Err.nil->erN (x_11.read x_10).snd=Err.no (erN (x_11.read x_10).snd).n0)/\Q0 () (inE ([114,101,97,100]:List UInt8) (erN (x_11.read x_10).snd)) x_11)/\(¬erN (x_11.read x_10).snd≠Err.nil->(x_9.length+List.length (x_11.read x_10).fst) * (some (1:Nat)).getD (0:Nat)<=140737488355328/\in64 (x_10+1)/\I (x_9++(x_11.read x_10).fst) (x_10+1) x_11/\m (x_9++(x_11.read x_10).fst) (x_10+1) x_11<m x_9 x_10 x_11))/\(¬(↑x_9.length:Int)<x->(0:Int)<=x/\x<=(↑x_9.length:Int)/\(List.drop (none.getD (0:Int)).toNat (List.take ((none.getD (0:Int)).toNat+((some x).getD (↑x_9.length:Int)-none.getD (0:Int)).toNat) x_9)).length<=100000000/\((↑(List.drop (none.getD (0:Int)).toNat (List.take ((none.getD (0:Int)).toNat+((some x).getD (↑x_9.length:Int)-none.getD (0:Int)).toNat) x_9)).length:Int)-(↑(List.length (scanR (List.drop (none.getD (0:Int)).toNat (List.take ((none.getD (0:Int)).toNat+((some x).getD (↑x_9.length:Int)-none.getD (0:Int)).toNat) x_9)))):Int)≠x->Q0 () (Err.no (10:Int)) x_11)/\(¬(↑(List.drop (none.getD (0:Int)).toNat (List.take ((none.getD (0:Int)).toNat+((some x).getD (↑x_9.length:Int)-none.getD (0:Int)).toNat) x_9)).length:Int)-(↑(List.length (scanR (List.drop (none.getD (0:Int)).toNat (List.take ((none.getD (0:Int)).toNat+((some x).getD (↑x_9.length:Int)-none.getD (0:Int)).toNat) x_9)))):Int)≠x->Q1 x_2 x_3 (List.drop (none.getD (0:Int)).toNat (List.take ((none.getD (0:Int)).toNat+((some x).getD (↑x_9.length:Int)-none.getD (0:Int)).toNat) x_9)) (scanL (List.drop (none.getD (0:Int)).toNat (List.take ((none.getD (0:Int)).toNat+((some x).getD (↑x_9.length:Int)-none.getD (0:Int)).toNat) x_9))) x_6 (decide (x_7=true)) x_11 Err.nil)))))))/\(¬(↑x.lasts.length:Int)=0->x.Ok/\((↑x.lasts.length:Int)<6->(Err.no (2:Int)≠Err.nil->Q0 () (Err.no (2:Int)) x)/\(¬Err.no (2:Int)≠Err.nil->∃ (I:Int->Int->Int->Int->List UInt8->List (List UInt8)->List (List UInt8)->Bool->Dk->Prop),∃ (m:Int->Int->Int->Int->List UInt8->List (List UInt8)->List (List UInt8)->Bool->Dk->Nat),I (0:Int) (0:Int) (0:Int) (0:Int) [] [] [] false x/\∀ (x x_1 x_2 x_3:Int) (x_4:List UInt8) (x_5 x_6:List (List UInt8)) (x_7:Bool) (x_8:Dk),I x x_1 x_2 x_3 x_4 x_5 x_6 x_7 x_8->(x_1<2->x_8.Ok/\((hdA x_8 x_1).snd.snd.snd≠Err.nil->Q0 () (hdA x_8 x_1).snd.snd.snd x_8)/\(¬(hdA x_8 x_1).snd.snd.snd≠Err.nil->(x_2<(hdA x_8 x_1).fst->in64 (x_1+1)/\I (hdA x_8 x_1).snd.snd.fst (x_1+1) (hdA x_8 x_1).fst (hdA x_8 x_1).snd.fst x_4 x_5 x_6 (decide (x_7=true)) x_8/\m (hdA x_8 x_1).snd.snd.fst (x_1+1) (hdA x_8 x_1).fst (hdA x_8 x_1).snd.fst x_4 x_5 x_6 (decide (x_7=true)) x_8<m x x_1 x_2 x_3 x_4 x_5 x_6 x_7 x_8)/\(¬x_2<(hdA x_8 x_1).fst->in64 (x_1+1)/\I x (x_1+1) x_2 x_3 x_4 x_5 x_6 (decide (x_7=true)) x_8/\m x (x_1+1) x_2 x_3 x_4 x_5 x_6 (decide (x_7=true)) x_8<m x x_1 x_2 x_3 x_4 x_5 x_6 x_7 x_8)))/\(¬x_1<2->(x_2=0->Q0 () (Err.no (10:Int)) x_8)/\(¬x_2=0->x_8.Ok/\in64 (halfS x_8 * 256)/\(halfS x_8 * 256<x->Q0 () (Err.no (10:Int)) x_8)/\(¬halfS x_8 * 256<x->x_8.Ok/\in64 (x_3 * halfS x_8)/\in64 ((2:Int)+x_3 * halfS x_8)/\∃ (I:List UInt8->Int->Dk->Prop),∃ (m:List UInt8->Int->Dk->Nat),I [] ((2:Int)+x_3 * halfS x_8) x_8/\∀ (x_9:List UInt8) (x_10:Int) (x_11:Dk),I x_9 x_10 x_11->((↑x_9.length:Int)<x->x_11.Ok/\(erN (x_11.read x_10).snd≠Err.nil->(erN (x_11.read x_10).snd≠Err.nil->erN (x_11.read x_10).snd=Err.no (erN (x_11.read x_10).snd).n0)/\Q0 () (inE ([114,101,97,100]:List UInt8) (erN (x_11.read x_10).snd)) x_11)/\(¬erN (x_11.read x_10).snd≠Err.nil->(x_9.length+List.length (x_11.read x_10).fst) * (some (1:Nat)).getD (0:Nat)<=140737488355328/\in64 (x_10+1)/\I (x_9++(x_11.read x_10).fst) (x_10+1) x_11/\m (x_9++(x_11.read x_10).fst) (x_10+1) x_11<m x_9 x_10 x_11))/\(¬(↑x_9.length:Int)<x->(0:Int)<=x/\x<=(↑x_9.length:Int)/\(List.drop (none.getD (0:Int)).toNat (List.take ((none.getD (0:Int)).toNat+((some x).getD (↑x_9.length:Int)-none.getD (0:Int)).toNat) x_9)).length<=100000000/\((↑(List.drop (none.getD (0:Int)).toNat (List.take ((none.getD (0:Int)).toNat+((some x).getD (↑x_9.length:Int)-none.getD (0:Int)).toNat) x_9)).length:Int)-(↑(List.length (scanR (List.drop (none.getD (0:Int)).toNat (List.take ((none.getD (0:Int)).toNat+((some x).getD (↑x_9.length:Int)-none.getD (0:Int)).toNat) x_9)))):Int)≠x->Q0 () (Err.no (10:Int)) x_11)/\(¬(↑(List.drop (none.getD (0:Int)).toNat (List.take ((none.getD (0:Int)).toNat+((some x).getD (↑x_9.length:Int)-none.getD (0:Int)).toNat) x_9)).length:Int)-(↑(List.length (scanR (List.drop (none.getD (0:Int)).toNat (List.take ((none.getD (0:Int)).toNat+((some x).getD (↑x_9.length:Int)-none.getD (0:Int)).toNat) x_9)))):Int)≠x->Q1 x_2 x_3 (List.drop (none.getD (0:Int)).toNat (List.take ((none.getD (0:Int)).toNat+((some x).getD (↑x_9.length:Int)-none.getD (0:Int)).toNat) x_9)) (scanL (List.drop (none.getD (0:Int)).toNat (List.take ((none.getD (0:Int)).toNat+((some x).getD (↑x_9.length:Int)-none.getD (0:Int)).toNat) x_9))) x_6 (decide (x_7=true)) x_11 Err.nil)))))))/\(¬(↑x.lasts.length:Int)<6->(Err.nil≠Err.nil->Q0 () Err.nil x)/\(¬Err.nil≠Err.nil->∃ (I:Int->Int->Int->Int->List UInt8->List (List UInt8)->List (List UInt8)->Bool->Dk->Prop),∃ (m:Int->Int->Int->Int->List UInt8->List (List UInt8)->List (List UInt8)->Bool->Dk->Nat),I (0:Int) (0:Int) (0:Int) (0:Int) [] [] [] false x/\∀ (x x_1 x_2 x_3:Int) (x_4:List UInt8) (x_5 x_6:List (List UInt8)) (x_7:Bool) (x_8:Dk),I x x_1 x_2 x_3 x_4 x_5 x_6 x_7 x_8->(x_1<2->x_8.Ok/\((hdA x_8 x_1).snd.snd.snd≠Err.nil->Q0 () (hdA x_8 x_1).snd.snd.snd x_8)/\(¬(hdA x_8 x_1).snd.snd.snd≠Err.nil->(x_2<(hdA x_8 x_1).fst->in64 (x_1+1)/\I (hdA x_8 x_1).snd.snd.fst (x_1+1) (hdA x_8 x_1).fst (hdA x_8 x_1).snd.fst x_4 x_5 x_6 (decide (x_7=true)) x_8/\m (hdA x_8 x_1).snd.snd.fst (x_1+1) (hdA x_8 x_1).fst (hdA x_8 x_1).snd.fst x_4 x_5 x_6 (decide (x_7=true)) x_8<m x x_1 x_2 x_3 x_4 x_5 x_6 x_7 x_8)/\(¬x_2<(hdA x_8 x_1).fst->in64 (x_1+1)/\I x (x_1+1) x_2 x_3 x_4 x_5 x_6 (decide (x_7=true)) x_8/\m x (x_1+1) x_2 x_3 x_4 x_5 x_6 (decide (x_7=true)) x_8<m x x_1 x_2 x_3 x_4 x_5 x_6 x_7 x_8)))/\(¬x_1<2->(x_2=0->Q0 () (Err.no (10:Int)) x_8)/\(¬x_2=0->x_8.Ok/\in64 (halfS x_8 * 256)/\(halfS x_8 * 256<x->Q0 () (Err.no (10:Int)) x_8)/\(¬halfS x_8 * 256<x->x_8.Ok/\in64 (x_3 * halfS x_8)/\in64 ((2:Int)+x_3 * halfS x_8)/\∃ (I:List UInt8->Int->Dk->Prop),∃ (m:List UInt8->Int->Dk->Nat),I [] ((2:Int)+x_3 * halfS x_8) x_8/\∀ (x_9:List UInt8) (x_10:Int) (x_11:Dk),I x_9 x_10 x_11->((↑x_9.length:Int)<x->x_11.Ok/\(erN (x_11.read x_10).snd≠Err.nil->(erN (x_11.read x_10).snd≠Err.nil->erN (x_11.read x_10).snd=Err.no (erN (x_11.read x_10).snd).n0)/\Q0 () (inE ([114,101,97,100]:List UInt8) (erN (x_11.read x_10).snd)) x_11)/\(¬erN (x_11.read x_10).snd≠Err.nil->(x_9.length+List.length (x_11.read x_10).fst) * (some (1:Nat)).getD (0:Nat)<=140737488355328/\in64 (x_10+1)/\I (x_9++(x_11.read x_10).fst) (x_10+1) x_11/\m (x_9++(x_11.read x_10).fst) (x_10+1) x_11<m x_9 x_10 x_11))/\(¬(↑x_9.length:Int)<x->(0:Int)<=x/\x<=(↑x_9.length:Int)/\(List.drop (none.getD (0:Int)).toNat (List.take ((none.getD (0:Int)).toNat+((some x).getD (↑x_9.length:Int)-none.getD (0:Int)).toNat) x_9)).length<=100000000/\((↑(List.drop (none.getD (0:Int)).toNat (List.take ((none.getD (0:Int)).toNat+((some x).getD (↑x_9.length:Int)-none.getD (0:Int)).toNat) x_9)).length:Int)-(↑(List.length (scanR (List.drop (none.getD (0:Int)).toNat (List.take ((none.getD (0:Int)).toNat+((some x).getD (↑x_9.length:Int)-none.getD (0:Int)).toNat) x_9)))):Int)≠x->Q0 () (Err.no (10:Int)) x_11)/\(¬(↑(List.drop (none.getD (0:Int)).toNat (List.take ((none.getD (0:Int)).toNat+((some x).getD (↑x_9.length:Int)-none.getD (0:Int)).toNat) x_9)).length:Int)-(↑(List.length (scanR (List.drop (none.getD (0:Int)).toNat (List.take ((none.getD (0:Int)).toNat+((some x).getD (↑x_9.length:Int)-none.getD (0:Int)).toNat) x_9)))):Int)≠x->Q1 x_2 x_3 (List.drop (none.getD (0:Int)).toNat (List.take ((none.getD (0:Int)).toNat+((some x).getD (↑x_9.length:Int)-none.getD (0:Int)).toNat) x_9)) (scanL (List.drop (none.getD (0:Int)).toNat (List.take ((none.getD (0:Int)).toNat+((some x).getD (↑x_9.length:Int)-none.getD (0:Int)).toNat) x_9))) x_6 (decide (x_7=true)) x_11 Err.nil))))))))
theorem Vopen_eq {x:Dk} {Q0:Unit->Err->Dk->Prop} {Q1:Int->Int->Str->List Str->List Str->Bool->Dk->Err->Prop}:@Eq Prop (Vopen x Q0 Q1) (vcFun (E:=NI36) (inlHN NI36 H1 anopen 3) (anopen 18) Try.f18 [.ref 0 0] [(0,.ob (N:=U) 0 1 x)] [] 2 (endG NI36 [(0,.ob (N:=U) 0 1 x)] 2 2 [[.slot 0 (.nilp),.slot 1 (.err),.tree [] [.ob (some 200) 0]],[.tree [(0,0)] [.own none 54 [.to 1,.v (.int .i64),.v (.int .i64),.v (.str),.v (.acc 9),.v (.acc 9),.v (.bool)],.ob (some 200) 0],.slot 1 (.err)]] ((Q0,fun _ _ _=>(0:Nat)),((Q1,fun _ _ _ _ _ _ _ _=>(0:Nat)),())))):=by kernel_rfl
theorem Vopen_ok {x:Dk} {Q0:Unit->Err->Dk->Prop} {Q1:Int->Int->Str->List Str->List Str->Bool->Dk->Err->Prop} (h:Vopen x Q0 Q1):vcFun (E:=NI36) (inlHN NI36 H1 anopen 3) (anopen 18) Try.f18 [.ref 0 0] [(0,.ob (N:=U) 0 1 x)] [] 2 (endG NI36 [(0,.ob (N:=U) 0 1 x)] 2 2 [[.slot 0 (.nilp),.slot 1 (.err),.tree [] [.ob (some 200) 0]],[.tree [(0,0)] [.own none 54 [.to 1,.v (.int .i64),.v (.int .i64),.v (.str),.v (.acc 9),.v (.acc 9),.v (.bool)],.ob (some 200) 0],.slot 1 (.err)]] ((Q0,fun _ _ _=>(0:Nat)),((Q1,fun _ _ _ _ _ _ _ _=>(0:Nat)),()))):=by rw [<- Vopen_eq]; exact h
set_option maxHeartbeats 1000000 in
theorem popen (x:Dk) (ok:x.Ok):Vopen x (fun y0 y1 y2=>(opnS x).1≠.nil/\y0=()/\y1=(opnS x).1/\y2=x) (fun y0 y1 y2 y3 y4 y5 y6 y7=>(opnS x).1=.nil/\y0=(opnS x).2.1/\y1=(opnS x).2.2.1/\y2=(opnS x).2.2.2.1/\y3=(opnS x).2.2.2.2/\y4=([]:List Str)/\y5=false/\y6=x/\y7=Err.nil):=by
 unfold Vopen
 have p:=ok.pos
 have pm:=ok.max
 refine ⟨ok,fun h=>absurd h (by omega),fun h=>⟨ok,fun h6=>⟨fun _=>?_,fun hn=>absurd hn (by simp)⟩,fun h6=>⟨fun hn=>absurd rfl hn,fun _=>?_⟩⟩⟩
 . have e:opnS x=(.no 2,0,0,[],[]):=by
     unfold opnS
     rw [fitE_2 p (by omega),if_pos (by simp)]
   rw [e]; exact ⟨by simp,rfl,rfl,rfl⟩
 have e:opnS x=opn2 x:=by
  unfold opnS
  rw [fitE_0 (by omega),if_neg (by simp)]
 rw [e]
 clear e
 refine ⟨fun n a t hh b r v dd y=>y=x/\b=[]/\r=[]/\v=[]/\dd=false/\0<=a/\a<=2/\0<=hh/\hh<=1/\0<=n/\n<4294967296/\opHf x (2-a).toNat a (t,hh,n)=opH x,fun _ a _ _ _ _ _ _ _=>(2-a).toNat,⟨rfl,rfl,rfl,rfl,rfl,by decide,by decide,by decide,by decide,by decide,by decide,rfl⟩,?_⟩
 rintro n a t hh b r v dd y ⟨rfl,rfl,rfl,rfl,rfl,a0,a1,h0,h1,n0,n1,hi⟩
 have ed:decide (false=true)=false:=rfl
 refine ⟨fun h2=>⟨ok,fun he=>?_,fun he=>?_⟩,fun h2=>?_⟩
 . rw [show (2-a).toNat=(2-(a+1)).toNat+1 by omega,opHf,if_pos he] at hi
   have e2:opn2 y=((hdA y a).2.2.2,0,0,[],[]):=by
    unfold opn2
    rw [<- hi,if_pos he]
   rw [e2]; exact ⟨he,rfl,rfl,rfl⟩
 . rw [show (2-a).toNat=(2-(a+1)).toNat+1 by omega,opHf,if_neg he] at hi
   obtain ⟨g1,g2,g3,g4⟩:=hdA_rg y a
   refine ⟨fun h3=>⟨⟨by omega,by omega⟩,⟨rfl,rfl,rfl,rfl,ed,by omega,by omega,g1,g2,g3,g4,?_⟩,by dsimp only; omega⟩,fun h3=>⟨⟨by omega,by omega⟩,⟨rfl,rfl,rfl,rfl,ed,by omega,by omega,h0,h1,n0,n1,?_⟩,by dsimp only; omega⟩⟩
   . rw [opH1,if_pos h3] at hi; exact hi
   . rw [opH1,if_neg h3] at hi; exact hi
 rw [show (2-a).toNat=0 by omega,opHf] at hi
 have e2:opn2 y=opn3 y (t,hh,n):=by
  unfold opn2
  rw [<- hi,if_neg (by simp)]
 rw [e2]
 clear e2 hi
 have eQ:opn3 y (t,hh,n)=opn3 y (t,hh,n):=rfl
 rw [ed]
 refine ⟨fun h3=>?_,fun h3=>⟨ok,⟨by have:=half_at ok; omega,by have:=half_at ok; omega⟩,fun h4=>?_,fun h4=>?_⟩⟩
 . have e3:opn3 y (t,hh,n)=(.no 10,0,0,[],[]):=by
     unfold opn3; rw [if_pos h3]
   rw [e3]; exact ⟨by simp,rfl,rfl,rfl⟩
 . have e3:opn3 y (t,hh,n)=(.no 10,0,0,[],[]):=by
     unfold opn3; rw [if_neg h3,if_pos h4]
   rw [e3]; exact ⟨by simp,rfl,rfl,rfl⟩
 obtain ⟨m0,m1⟩:=mul_half ok h0 h1
 obtain ⟨f0,f1,_⟩:=half_at ok
 have e3:opn3 y (t,hh,n)=(if (readN y (manyS n) (2+hh * halfS y) []).2≠.nil then ((readN y (manyS n) (2+hh * halfS y) []).2,0,0,[],[]) else
  if (((readN y (manyS n) (2+hh * halfS y) []).1.take n.toNat).length:Int)-((scanR ((readN y (manyS n) (2+hh * halfS y) []).1.take n.toNat)).length:Int)≠n then (.no 10,0,0,[],[]) else
  (.nil,t,hh,(readN y (manyS n) (2+hh * halfS y) []).1.take n.toNat,scanL ((readN y (manyS n) (2+hh * halfS y) []).1.take n.toNat))):=by
  unfold opn3; rw [if_neg h3,if_neg h4]
 rw [e3]
 clear e3 eQ
 generalize hF:(2+hh * halfS y)=F
 have F0:0<=F/\F<=4097:=by omega
 generalize hR:readN y (manyS n) F []=R
 refine ⟨ok,⟨by omega,by omega⟩,⟨by omega,by omega⟩,fun b i z=>z=y/\∃ j:Nat,j<=manyS n/\b.length=256 * j/\i=F+j/\readN y (manyS n-j) i b=R,fun b _ _=>(n-b.length).toNat,⟨rfl,0,by omega,rfl,by omega,hR⟩,?_⟩
 rintro b i z ⟨rfl,j,j0,hb,rfl,hr⟩
 have hm:=many_lt n0 hb
 have hk:manyS n<=4096:=by unfold manyS; omega
 refine ⟨fun h5=>⟨ok,fun h6=>⟨fun _=>erN_no h6,?_⟩,fun h6=>?_⟩,fun h5=>?_⟩
 . rw [show manyS n-j=(manyS n-(j+1))+1 by omega,readN,if_neg (fun e=>h6 (erN_nil.2 e))] at hr
   have hne:inE sRd (erN (z.read (F+j)).2)≠.nil:=by
    unfold inE; rw [if_neg h6]; simp
   rw [<- hr,if_pos hne]; exact ⟨hne,rfl,rfl,rfl⟩
 . have hz:=erN_nil.1 (Classical.not_not.1 h6)
   rw [show manyS n-j=(manyS n-(j+1))+1 by omega,readN,if_pos hz] at hr
   have hl:=read_256 ok hz
   have e1:(some 1).getD 0=1:=rfl
   refine ⟨by rw [hl,e1]; omega,⟨by omega,by omega⟩,⟨rfl,j+1,by omega,by rw [List.length_append,hl]; omega,by omega,?_⟩,by dsimp only; rw [List.length_append,hl]; omega⟩
   exact hr
 . rw [show manyS n-j=0 by omega,readN] at hr
   rw [cut_take,<- hr]
   have ht:(b.take n.toNat).length=n.toNat:=by rw [List.length_take]; omega
   refine ⟨n0,by omega,by rw [ht]; omega,fun h6=>?_,fun h6=>?_⟩
   . rw [if_neg (by simp),if_pos h6]; exact ⟨by simp,rfl,rfl,rfl⟩
   . rw [if_neg (by simp),if_neg h6]; exact ⟨rfl,rfl,rfl,rfl,rfl,rfl,rfl,rfl,rfl⟩
noncomputable def gopens (x:Dk):PT U:=fun k=>cj [Dk.Ok x] (outS NI36 [(0,.ob (N:=U) 0 1 x)] 2 2 [[.slot 0 (.nilp),.slot 1 (.err),.tree [] [.ob (some 200) 0]],[.tree [(0,0)] [.own none 54 [.to 1,.v (.int .i64),.v (.int .i64),.v (.str),.v (.acc 9),.v (.acc 9),.v (.bool)],.ob (some 200) 0],.slot 1 (.err)]] (([(opnS x).1≠.nil],((),(opnS x).1,(x,()),())),(([(opnS x).1=.nil],((((opnS x).2.1,(opnS x).2.2.1,(opnS x).2.2.2.1,(opnS x).2.2.2.2,([]:List Str),false,()),x,()),Err.nil,())),())) k)
noncomputable def gopen:GD U:=⟨[],[],fun a its=>match a,its with | [.ref 0 0],[(0,.ob 0 1 x)]=>some (gopens x) | _,_=>none⟩
set_option maxHeartbeats 1000000 in
theorem gopen_ok (args:List (SV U)) (its:Items U) (S:PT U) (h:gopen.C args its=some S):GenOK Try.prog U eT Gl 18 args its (2 * its.length) S:=by
 unfold gopen at h
 simp only at h
 split at h
 . rename_i x
   cases h
   exact gs_ok NI36_ok (inlHN_ok NI36_ok H1_ok anopen 3) Try.func18 (n:=2) rfl (ss:=[[.slot 0 (.nilp),.slot 1 (.err),.tree [] [.ob (some 200) 0]],[.tree [(0,0)] [.own none 54 [.to 1,.v (.int .i64),.v (.int .i64),.v (.str),.v (.acc 9),.v (.acc 9),.v (.bool)],.ob (some 200) 0],.slot 1 (.err)]]) (R:=(([(opnS x).1≠.nil],((),(opnS x).1,(x,()),())),(([(opnS x).1=.nil],((((opnS x).2.1,(opnS x).2.2.1,(opnS x).2.2.2.1,(opnS x).2.2.2.2,([]:List Str),false,()),x,()),Err.nil,())),()))) (obs:=[Dk.Ok x]) rfl (fun ho=>Vopen_ok (popen x ho.1))
 . cases h
noncomputable def Nopen:Env:=NI36.addI 18 Try.f18
theorem Nopen_ok:EnvOK Nopen:=NI36_ok.addI Try.call18 Try.func18
noncomputable def Hopen:Nat->Option (GD U):=addF 18 gopen H1
theorem Hopen_ok:∀ K o args its S,Hopen K=some o->o.C args its=some S->GenOK Try.prog U eT Gl K args its (2 * its.length) S:=addH_ok gopen_ok H1_ok
end Go.Proofs.Ytckpdliipjekgaa
end
section
namespace Go.Proofs
open Go.Shelf
def Try.lays8n4_ren:Go.Shelf.Ren:=⟨fun | 4=>51 | n=>n,fun | 22=>29 | 25=>9 | 3=>3 | 4=>4 | 9=>9 | 20=>20 | 0=>0 | n=>n,fun | n=>n⟩
theorem Try.lays8n4:Go.Proofs.Lays8.n4 Try.prog Try.lays8n4_ren:={
 mixed:=by kernel_rfl
 f4:=⟨Try.f51.name,by decide,Try.func51.trans (congrArg some (by kernel_rfl))⟩
 t0:=Try.underlying0
 a0:=Try.isAgg0
 z0:=Try.sizeOf0
 v0:=Try.zeroValue0
 t3:=Try.underlying3
 a3:=Try.isAgg3
 z3:=Try.sizeOf3
 v3:=Try.zeroValue3
 t4:=Try.underlying4
 a4:=Try.isAgg4
 z4:=Try.sizeOf4
 v4:=Try.zeroValue4
 t9:=Try.underlying9
 a9:=Try.isAgg9
 z9:=Try.sizeOf9
 v9:=Try.zeroValue9
 t20:=Try.underlying20
 a20:=Try.isAgg20
 z20:=Try.sizeOf20
 v20:=Try.zeroValue20
 t22:=Try.underlying29
 a22:=Try.isAgg29
 z22:=Try.sizeOf29
 v22:=Try.zeroValue29 }
open Go.RowKit Go.Lib in
theorem Try.slices_Grow_room (base:Option Addr) (l c n:Nat) (w:World) (h1:l<=c) (h2:c<=9223372036854775807) (h3:n<=9223372036854775807) (h4:l+n<=c) :
  Calls Try.prog 51 #[.slice base l c,.int .i64 n] w fun e w'=>e=.returned (.slice base l c)/\w'=w:=Any8.slices_Grow_room Try.lays8n4 base l c n w h1 h2 h3 h4
open Go.RowKit Go.Lib in
theorem Try.slices_Grow_grow (i0:TypeInfo) (z:Value) (hi0:Try.prog.info? 9=some i0) (hz0:i0.zero=some z) (hs0:0<i0.size) (n:Nat) (w:World) (h0:0<n) (hbig:(0+n) * i0.bytes<=140737488355328) (h63:0+n<=4611686018427387904) :
  Calls Try.prog 51 #[.slice none 0 0,.int .i64 n] w fun e w'=>e=.returned (.slice (some ⟨w.heap.size,0,none⟩) 0 (grownCap w (0+n) 0 9))/\w'=w.drew.alloc (.cells (([]:List Value).toArray++Builtin.zeroCells z.cells (0+n-0)++Builtin.zeroCells z.cells (grownCap w (0+n) 0 9-(0+n))) 9):=Any8.slices_Grow_grow Try.lays8n4 i0 z hi0 hz0 hs0 none 0 0 n [] w (Nat.le_refl _) (by omega) hbig h63 (by rw [Nat.zero_mul]; rfl) (fun _=>rfl) (fun a h=>by cases h)
end Go.Proofs
end
section
namespace Go.Rx
open Go Go.Wk Go.Wl
section
variable {P:Program} {N:Uni} {T:ErrT} {G:Glob} {K nx t:Nat} {ρ:Env1} {Z Z':Nat->Prop} {w w':World}
def flatT (N:Uni) (t:Nat):Prop:=∀ (Z Z':Nat->Prop) (w:World) (cs:List Value) (x:N.U t),(N.tb t).r.rd Z w cs x->(N.tb t).r.rd Z' w cs x
theorem acFlat {v:Value} {l:List (N.U t)} {bs:List Nat} (hf:flatT N t) (h:Ac (N.tb t).r Z w v l bs):Ac (N.tb t).r Z' w v l bs:=by
 rcases h with h | ⟨b,cap,C,T,h1,h2,h3,h4,h5,h6⟩
 . exact .inl h
 . exact .inr ⟨b,cap,C,T,h1,h2,h3,h4,h5,fun i hi=>by
     obtain ⟨c,c1,c2,c3⟩:=h6 i hi
     exact ⟨c,c1,c2,hf _ _ _ _ _ c3⟩⟩
theorem gen_lend {args largs:List (SV N)} {its:Items N} {l':List (N.U t)} {ob:List Prop} (hf:flatT N t) (hc:ConOK P N T G K largs nx ⟨ob,[],.acc nx,[.ac t l']⟩)
  (hl:∀ (ρ:Env1) (Z:Nat->Prop) (w:World) (vs:List Value),(∀ b,Z b->b<w.heap.size)->(∀ p∈its,Go.Rx.holds N T ρ p.1 Z w p.2)->Rep N T ρ Z w (.tuple vs.toArray) (.tup args)->Rep N T (fun _=>none) (seen Z w []) w (.tuple vs.toArray) (.tup largs)) :
  GenOK P N T G K args its nx (fun k=>True->k (.acc nx) ([(nx,.ac t l')]++its) (nx+1)) :=
 gen_quiet fun ρ Z w vs hfr hz hg ha hp=>by
  have h1:=hl ρ Z w vs hz (fun p hp'=>(hp p hp').1) ha
  have hg1:G.is (seen Z w []) w:=G.stab hg (Ext.refl [] w) (fun _ h=>by cases h) (fun b hz hb=>⟨hb,fun h=>by cases h⟩)
  refine (hc.run (fun _=>none) (seen Z w []) w vs (fun _ _=>rfl) (fun b hb=>hb.1) hg1 h1).mono fun v w' ⟨ρ',Z',_,_,h4,_,hr,hs,_⟩=>?_
  have ok:=hs.ok 0 _ (show (toIts N T ρ' [] (number nx [.ac t l']))[0]?=some (toIt N T ρ' [] nx (.ac t l')) from rfl)
  obtain ⟨L,hL,hn,hlen,hac⟩:=ok.holds
  have hft:foot N ρ' nx (.ac t l')=L.bs:=foot_ac hL
  have hfresh:∀ b∈L.bs,w.heap.size<=b:=fun b hb=>by
   have hnz:=ok.notZ b (show b∈foot N ρ' nx (.ac t l') by rw [hft]; exact hb)
   exact Nat.not_lt.1 fun hlt=>hnz (h4 b ⟨hlt,fun h=>by cases h⟩)
  cases hr with | acc hL' =>
  rw [hL] at hL'; cases hL'
  have hsub:=rset_sub (L:=L) (hfr nx (Nat.le_refl _))
  refine ⟨rset ρ nx L,Z,hsub,fun i hi=>by unfold rset; rw [if_neg (by omega)]; exact hfr i (by omega),fun _ h=>h,fun _ h=>.inl h,?_,.acc rset_self⟩
  refine (Sep.nil hz).add hs.ext ⟨L,rset_self,hn,hlen,acFlat hf hac⟩ toIt_stab (fun b hb=>?_) rfl
  have hb:b∈foot N (rset ρ nx L) nx (.ac t l'):=hb
  rw [foot_ac rset_self] at hb
  exact ⟨hfresh b hb,hac.lt b hb⟩
end
end Go.Rx
end
section
namespace Go.Proofs.Ytckpdliipjekgaa
open Go Go.Wk Go.Wl Go.Rx Go.Wa Go.Proofs Go.RowKit
theorem below_ext {w w1 w':World} (hs:Sim w w1) (h:RowKit.Below w1.heap.size w1 w'):Ext [] w w':=by
 obtain ⟨k,rfl⟩:=hs
 exact ⟨h.os,h.tape,h.output,h.size,fun b hb _=>h.block b hb⟩
theorem flat9:flatT U 9:=fun _ _ _ _ _ h=>h
theorem row_ac {Z:Nat->Prop} {w w2:World} {v':Value} {n:Nat} {xs:List Value} {l:List Str} (hl:l.length=n) (hl63:∀ s∈l,s.length<=9223372036854775807) (hx:xs=l.map sv) (ho:w2.ownsRow w.heap.size 9 1 v' n xs):∃ bs,(∀ b∈bs,w.heap.size<=b)/\Ac dStr Z w2 v' l bs:=by
 subst hx
 rcases ho.2 with ⟨hv,hn⟩ | ⟨g,cap',cur,hv,hbg,hg,hn,hcm,hcs,hct⟩
 . exact ⟨[],fun _ h=>(by cases h),.inl ⟨hv,List.eq_nil_of_length_eq_zero (by omega),rfl⟩⟩
 . refine ⟨[g],fun b hb=>by rw [List.mem_singleton.1 hb]; exact hbg,.inr ⟨g,cap',cur.toList,9,by rw [hl]; exact hv,rfl,⟨(0,0),.inl rfl,hg⟩,by rw [Array.length_toList]; exact hcs,by omega,fun i hi=>?_⟩⟩
   refine ⟨[sv l[i]],rfl,fun j hj=>?_,⟨rfl,hl63 _ (List.getElem_mem _)⟩⟩
   have hj0:j=0:=by have hj:j<1:=hj; omega
   subst hj0
   have e3:i * dStr.sz+0=i:=by show i * 1+0=i; omega
   rw [e3]
   have:=congrArg (fun x=>x[i]?) hct
   rw [Nat.mul_one,List.getElem?_take_of_lt (by omega),List.getElem?_map,List.getElem?_eq_getElem hi] at this
   simpa using this
theorem clone_run (l:List Str) (D Z:Nat->Prop) (w w1:World) (hs:Sim w w1) (v:Value) (hv:(dSlice dStr).rd D w [v] l) (h1:l.length<=1000000) :
  Calls Try.prog 33 #[v] w1 fun e w2=>∃ v' bs,e=.returned v'/\Ext [] w w2/\(∀ b∈bs,w.heap.size<=b)/\Ac dStr Z w2 v' l bs:=by
 have hsz:w1.heap.size=w.heap.size:=by obtain ⟨k,rfl⟩:=hs; rfl
 obtain ⟨hl63,A,cap,e,⟨_,hcap⟩,hc⟩:=hv
 simp only [List.cons.injEq,and_true] at e
 subst e
 by_cases h0:l.length=0
 . have hl:=List.eq_nil_of_length_eq_zero h0
   rw [h0]
   cases A with
   | none=>exact Calls.mono (Try.slices_Clone_string_nil 0 cap w1) fun e w2 ⟨he,hw⟩=>⟨_,[],he,by subst hw; exact sim_ext hs (Ext.refl _ _),fun _ h=>(by cases h),.inl ⟨rfl,hl,rfl⟩⟩
   | some a =>
    refine Calls.mono (Try.slices_Clone_string_zero a cap w1) fun e w2 ⟨v',he,ho,_,hbl⟩=>?_
    rw [hsz] at ho
    obtain ⟨bs,hb,hac⟩:=row_ac (Z:=Z) (l:=l) h0 (fun s hs=>by rw [hl] at hs; cases hs) (by rw [hl]; rfl) ho
    exact ⟨v',bs,he,below_ext hs hbl,hb,hac⟩
 obtain ⟨b,o,c,eA,hb,hcell,hrd⟩:=hc 0 (by omega)
 subst eA
 obtain ⟨xs,hxs⟩:∃ xs:List ByteArray,xs=l.map fun s=>⟨s.toArray⟩:=⟨_,rfl⟩
 have el:xs.length=l.length:=by rw [hxs,List.length_map]
 have hget:∀ (j:Nat) (hj:j<l.length),xs[j]?=some ⟨(l[j]).toArray⟩:=fun j hj=>by
  rw [hxs,List.getElem?_map,List.getElem?_eq_getElem hj]; rfl
 have hcells:∀ (j:Nat),j<xs.length->w1.cell? ⟨b,o+j,none⟩=some (.string (xs.getD j ByteArray.empty)):=fun j hj=>by
  rw [el] at hj
  rw [Sim.cell hs,List.getD_eq_getElem?_getD,hget j hj]
  obtain ⟨b',o',c',eA',_,hcell',hrd'⟩:=hc j hj
  simp only [Option.some.injEq,Addr.mk.injEq] at eA'
  obtain ⟨rfl,rfl,-⟩:=eA'
  have hc1:=hrd'.1
  subst hc1
  obtain ⟨C,T,z,hh,hC⟩:=hcell'
  have:=hC 0 (by simp)
  have e1:o+j * dStr.sz+0=o+j:=by show o+j * 1+0=o+j; omega
  rw [e1] at this
  unfold World.cell?
  simp only [hh]
  simpa [sv] using this
 refine Calls.mono (Try.slices_Clone_string b o l.length cap xs w1 (by rw [el]; exact Nat.le_refl _) (by omega) hcells) fun e w2 ⟨v',he,ho,hne,hbl⟩=>?_
 rw [hsz] at ho
 obtain ⟨bs,hb',hac⟩:=row_ac (Z:=Z) (l:=l) rfl (fun s hs=>by
  obtain ⟨i,hi,rfl⟩:=List.getElem_of_mem hs
  obtain ⟨_,_,_,_,_,_,h⟩:=hc i hi
  exact h.2) (by rw [hxs,List.take_of_length_le (by rw [List.length_map]; exact Nat.le_refl _),List.map_map]; rfl) ho
 exact ⟨v',bs,he,below_ext hs hbl,hb',hac⟩
theorem ac_con {K nx:Nat} {args:List (SV U)} {l:List Str} {ob:List Prop} (hl:l.length<=1000000)
  (h:∀ (ρ:Env1) (Z:Nat->Prop) (w:World) (vs:List Value),Rep U eT ρ Z w (.tuple vs.toArray) (.tup args)->∀ w1,Sim w w1->Calls Try.prog K vs.toArray w1 fun e w2=>∃ v' bs,e=.returned v'/\Ext [] w w2/\(∀ b∈bs,w.heap.size<=b)/\Ac dStr Z w2 v' l bs) :
  ConOK Try.prog U eT Gl K args nx ⟨ob,[],.acc nx,[.ac (N:=U) 9 l]⟩:=⟨fun ρ Z w vs hfr hz _ ha w1 hs=>by
 refine Calls.mono (h ρ Z w vs ha w1 hs) fun e w2 ⟨v',bs,he,hx,hb,hac⟩=>?_
 obtain ⟨A,cap,rfl⟩:∃ A cap,v'=.slice A l.length cap:=by
  rcases hac with ⟨e1,e2,_⟩ | ⟨b,cap,C,T,e1,_⟩
  . subst e1; subst e2; exact ⟨_,_,rfl⟩
  . exact ⟨_,_,e1⟩
 have hsub:=rset_sub (L:=⟨0,A,l.length,cap,bs⟩) (hfr nx (Nat.le_refl _))
 refine ⟨_,w2,he,Sim.refl _,rset ρ nx ⟨0,A,l.length,cap,bs⟩,Z,hsub,fun i hi=>by have hi:nx+1<=i:=hi; unfold rset; rw [if_neg (by omega)]; exact hfr i (by omega),fun _ h=>h,fun _ h=>.inl h,.acc rset_self,?_,trivial⟩
 refine (Sep.nil hz).add hx ⟨_,rset_self,rfl,(show l.length<=9223372036854775807 by omega),hac⟩ toIt_stab (fun b hb'=>?_) rfl
 have hb':b∈foot U (rset ρ nx ⟨0,A,l.length,cap,bs⟩) nx (.ac (N:=U) 9 l):=hb'
 have hb':b∈bs:=Eq.mp (congrArg (b∈·) (foot_ac (N:=U) (id:=nx) (t:=9) (l:=(l:List (U.U 9))) (rset_self (ρ:=ρ) (id:=nx)))) hb'
 exact ⟨hb b hb',hac.lt b hb'⟩⟩
theorem clone_con {nx:Nat} {l:List Str} {ob:List Prop} (hl:l.length<=1000000):ConOK Try.prog U eT Gl 33 [.sl (N:=U) 9 l] nx ⟨ob,[],.acc nx,[.ac (N:=U) 9 l]⟩ :=
 ac_con hl fun ρ Z w vs ha w1 hs=>by
  obtain ⟨v1,r1,rfl,hv1,ha⟩:=Rep.tup_cons ha
  obtain rfl:=tup0_inv ha
  cases hv1 with | sl hv=>exact clone_run l Z Z w w1 hs v1 hv hl
def fCl:FC U:=⟨[],[],fun a its=>match a,its with
 | [.acc 0],[(0,.ac 9 l)]=>some ⟨[List.length (α:=Str) l<=1000000],[],.acc 2,[(2,.ac (N:=U) 9 l),(0,.ac (N:=U) 9 l)],3⟩
 | [.sl 9 l],[]=>some ⟨[List.length (α:=Str) l<=1000000],[],.acc 0,[(0,.ac (N:=U) 9 l)],1⟩
 | [.nils],[]=>some ⟨[],[],.acc 0,[(0,.ac (N:=U) 9 ([]:List Str))],1⟩
 | _,_=>none⟩
theorem ac_sl {ρ:Env1} {Z:Nat->Prop} {w:World} {v:Value} {id:Nat} {l:List Str} (hz:∀ b,Z b->b<w.heap.size) (hp:Go.Rx.holds U eT ρ id Z w (.ac (N:=U) 9 l)) (h:Rep U eT ρ Z w v (.acc id)):(dSlice dStr).rd (Go.Rx.seen Z w []) w [v] l:=by
 obtain ⟨L,hL,hn,hlen,hac⟩:=hp
 cases h with | acc hL' =>
 rw [hL] at hL'; cases hL'
 exact Rd.weak _ (Ac.rd hac hlen) fun b hb hlt=>⟨hlt,fun h=>by cases h⟩
theorem fCl_ok (args:List (SV U)) (its:Items U) (r:FR U) (h:fCl.C args its=some r) (ho:allP r.ob):GenOK Try.prog U eT Gl 33 args its (2 * its.length) (fun k=>allP r.hy->k r.v r.its r.n):=by
 unfold fCl at h
 simp only at h
 split at h
 . rename_i l
   cases h
   refine gen_lend (t:=9) (l':=l) (ob:=[]) flat9 (clone_con (l:=l) ho.1) fun ρ Z w vs hz hp ha=>?_
   obtain ⟨v1,r1,rfl,h1,ha⟩:=Rep.tup_cons ha
   obtain rfl:=tup0_inv ha
   exact .tup1 (cs:=[]) (.sl (ac_sl hz (hp _ (List.mem_singleton.2 rfl)) h1)) .tup0
 . rename_i l
   cases h
   refine gen_lend (t:=9) (l':=l) (ob:=[]) flat9 (clone_con (l:=l) ho.1) fun ρ Z w vs hz hp ha=>?_
   obtain ⟨v1,r1,rfl,h1,ha⟩:=Rep.tup_cons ha
   obtain rfl:=tup0_inv ha
   cases h1 with | sl h1=>exact .tup1 (cs:=[]) (.sl (Rd.weak _ h1 fun b hb hlt=>⟨hlt,fun h=>by cases h⟩)) .tup0
 . cases h
   refine gen_lend (t:=9) (l':=([]:List Str)) (ob:=[]) (largs:=[.sl (N:=U) 9 ([]:List Str)]) flat9 (clone_con (by decide)) fun ρ Z w vs hz hp ha=>?_
   obtain ⟨v1,r1,rfl,h1,ha⟩:=Rep.tup_cons ha
   obtain rfl:=tup0_inv ha
   cases h1 with | nils=>exact .tup1 (cs:=[]) (.sl dSlice_nil) .tup0
 . cases h
noncomputable def i9:TypeInfo:=(Try.prog.info? 9).get (show (Try.prog.info? 9).isSome=true by kernel_rfl)
theorem i9_eq:Try.prog.info? 9=some i9:=(Option.some_get _).symm
theorem i9_zero:i9.zero=some (.string ByteArray.empty):=by kernel_rfl
theorem i9_size:i9.size=1:=by kernel_rfl
theorem i9_bytes:i9.bytes=16:=by kernel_rfl
theorem zeros_size (z:Array Value) (n:Nat):(Builtin.zeroCells z n).size=n * z.size:=by
 unfold Builtin.zeroCells
 rw [Array.size_map,Array.size_range]
theorem drew_ext {w w1:World} (hs:Sim w w1) (o:Obj):Ext [] w (w1.drew.alloc o):=by
 obtain ⟨k,rfl⟩:=hs
 refine ⟨rfl,rfl,rfl,?_,fun k' hk' _=>?_⟩
 . show w.heap.size<=(w.heap.push o).size
   rw [Array.size_push]; omega
 . show (w.heap.push o)[k']?=_
   rw [Array.getElem?_push,if_neg (by omega)]
theorem grow_con {nx:Nat} {n:Int} {ob:List Prop} (h0:0<=n) (h1:n<=1000000):ConOK Try.prog U eT Gl 51 [.nils,.int .i64 n] nx ⟨ob,[],.acc nx,[.ac (N:=U) 9 ([]:List Str)]⟩ :=
 ac_con (by decide) fun ρ Z w vs ha w1 hs=>by
  have hsz:w1.heap.size=w.heap.size:=by obtain ⟨k,rfl⟩:=hs; rfl
  obtain ⟨v1,r1,rfl,hv1,ha⟩:=Rep.tup_cons ha
  obtain ⟨v2,r2,rfl,hv2,ha⟩:=Rep.tup_cons ha
  obtain rfl:=tup0_inv ha
  cases hv1 with | nils =>
  cases hv2 with | int _ =>
  obtain ⟨k,rfl⟩:∃ k:Nat,n=k:=⟨n.toNat,by omega⟩
  by_cases hk:k=0
  . subst hk
    exact Calls.mono (Try.slices_Grow_room none 0 0 0 w1 (Nat.le_refl _) (by omega) (by omega) (Nat.le_refl _)) fun e w2 ⟨he,hw⟩=>⟨_,[],he,by subst hw; exact sim_ext hs (Ext.refl _ _),fun _ h=>(by cases h),.inl ⟨rfl,rfl,rfl⟩⟩
  . refine Calls.mono (Try.slices_Grow_grow i9 _ i9_eq i9_zero (by rw [i9_size]; decide) k w1 (by omega) (by rw [i9_bytes]; omega) (by omega)) fun e w2 ⟨he,hw⟩=>?_
    have hge:=grownCap_ge w1 (0+k) 0 9
    have hz:(([]:List Value).toArray++Builtin.zeroCells (Value.string ByteArray.empty).cells (0+k-0)++Builtin.zeroCells (Value.string ByteArray.empty).cells (grownCap w1 (0+k) 0 9-(0+k))).size=grownCap w1 (0+k) 0 9:=by
     rw [Array.size_append,Array.size_append,zeros_size,zeros_size]
     show 0+(0+k-0) * 1+(grownCap w1 (0+k) 0 9-(0+k)) * 1=_
     omega
    generalize ([]:List Value).toArray++Builtin.zeroCells (Value.string ByteArray.empty).cells (0+k-0)++Builtin.zeroCells (Value.string ByteArray.empty).cells (grownCap w1 (0+k) 0 9-(0+k))=arr at hw hz
    subst hw
    refine ⟨_,[w1.heap.size],he,drew_ext hs _,fun b hb=>by rw [List.mem_singleton.1 hb,hsz]; exact Nat.le_refl _,.inr ⟨w1.heap.size,grownCap w1 (0+k) 0 9,arr.toList,9,rfl,rfl,⟨(0,0),.inl rfl,?_⟩,?_,Nat.zero_le _,fun i hi=>absurd hi (Nat.not_lt_zero _)⟩⟩
    . show (w1.heap.push _)[w1.heap.size]?=_
      rw [Array.getElem?_push,if_pos rfl,Array.toArray_toList]
    . rw [Array.length_toList,hz]
      show _=_ * 1
      omega
def cGr (a:List (SV U)) (nx:Nat):Option (CR U):=match a with | [.nils,.int .i64 n]=>some ⟨[0<=n,n<=1000000],[],.acc nx,[.ac (N:=U) 9 ([]:List Str)]⟩ | _=>none
theorem cGr_ok (args:List (SV U)) (nx:Nat) (c:CR U) (h:cGr args nx=some c) (_:args.all pureS=true) (ho:allP c.ob):ConOK Try.prog U eT Gl 51 args nx c:=by
 unfold cGr at h
 split at h
 . cases h
   exact grow_con ho.1 ho.2.1
 . cases h
end Go.Proofs.Ytckpdliipjekgaa
end
section
namespace Go.Proofs.Ytckpdliipjekgaa
open Go Go.Wk Go.Wl Go.Rx Go.Wa 
noncomputable def N2:Env:=(Nopen.addC 51 cGr).addX 33 fCl
theorem N2_ok:EnvOK N2:=(Nopen_ok.addC Try.call51 cGr_ok).addX Try.call33 fCl_ok
def anct:Nat->Ann:=fun | 32=>⟨36,fun | 11=>some ⟨[25,26],[.slot 6 (.acc 9),.slot 27 (.int .i64)]⟩ | 3=>some ⟨[0,9,10],[.slot 3 (.int .i64),.slot 11 (.int .i64)]⟩ | _=>none,fun _=>none⟩ | _=>⟨0,fun _=>none,fun _=>none⟩
def Vct (ll:List (List Str)) (Q:List Str->Prop):Prop :=
∃ (I:Int->Int->Prop),∃ (m:Int->Int->Nat),I (0:Int) (0:Int)/\∀ (x x_1:Int),I x x_1->(x_1<(↑ll.length:Int)->(0:Int)<=x_1/\x_1<(↑ll.length:Int)/\in64 (x+(↑(ix ll x_1).length:Int))/\(x+(↑(ix ll x_1).length:Int)<0->False)/\(¬x+(↑(ix ll x_1).length:Int)<0->in64 (x_1+1)/\I (x+(↑(ix ll x_1).length:Int)) (x_1+1)/\m (x+(↑(ix ll x_1).length:Int)) (x_1+1)<m x x_1))/\(¬x_1<(↑ll.length:Int)->(0:Int)<=x/\x<=1000000/\∃ (I:List (List UInt8)->Int->Prop),∃ (m:List (List UInt8)->Int->Nat),I [] (0:Int)/\∀ (x:List (List UInt8)) (x_2:Int),I x x_2->(x_2<(↑ll.length:Int)->(0:Int)<=x_2/\x_2<(↑ll.length:Int)/\(x.length+(ix ll x_2).length) * (some (16:Nat)).getD (0:Nat)<=140737488355328/\in64 (x_2+1)/\I (x++ix ll x_2) (x_2+1)/\m (x++ix ll x_2) (x_2+1)<m x x_2)/\(¬x_2<(↑ll.length:Int)->Q x))
theorem Vct_ok {ll:List (List Str)} {Q:List Str->Prop} (h:Vct ll Q):vcFun (E:=N2) (inlHN N2 Hopen anct 2) (anct 32) Try.f32 [.sl (N:=U) 29 ll] [] [] 0 (resP N2 [.acc 9] Q):=Eq.mp (show Vct ll Q=vcFun (E:=N2) (inlHN N2 Hopen anct 2) (anct 32) Try.f32 [.sl (N:=U) 29 ll] [] [] 0 (resP N2 [.acc 9] Q) by kernel_rfl) h
theorem pct (ll:List (List Str)) (h0:ll.length<=1000) (h1:ll.flatten.length<=1000000):Vct ll (fun y0=>y0=ll.flatten):=by
 unfold Vct
 refine ⟨fun s i=>0<=i/\i<=ll.length/\0<=s/\s+((ll.drop i.toNat).flatten.length:Int)=(ll.flatten.length:Int),fun _ i=>((ll.length:Int)-i).toNat,⟨by omega,by omega,by omega,by show (0:Int)+_=_; rw [Int.zero_add]; rfl⟩,?_⟩
 rintro s i ⟨i0,i1,s0,hs⟩
 refine ⟨fun h=>?_,fun h=>⟨s0,by omega,?_⟩⟩
 . rw [drop_ix i0 h,List.flatten_cons,List.length_append] at hs
   exact ⟨i0,h,⟨by omega,by omega⟩,fun hn=>by omega,fun _=>⟨⟨by omega,by omega⟩,⟨by omega,by omega,by omega,by omega⟩,by dsimp only; omega⟩⟩
 refine ⟨fun x i=>0<=i/\i<=ll.length/\x++(ll.drop i.toNat).flatten=ll.flatten,fun _ i=>((ll.length:Int)-i).toNat,⟨by omega,by omega,rfl⟩,?_⟩
 rintro x i ⟨i0,i1,hx⟩
 refine ⟨fun h=>?_,fun h=>?_⟩
 . rw [drop_ix i0 h,List.flatten_cons,<- List.append_assoc] at hx
   have hl:=congrArg List.length hx
   rw [List.length_append,List.length_append] at hl
   have e:(some 16).getD 0=16:=rfl
   refine ⟨i0,h,?_,⟨by omega,by omega⟩,⟨by omega,by omega,hx⟩,by dsimp only; omega⟩
   rw [e]
   generalize ll.flatten.length=A at hl h1
   generalize x.length=B at hl ⊢
   generalize (ix ll i).length=D at hl ⊢
   omega
 . rw [List.drop_of_length_le (by omega),List.flatten_nil,List.append_nil] at hx
   exact hx
def cct (a:List (SV U)) (nx:Nat):Option (CR U):=match a with | [.sl 29 ll]=>some ⟨[List.length (α:=List Str) ll<=1000,List.length (α:=Str) (List.flatten ll)<=1000000],[],.acc nx,[.ac 9 (ll.flatten)]⟩ | _=>none
theorem cct_ok (args:List (SV U)) (nx:Nat) (c:CR U) (h:cct args nx=some c) (hp:args.all pureS=true) (ho:allP c.ob):ConOK N2.P N2.N N2.T N2.G 32 args nx c:=by
 unfold cct at h
 split at h
 . rename_i ll
   cases h
   exact con1 N2_ok (inlHN_ok N2_ok Hopen_ok anct 2) Try.func32 (k:=.acc 9) (x:=ll.flatten) hp (Vct_ok (pct ll ho.1 ho.2.1))
 . cases h
theorem rw_sl {ρ:Env1} {Z:Nat->Prop} {w:World} {v:Value} {a b c:Nat} {r u:List Str} (hz:∀ b,Z b->b<w.heap.size) (hp:Go.Rx.holds U eT ρ a Z w (.rw 29 2 [.acc b,.acc c])) (hr:Go.Rx.holds U eT ρ b Z w (.ac (N:=U) 9 r)) (hu:Go.Rx.holds U eT ρ c Z w (.ac (N:=U) 9 u)) (h:Rep U eT ρ Z w v (.acc a)):(dSlice (dSlice dStr)).rd (Go.Rx.seen Z w []) w [v] [r,u]:=by
 obtain ⟨L,F,hL,hn,hle,hA,hrw,hrep⟩:=hp
 cases h with | acc hL' =>
 rw [hL] at hL'; cases hL'
 obtain ⟨v1,F1,rfl,g1,_,hrep⟩:=RepL.cons_inv hrep
 obtain ⟨v2,F2,rfl,g2,_,hrep⟩:=RepL.cons_inv hrep
 obtain rfl:=RepL.nil_inv hrep
 have d1:=ac_sl hz hr g1
 have d2:=ac_sl hz hu g2
 obtain ⟨bb,hAb,hbs,hc⟩:=RwIs.cells hrw (by decide)
 have hlt:bb<w.heap.size:=hrw.lt bb (by rw [hbs]; exact List.mem_singleton.2 rfl)
 have hcap:2<=L.cap:=by
  rcases hrw with ⟨e,_⟩ | ⟨_,cap,_,_,e,_,_,_,h2,_⟩
  . simp at e
  . simp only [Value.slice.injEq] at e; rw [e.2.2]; exact h2
 rw [hn]
 refine ⟨by simp,L.A,L.cap,rfl,⟨fun e=>(by rw [hAb] at e; cases e),hcap⟩,fun i hi=>?_⟩
 have one:∀ (j:Nat) (x:Value),[v1,v2][j]?=some x->Cells w bb (0+j * (dSlice dStr).sz) [x]:=fun j x hx=>by
  obtain ⟨C,T,z,hh,hC⟩:=hc
  refine ⟨C,T,z,hh,fun k hk=>?_⟩
  have hk0:k=0:=by have hk:k<1:=hk; omega
  subst hk0
  have e:0+j * (dSlice dStr).sz+0=0+j:=by show 0+j * 1+0=0+j; omega
  rw [e,hC j (List.getElem?_eq_some_iff.1 hx).1,hx]; rfl
 match i,hi with
 | 0,_=>exact ⟨bb,0,[v1],hAb,⟨hlt,fun h=>by cases h⟩,one 0 v1 rfl,d1⟩
 | 1,_=>exact ⟨bb,0,[v2],hAb,⟨hlt,fun h=>by cases h⟩,one 1 v2 rfl,d2⟩
def fCt:FC U:=⟨[],[],fun a its=>match a,its with
 | [.acc 0],[(0,.rw 29 2 [.acc 1,.acc 2]),(1,.ac 9 r),(2,.ac 9 u)]=>some ⟨[List.length (α:=Str) r+List.length (α:=Str) u<=1000000],[],.acc 6,[(6,.ac (N:=U) 9 (List.append (α:=Str) r u)),(0,.rw 29 2 [.acc 1,.acc 2]),(1,.ac (N:=U) 9 r),(2,.ac (N:=U) 9 u)],7⟩
 | _,_=>none⟩
theorem fCt_ok (args:List (SV U)) (its:Items U) (r:FR U) (h:fCt.C args its=some r) (ho:allP r.ob):GenOK Try.prog U eT Gl 32 args its (2 * its.length) (fun k=>allP r.hy->k r.v r.its r.n):=by
 unfold fCt at h
 simp only at h
 split at h
 . rename_i r u
   cases h
   have hf:([r,u]:List (List Str)).flatten=List.append (α:=Str) r u:=by
    show r++(u++[])=r++u
    rw [List.append_nil]
   have hc:=cct_ok [.sl (N:=U) 29 ([r,u]:List (List Str))] 6 _ rfl rfl ⟨show 2<=1000 by decide,by rw [hf]; show (r++u).length<=_; rw [List.length_append]; exact ho.1,trivial⟩
   refine gen_lend (t:=9) (l':=List.append (α:=Str) r u) (ob:=_) flat9 (Eq.mp (congrArg (fun l=>ConOK Try.prog U eT Gl 32 [.sl (N:=U) 29 ([r,u]:List (List Str))] 6 ⟨_,[],.acc 6,[.ac (N:=U) 9 l]⟩) hf) hc) fun ρ Z w vs hz hp ha=>?_
   obtain ⟨v1,r1,rfl,h1,ha⟩:=Rep.tup_cons ha
   obtain rfl:=tup0_inv ha
   exact .tup1 (cs:=[]) (.sl (rw_sl hz (hp _ (.head _)) (hp _ (.tail _ (.head _))) (hp _ (.tail _ (.tail _ (.head _)))) h1)) .tup0
 . cases h
noncomputable def N3:Env:=N2.addX 32 fCt
theorem N3_ok:EnvOK N3:=N2_ok.addX Try.call32 fCt_ok
end Go.Proofs.Ytckpdliipjekgaa
end
section
namespace Go.Proofs.Ytckpdliipjekgaa
open Go Go.Wk Go.Wl Go.Rx Go.Wa Go.Wa
structure Lg where
 turn:Int
 half:Int
 bytes:Str
 recs:List Str
 wait:List Str
 dead:Bool
 d:Dk
def toldS (g:Lg) (e:Err):Lg:={ g with dead:=g.dead || decide (Err.is e 9) }
def sizeG (g:Lg):Int:=halfS g.d * 256
def roomS (g:Lg):Int:=sizeG g-(g.bytes.length:Int)-sizeS g.wait
def headW (g:Lg) (hh th:Int) (by_:Str) (rc:List Str):Err×Lg :=
 if (storeS g.d ((g.turn+1).tmod 2) (secs (headS (g.turn+1) hh (by_.length:Int)))).1≠.nil then
  ((storeS g.d ((g.turn+1).tmod 2) (secs (headS (g.turn+1) hh (by_.length:Int)))).1,toldS { g with d:=(storeS g.d ((g.turn+1).tmod 2) (secs (headS (g.turn+1) hh (by_.length:Int)))).2 } (storeS g.d ((g.turn+1).tmod 2) (secs (headS (g.turn+1) hh (by_.length:Int)))).1)
 else (.nil,⟨g.turn+1,hh,by_,rc,[],g.dead,(storeS g.d ((g.turn+1).tmod 2) (secs (headS (g.turn+1) hh (by_.length:Int)))).2⟩)
def writeS (g:Lg) (hh th:Int) (by_:Str) (rc:List Str):Err×Lg :=
 if th=(by_.length:Int) then
  if inE sFl (erN g.d.flush.1)≠.nil then (inE sFl (erN g.d.flush.1),toldS { g with d:=g.d.flush.2 } (inE sFl (erN g.d.flush.1)))
  else headW { g with d:=g.d.flush.2 } hh th by_ rc
 else
  if (storeS g.d (2+hh * halfS g.d+th.tdiv 256) (secs (by_.drop (th.tdiv 256 * 256).toNat))).1≠.nil then
   ((storeS g.d (2+hh * halfS g.d+th.tdiv 256) (secs (by_.drop (th.tdiv 256 * 256).toNat))).1,toldS { g with d:=(storeS g.d (2+hh * halfS g.d+th.tdiv 256) (secs (by_.drop (th.tdiv 256 * 256).toNat))).2 } (storeS g.d (2+hh * halfS g.d+th.tdiv 256) (secs (by_.drop (th.tdiv 256 * 256).toNat))).1)
  else headW { g with d:=(storeS g.d (2+hh * halfS g.d+th.tdiv 256) (secs (by_.drop (th.tdiv 256 * 256).toNat))).2 } hh th by_ rc
def syncS (g:Lg):Err×Lg :=
 if g.dead=true then (.no 9,g) else if g.wait.length=0 then (.nil,g) else
 if (packE g.wait).2≠.nil then ((packE g.wait).2,g) else
 writeS g g.half (g.bytes.length:Int) (g.bytes++(packE g.wait).1) (g.recs++g.wait)
def compS (g:Lg) (l:List Str):Err×Lg :=
 if g.dead=true then (.no 9,g) else if (packE l).2≠.nil then ((packE l).2,g) else
 if sizeG g<((packE l).1.length:Int) then (.no 6,g) else writeS g (1-g.half) 0 (packE l).1 l
structure LgB (g:Lg):Prop where
 ok:g.d.Ok
 h0:0<=g.half
 h1:g.half<=1
 b:g.bytes.length<=2000000
 t0:0<=g.turn
 t1:g.turn<=2199023255552
 n:g.recs.length+g.wait.length<=1000000
 w:SmL g.wait
 p:(packE g.wait).1.length<=2000000
def appS (g:Lg) (l:List Str):Err×Lg :=
 if g.dead=true then (.no 9,g) else if (packE l).2≠.nil then ((packE l).2,g) else
 if roomS g<((packE l).1.length:Int) then (.no 6,g) else (.nil,{ g with wait:=g.wait++l })
def sameL (a b:List Str):Bool:=decide (a=b)
theorem eq_ixS {a b:List Str} (hl:a.length=b.length) (h:∀ i:Int,0<=i->i<a.length->ix a i=ix b i):a=b:=eq_ix hl h
theorem ix_take {α:Type} [Inhabited α] {l:List α} {n:Nat} {i:Int} (h0:0<=i) (h1:i<n) (h2:i<l.length):ix (l.take n) i=ix l i:=by
 have h:i.toNat<(l.take n).length:=by rw [List.length_take]; omega
 rw [ix_get h,ix_get (by omega),List.getElem_take]
def moreU:Int->List Str->Int
 | n,[]=>n
 | n,s::r=>moreU (n+min (s.length:Int) 100000) r
def actU (n:Int) (a:Act):Int:=moreU (n+min (a.S.length:Int) 100000+min (a.Kept.length:Int) 1000+min (a.More.length:Int) 1000) (a.More.take 51)
def fewU:Int->List Act->Bool
 | _,[]=>true
 | n,a::r=>if 40000<actU n a ∨ 50<(a.More.length:Int) then false else fewU (actU n a) r
def fewS (l:List Act):Bool:=if fewU 0 (l.take 61)=true then decide ((l.length:Int)<=60) else false
end Go.Proofs.Ytckpdliipjekgaa
end
section
namespace Go.Proofs.Ytckpdliipjekgaa
open Go Go.Wk Go.Wl Go.Rx Go.Wa 
def antold:Nat->Ann:=fun | 49=>⟨12,fun _=>none,fun _=>none⟩ | _=>⟨0,fun _=>none,fun _=>none⟩
def Vtold (tn:Int) (hf:Int) (bt:Str) (rs:List Str) (wt:List Str) (pd:Prop) (dd:Decidable pd) (x:Dk) (e:Err) (Q:Err->Int->Int->Str->List Str->List Str->Bool->Dk->Prop):Prop :=
(e.is (9:Int)->Q e tn hf bt rs wt true x)/\(¬e.is (9:Int)->Q e tn hf bt rs wt (decide pd) x)
theorem Vtold_eq {tn:Int} {hf:Int} {bt:Str} {rs:List Str} {wt:List Str} {pd:Prop} {dd:Decidable pd} {x:Dk} {e:Err} {Q:Err->Int->Int->Str->List Str->List Str->Bool->Dk->Prop}:@Eq Prop (Vtold tn hf bt rs wt pd dd x e Q) (vcFun (E:=N3) (inlHN N3 Hopen antold 3) (antold 49) Try.f49 [.ref 0 0,.err e] [(0,.own 54 [.ref 1 0,.int .i64 tn,.int .i64 hf,.str bt,.acc 2,.acc 3,.bl pd dd]),(1,.ob (N:=U) 0 5 x),(2,.ac (N:=U) 9 rs),(3,.ac (N:=U) 9 wt)] [] 8 (endG N3 [(0,.own 54 [.ref 1 0,.int .i64 tn,.int .i64 hf,.str bt,.acc 2,.acc 3,.bl pd dd]),(1,.ob (N:=U) 0 5 x),(2,.ac (N:=U) 9 rs),(3,.ac (N:=U) 9 wt)] 8 1 [[.slot 0 (.err),.tree [] [.own (some 200) 54 [.to 1,.v (.int .i64),.v (.int .i64),.v (.str),.v (.acc 9),.v (.acc 9),.v (.bool)],.ob (some 201) 0]]] ((Q,fun _ _ _ _ _ _ _ _=>(0:Nat)),()))):=by kernel_rfl
theorem Vtold_ok {tn:Int} {hf:Int} {bt:Str} {rs:List Str} {wt:List Str} {pd:Prop} {dd:Decidable pd} {x:Dk} {e:Err} {Q:Err->Int->Int->Str->List Str->List Str->Bool->Dk->Prop} (h:Vtold tn hf bt rs wt pd dd x e Q):vcFun (E:=N3) (inlHN N3 Hopen antold 3) (antold 49) Try.f49 [.ref 0 0,.err e] [(0,.own 54 [.ref 1 0,.int .i64 tn,.int .i64 hf,.str bt,.acc 2,.acc 3,.bl pd dd]),(1,.ob (N:=U) 0 5 x),(2,.ac (N:=U) 9 rs),(3,.ac (N:=U) 9 wt)] [] 8 (endG N3 [(0,.own 54 [.ref 1 0,.int .i64 tn,.int .i64 hf,.str bt,.acc 2,.acc 3,.bl pd dd]),(1,.ob (N:=U) 0 5 x),(2,.ac (N:=U) 9 rs),(3,.ac (N:=U) 9 wt)] 8 1 [[.slot 0 (.err),.tree [] [.own (some 200) 54 [.to 1,.v (.int .i64),.v (.int .i64),.v (.str),.v (.acc 9),.v (.acc 9),.v (.bool)],.ob (some 201) 0]]] ((Q,fun _ _ _ _ _ _ _ _=>(0:Nat)),())):=by rw [<- Vtold_eq]; exact h
theorem ptold (tn:Int) (hf:Int) (bt:Str) (rs:List Str) (wt:List Str) (pd:Prop) (dd:Decidable pd) (x:Dk) (e:Err)  : Vtold tn hf bt rs wt pd dd x e (fun y0 y1 y2 y3 y4 y5 y6 y7=>y0=e/\y1=tn/\y2=hf/\y3=bt/\y4=rs/\y5=wt/\y6=(decide pd || decide (Err.is e 9))/\y7=x):=by
 unfold Vtold
 refine ⟨fun h=>?_,fun h=>?_⟩
 . exact ⟨rfl,rfl,rfl,rfl,rfl,rfl,by show true=(decide pd || decide (Err.is e 9)); rw [decide_eq_true h,Bool.or_true],rfl⟩
 . exact ⟨rfl,rfl,rfl,rfl,rfl,rfl,by show decide pd=(decide pd || decide (Err.is e 9)); rw [decide_eq_false h,Bool.or_false],rfl⟩
noncomputable def ftolds (tn:Int) (hf:Int) (bt:Str) (rs:List Str) (wt:List Str) (pd:Prop) (dd:Decidable pd) (x:Dk) (e:Err):FR U:=frOf N3 [] [(0,.own 54 [.ref 1 0,.int .i64 tn,.int .i64 hf,.str bt,.acc 2,.acc 3,.bl pd dd]),(1,.ob (N:=U) 0 5 x),(2,.ac (N:=U) 9 rs),(3,.ac (N:=U) 9 wt)] 8 1 [.slot 0 (.err),.tree [] [.own (some 200) 54 [.to 1,.v (.int .i64),.v (.int .i64),.v (.str),.v (.acc 9),.v (.acc 9),.v (.bool)],.ob (some 201) 0]] (e,((tn,hf,bt,rs,wt,(decide pd || decide (Err.is e 9)),()),x,()),())
noncomputable def ftold:FC U:=⟨[],[],fun a its=>match a,its with | [.ref 0 0,.err e],[(0,.own 54 [.ref 1 0,.int .i64 tn,.int .i64 hf,.str bt,.acc 2,.acc 3,.bl pd dd]),(1,.ob 0 5 x),(2,.ac 9 rs),(3,.ac 9 wt)]=>some (ftolds tn hf bt rs wt pd dd x e) | _,_=>none⟩
theorem ftold_ok (args:List (SV U)) (its:Items U) (r:FR U) (h:ftold.C args its=some r) (ho:allP r.ob):GenOK Try.prog U eT Gl 49 args its (2 * its.length) (fun k=>allP r.hy->k r.v r.its r.n):=by
 unfold ftold at h
 simp only at h
 split at h
 . rename_i e tn hf bt pd dd x rs wt
   cases h
   exact fc_ok N3_ok (inlHN_ok N3_ok Hopen_ok antold 3) Try.func49 (n:=1) rfl (vs:=[.slot 0 (.err),.tree [] [.own (some 200) 54 [.to 1,.v (.int .i64),.v (.int .i64),.v (.str),.v (.acc 9),.v (.acc 9),.v (.bool)],.ob (some 201) 0]]) (X:=(e,((tn,hf,bt,rs,wt,(decide pd || decide (Err.is e 9)),()),x,()),())) rfl (Vtold_ok (ptold tn hf bt rs wt pd dd x e ))
 . cases h
noncomputable def Ntold:Env:=(N3.addI 49 Try.f49).addX 49 ftold
theorem Ntold_ok:EnvOK Ntold:=(N3_ok.addI Try.call49 Try.func49).addX Try.call49 ftold_ok
noncomputable def NI28:Env:=Ntold.addI 28 Try.f28
theorem NI28_ok:EnvOK NI28:=Ntold_ok.addI Try.call28 Try.func28
def anlsz:Nat->Ann:=fun | 26=>⟨9,fun _=>none,fun _=>none⟩ | _=>⟨0,fun _=>none,fun _=>none⟩
def Vlsz (tn:Int) (hf:Int) (bt:Str) (rs:List Str) (wt:List Str) (pd:Prop) (dd:Decidable pd) (x:Dk) (Q:Int->Int->Int->Str->List Str->List Str->Bool->Dk->Prop):Prop :=
x.Ok/\in64 (halfS x * 256)/\Q (halfS x * 256) tn hf bt rs wt (decide pd) x
theorem Vlsz_eq {tn:Int} {hf:Int} {bt:Str} {rs:List Str} {wt:List Str} {pd:Prop} {dd:Decidable pd} {x:Dk} {Q:Int->Int->Int->Str->List Str->List Str->Bool->Dk->Prop}:@Eq Prop (Vlsz tn hf bt rs wt pd dd x Q) (vcFun (E:=NI28) (inlHN NI28 Hopen anlsz 3) (anlsz 26) Try.f26 [.ref 0 0] [(0,.own 54 [.ref 1 0,.int .i64 tn,.int .i64 hf,.str bt,.acc 2,.acc 3,.bl pd dd]),(1,.ob (N:=U) 0 5 x),(2,.ac (N:=U) 9 rs),(3,.ac (N:=U) 9 wt)] [] 8 (endG NI28 [(0,.own 54 [.ref 1 0,.int .i64 tn,.int .i64 hf,.str bt,.acc 2,.acc 3,.bl pd dd]),(1,.ob (N:=U) 0 5 x),(2,.ac (N:=U) 9 rs),(3,.ac (N:=U) 9 wt)] 8 1 [[.slot 0 (.int .i64),.tree [] [.own (some 200) 54 [.to 1,.v (.int .i64),.v (.int .i64),.v (.str),.v (.acc 9),.v (.acc 9),.v (.bool)],.ob (some 201) 0]]] ((Q,fun _ _ _ _ _ _ _ _=>(0:Nat)),()))):=by kernel_rfl
theorem Vlsz_ok {tn:Int} {hf:Int} {bt:Str} {rs:List Str} {wt:List Str} {pd:Prop} {dd:Decidable pd} {x:Dk} {Q:Int->Int->Int->Str->List Str->List Str->Bool->Dk->Prop} (h:Vlsz tn hf bt rs wt pd dd x Q):vcFun (E:=NI28) (inlHN NI28 Hopen anlsz 3) (anlsz 26) Try.f26 [.ref 0 0] [(0,.own 54 [.ref 1 0,.int .i64 tn,.int .i64 hf,.str bt,.acc 2,.acc 3,.bl pd dd]),(1,.ob (N:=U) 0 5 x),(2,.ac (N:=U) 9 rs),(3,.ac (N:=U) 9 wt)] [] 8 (endG NI28 [(0,.own 54 [.ref 1 0,.int .i64 tn,.int .i64 hf,.str bt,.acc 2,.acc 3,.bl pd dd]),(1,.ob (N:=U) 0 5 x),(2,.ac (N:=U) 9 rs),(3,.ac (N:=U) 9 wt)] 8 1 [[.slot 0 (.int .i64),.tree [] [.own (some 200) 54 [.to 1,.v (.int .i64),.v (.int .i64),.v (.str),.v (.acc 9),.v (.acc 9),.v (.bool)],.ob (some 201) 0]]] ((Q,fun _ _ _ _ _ _ _ _=>(0:Nat)),())):=by rw [<- Vlsz_eq]; exact h
theorem plsz (tn:Int) (hf:Int) (bt:Str) (rs:List Str) (wt:List Str) (pd:Prop) (dd:Decidable pd) (x:Dk) (ok:x.Ok):Vlsz tn hf bt rs wt pd dd x (fun y0 y1 y2 y3 y4 y5 y6 y7=>y0=(halfS x * 256)/\y1=tn/\y2=hf/\y3=bt/\y4=rs/\y5=wt/\y6=(decide pd)/\y7=x):=by
 unfold Vlsz
 obtain ⟨g1,g2,_⟩:=half_at ok
 exact ⟨ok,⟨by omega,by omega⟩,rfl,rfl,rfl,rfl,rfl,rfl,rfl,rfl⟩
noncomputable def flszs (tn:Int) (hf:Int) (bt:Str) (rs:List Str) (wt:List Str) (pd:Prop) (dd:Decidable pd) (x:Dk):FR U:=frOf NI28 [Dk.Ok x] [(0,.own 54 [.ref 1 0,.int .i64 tn,.int .i64 hf,.str bt,.acc 2,.acc 3,.bl pd dd]),(1,.ob (N:=U) 0 5 x),(2,.ac (N:=U) 9 rs),(3,.ac (N:=U) 9 wt)] 8 1 [.slot 0 (.int .i64),.tree [] [.own (some 200) 54 [.to 1,.v (.int .i64),.v (.int .i64),.v (.str),.v (.acc 9),.v (.acc 9),.v (.bool)],.ob (some 201) 0]] ((halfS x * 256),((tn,hf,bt,rs,wt,(decide pd),()),x,()),())
noncomputable def flsz:FC U:=⟨[],[],fun a its=>match a,its with | [.ref 0 0],[(0,.own 54 [.ref 1 0,.int .i64 tn,.int .i64 hf,.str bt,.acc 2,.acc 3,.bl pd dd]),(1,.ob 0 5 x),(2,.ac 9 rs),(3,.ac 9 wt)]=>some (flszs tn hf bt rs wt pd dd x) | _,_=>none⟩
theorem flsz_ok (args:List (SV U)) (its:Items U) (r:FR U) (h:flsz.C args its=some r) (ho:allP r.ob):GenOK Try.prog U eT Gl 26 args its (2 * its.length) (fun k=>allP r.hy->k r.v r.its r.n):=by
 unfold flsz at h
 simp only at h
 split at h
 . rename_i tn hf bt pd dd x rs wt
   cases h
   exact fc_ok NI28_ok (inlHN_ok NI28_ok Hopen_ok anlsz 3) Try.func26 (n:=1) rfl (vs:=[.slot 0 (.int .i64),.tree [] [.own (some 200) 54 [.to 1,.v (.int .i64),.v (.int .i64),.v (.str),.v (.acc 9),.v (.acc 9),.v (.bool)],.ob (some 201) 0]]) (X:=((halfS x * 256),((tn,hf,bt,rs,wt,(decide pd),()),x,()),())) rfl (Vlsz_ok (plsz tn hf bt rs wt pd dd x ho.1))
 . cases h
noncomputable def Nlsz:Env:=(NI28.addI 26 Try.f26).addX 26 flsz
theorem Nlsz_ok:EnvOK Nlsz:=(NI28_ok.addI Try.call26 Try.func26).addX Try.call26 flsz_ok
def anwr:Nat->Ann:=fun | 31=>⟨115,fun _=>none,fun _=>none⟩ | _=>⟨0,fun _=>none,fun _=>none⟩
def qwr0 (hh:Int) (x:Dk) (th:Int):=(2:Int)+hh * halfS x+(th.tdiv (256:Int) * 256).tdiv (256:Int)
def qwr1 (th:Int) (by_:Str):=secs (List.drop (th.tdiv (256:Int) * 256).toNat by_)
def qwr2 (tn:Int) (hh:Int) (by_:Str):=secs (headS (tn+1) hh (↑(List.length by_):Int))
def qwr3 (tn:Int):=(tn+1).tmod (2:Int)
def qwr4  := ([102,108,117,115,104]:List UInt8)
def Vwr (tn:Int) (hf:Int) (bt:Str) (rs:List Str) (wt:List Str) (pd:Prop) (dd:Decidable pd) (x:Dk) (rc:List Str) (hh:Int) (th:Int) (by_:Str) (Q:Err->Int->Int->Str->List Str->List Str->Bool->Dk->Prop):Prop :=
(256:Int)≠0/\in64 (th.tdiv (256:Int))/\in64 (th.tdiv (256:Int) * 256)/\(th=(↑(List.length by_):Int)->((1:Int)=0->x.Ok/\in64 (hh * halfS x)/\in64 ((2:Int)+hh * halfS x)/\((256:Int)≠0/\in64 ((th.tdiv (256:Int) * 256).tdiv (256:Int)))/\in64 (qwr0 hh x th)/\((0:Int)<=th.tdiv (256:Int) * 256/\th.tdiv (256:Int) * 256<=(↑(List.length by_):Int))/\(x.Ok/\(List.drop (th.tdiv (256:Int) * 256).toNat by_).length<=10000000/\(0:Int)<=(2:Int)+hh * halfS x+(th.tdiv (256:Int) * 256).tdiv (256:Int)/\(2:Int)+hh * halfS x+(th.tdiv (256:Int) * 256).tdiv (256:Int)<=1000000)/\((storeS x (qwr0 hh x th) (qwr1 th by_)).fst≠Err.nil->Q (storeS x (qwr0 hh x th) (qwr1 th by_)).fst tn hf bt rs wt (decide ((decide pd || decide ((storeS x (qwr0 hh x th) (qwr1 th by_)).fst.is (9:Int)))=true)) (storeS x (qwr0 hh x th) (qwr1 th by_)).snd)/\(¬(storeS x (qwr0 hh x th) (qwr1 th by_)).fst≠Err.nil->(th=(↑(List.length by_):Int)->(storeS x (qwr0 hh x th) (qwr1 th by_)).snd.Ok/\(erN (storeS x (qwr0 hh x th) (qwr1 th by_)).snd.flush.fst≠Err.nil->erN (storeS x (qwr0 hh x th) (qwr1 th by_)).snd.flush.fst=Err.no (erN (storeS x (qwr0 hh x th) (qwr1 th by_)).snd.flush.fst).n0)/\(inE qwr4 (erN (storeS x (qwr0 hh x th) (qwr1 th by_)).snd.flush.fst)≠Err.nil->Q (inE qwr4 (erN (storeS x (qwr0 hh x th) (qwr1 th by_)).snd.flush.fst)) tn hf bt rs wt (decide ((decide ((decide pd || decide ((storeS x (qwr0 hh x th) (qwr1 th by_)).fst.is (9:Int)))=true) || decide ((inE qwr4 (erN (storeS x (qwr0 hh x th) (qwr1 th by_)).snd.flush.fst)).is (9:Int)))=true)) (storeS x (qwr0 hh x th) (qwr1 th by_)).snd.flush.snd)/\(¬inE qwr4 (erN (storeS x (qwr0 hh x th) (qwr1 th by_)).snd.flush.fst)≠Err.nil->in64 (tn+1)/\(2:Int)≠0/\in64 (tn+1)/\(in64 hh/\in64 (↑(List.length by_):Int))/\((storeS x (qwr0 hh x th) (qwr1 th by_)).snd.flush.snd.Ok/\List.length (headS (tn+1) hh (↑(List.length by_):Int))<=10000000/\(0:Int)<=(tn+1).tmod (2:Int)/\(tn+1).tmod (2:Int)<=1000000)/\((storeS (storeS x (qwr0 hh x th) (qwr1 th by_)).snd.flush.snd (qwr3 tn) (qwr2 tn hh by_)).fst≠Err.nil->Q (storeS (storeS x (qwr0 hh x th) (qwr1 th by_)).snd.flush.snd (qwr3 tn) (qwr2 tn hh by_)).fst tn hf bt rs wt (decide ((decide ((decide ((decide pd || decide ((storeS x (qwr0 hh x th) (qwr1 th by_)).fst.is (9:Int)))=true) || decide ((inE qwr4 (erN (storeS x (qwr0 hh x th) (qwr1 th by_)).snd.flush.fst)).is (9:Int)))=true) || decide ((storeS (storeS x (qwr0 hh x th) (qwr1 th by_)).snd.flush.snd (qwr3 tn) (qwr2 tn hh by_)).fst.is (9:Int)))=true)) (storeS (storeS x (qwr0 hh x th) (qwr1 th by_)).snd.flush.snd (qwr3 tn) (qwr2 tn hh by_)).snd)/\(¬(storeS (storeS x (qwr0 hh x th) (qwr1 th by_)).snd.flush.snd (qwr3 tn) (qwr2 tn hh by_)).fst≠Err.nil->in64 (tn+1)/\Q Err.nil (tn+1) hh by_ rc [] (decide ((decide ((decide ((decide pd || decide ((storeS x (qwr0 hh x th) (qwr1 th by_)).fst.is (9:Int)))=true) || decide ((inE qwr4 (erN (storeS x (qwr0 hh x th) (qwr1 th by_)).snd.flush.fst)).is (9:Int)))=true) || decide ((storeS (storeS x (qwr0 hh x th) (qwr1 th by_)).snd.flush.snd (qwr3 tn) (qwr2 tn hh by_)).fst.is (9:Int)))=true)) (storeS (storeS x (qwr0 hh x th) (qwr1 th by_)).snd.flush.snd (qwr3 tn) (qwr2 tn hh by_)).snd)))/\(¬th=(↑(List.length by_):Int)->in64 (tn+1)/\(2:Int)≠0/\in64 (tn+1)/\(in64 hh/\in64 (↑(List.length by_):Int))/\((storeS x (qwr0 hh x th) (qwr1 th by_)).snd.Ok/\List.length (headS (tn+1) hh (↑(List.length by_):Int))<=10000000/\(0:Int)<=(tn+1).tmod (2:Int)/\(tn+1).tmod (2:Int)<=1000000)/\((storeS (storeS x (qwr0 hh x th) (qwr1 th by_)).snd (qwr3 tn) (qwr2 tn hh by_)).fst≠Err.nil->Q (storeS (storeS x (qwr0 hh x th) (qwr1 th by_)).snd (qwr3 tn) (qwr2 tn hh by_)).fst tn hf bt rs wt (decide ((decide ((decide pd || decide ((storeS x (qwr0 hh x th) (qwr1 th by_)).fst.is (9:Int)))=true) || decide ((storeS (storeS x (qwr0 hh x th) (qwr1 th by_)).snd (qwr3 tn) (qwr2 tn hh by_)).fst.is (9:Int)))=true)) (storeS (storeS x (qwr0 hh x th) (qwr1 th by_)).snd (qwr3 tn) (qwr2 tn hh by_)).snd)/\(¬(storeS (storeS x (qwr0 hh x th) (qwr1 th by_)).snd (qwr3 tn) (qwr2 tn hh by_)).fst≠Err.nil->in64 (tn+1)/\Q Err.nil (tn+1) hh by_ rc [] (decide ((decide ((decide pd || decide ((storeS x (qwr0 hh x th) (qwr1 th by_)).fst.is (9:Int)))=true) || decide ((storeS (storeS x (qwr0 hh x th) (qwr1 th by_)).snd (qwr3 tn) (qwr2 tn hh by_)).fst.is (9:Int)))=true)) (storeS (storeS x (qwr0 hh x th) (qwr1 th by_)).snd (qwr3 tn) (qwr2 tn hh by_)).snd))))/\(¬(1:Int)=0->((1:Int)=1->(th=(↑(List.length by_):Int)->x.Ok/\(erN x.flush.fst≠Err.nil->erN x.flush.fst=Err.no (erN x.flush.fst).n0)/\(inE qwr4 (erN x.flush.fst)≠Err.nil->Q (inE qwr4 (erN x.flush.fst)) tn hf bt rs wt (decide ((decide pd || decide ((inE qwr4 (erN x.flush.fst)).is (9:Int)))=true)) x.flush.snd)/\(¬inE qwr4 (erN x.flush.fst)≠Err.nil->in64 (tn+1)/\(2:Int)≠0/\in64 (tn+1)/\(in64 hh/\in64 (↑(List.length by_):Int))/\(x.flush.snd.Ok/\List.length (headS (tn+1) hh (↑(List.length by_):Int))<=10000000/\(0:Int)<=(tn+1).tmod (2:Int)/\(tn+1).tmod (2:Int)<=1000000)/\((storeS x.flush.snd (qwr3 tn) (qwr2 tn hh by_)).fst≠Err.nil->Q (storeS x.flush.snd (qwr3 tn) (qwr2 tn hh by_)).fst tn hf bt rs wt (decide ((decide ((decide pd || decide ((inE qwr4 (erN x.flush.fst)).is (9:Int)))=true) || decide ((storeS x.flush.snd (qwr3 tn) (qwr2 tn hh by_)).fst.is (9:Int)))=true)) (storeS x.flush.snd (qwr3 tn) (qwr2 tn hh by_)).snd)/\(¬(storeS x.flush.snd (qwr3 tn) (qwr2 tn hh by_)).fst≠Err.nil->in64 (tn+1)/\Q Err.nil (tn+1) hh by_ rc [] (decide ((decide ((decide pd || decide ((inE qwr4 (erN x.flush.fst)).is (9:Int)))=true) || decide ((storeS x.flush.snd (qwr3 tn) (qwr2 tn hh by_)).fst.is (9:Int)))=true)) (storeS x.flush.snd (qwr3 tn) (qwr2 tn hh by_)).snd)))/\(¬th=(↑(List.length by_):Int)->in64 (tn+1)/\(2:Int)≠0/\in64 (tn+1)/\(in64 hh/\in64 (↑(List.length by_):Int))/\(x.Ok/\List.length (headS (tn+1) hh (↑(List.length by_):Int))<=10000000/\(0:Int)<=(tn+1).tmod (2:Int)/\(tn+1).tmod (2:Int)<=1000000)/\((storeS x (qwr3 tn) (qwr2 tn hh by_)).fst≠Err.nil->Q (storeS x (qwr3 tn) (qwr2 tn hh by_)).fst tn hf bt rs wt (decide ((decide pd || decide ((storeS x (qwr3 tn) (qwr2 tn hh by_)).fst.is (9:Int)))=true)) (storeS x (qwr3 tn) (qwr2 tn hh by_)).snd)/\(¬(storeS x (qwr3 tn) (qwr2 tn hh by_)).fst≠Err.nil->in64 (tn+1)/\Q Err.nil (tn+1) hh by_ rc [] (decide ((decide pd || decide ((storeS x (qwr3 tn) (qwr2 tn hh by_)).fst.is (9:Int)))=true)) (storeS x (qwr3 tn) (qwr2 tn hh by_)).snd)))/\(¬(1:Int)=1->in64 (tn+1)/\Q Err.nil (tn+1) hh by_ rc [] (decide pd) x)))/\(¬th=(↑(List.length by_):Int)->((0:Int)=0->x.Ok/\in64 (hh * halfS x)/\in64 ((2:Int)+hh * halfS x)/\((256:Int)≠0/\in64 ((th.tdiv (256:Int) * 256).tdiv (256:Int)))/\in64 (qwr0 hh x th)/\((0:Int)<=th.tdiv (256:Int) * 256/\th.tdiv (256:Int) * 256<=(↑(List.length by_):Int))/\(x.Ok/\(List.drop (th.tdiv (256:Int) * 256).toNat by_).length<=10000000/\(0:Int)<=(2:Int)+hh * halfS x+(th.tdiv (256:Int) * 256).tdiv (256:Int)/\(2:Int)+hh * halfS x+(th.tdiv (256:Int) * 256).tdiv (256:Int)<=1000000)/\((storeS x (qwr0 hh x th) (qwr1 th by_)).fst≠Err.nil->Q (storeS x (qwr0 hh x th) (qwr1 th by_)).fst tn hf bt rs wt (decide ((decide pd || decide ((storeS x (qwr0 hh x th) (qwr1 th by_)).fst.is (9:Int)))=true)) (storeS x (qwr0 hh x th) (qwr1 th by_)).snd)/\(¬(storeS x (qwr0 hh x th) (qwr1 th by_)).fst≠Err.nil->(th=(↑(List.length by_):Int)->(storeS x (qwr0 hh x th) (qwr1 th by_)).snd.Ok/\(erN (storeS x (qwr0 hh x th) (qwr1 th by_)).snd.flush.fst≠Err.nil->erN (storeS x (qwr0 hh x th) (qwr1 th by_)).snd.flush.fst=Err.no (erN (storeS x (qwr0 hh x th) (qwr1 th by_)).snd.flush.fst).n0)/\(inE qwr4 (erN (storeS x (qwr0 hh x th) (qwr1 th by_)).snd.flush.fst)≠Err.nil->Q (inE qwr4 (erN (storeS x (qwr0 hh x th) (qwr1 th by_)).snd.flush.fst)) tn hf bt rs wt (decide ((decide ((decide pd || decide ((storeS x (qwr0 hh x th) (qwr1 th by_)).fst.is (9:Int)))=true) || decide ((inE qwr4 (erN (storeS x (qwr0 hh x th) (qwr1 th by_)).snd.flush.fst)).is (9:Int)))=true)) (storeS x (qwr0 hh x th) (qwr1 th by_)).snd.flush.snd)/\(¬inE qwr4 (erN (storeS x (qwr0 hh x th) (qwr1 th by_)).snd.flush.fst)≠Err.nil->in64 (tn+1)/\(2:Int)≠0/\in64 (tn+1)/\(in64 hh/\in64 (↑(List.length by_):Int))/\((storeS x (qwr0 hh x th) (qwr1 th by_)).snd.flush.snd.Ok/\List.length (headS (tn+1) hh (↑(List.length by_):Int))<=10000000/\(0:Int)<=(tn+1).tmod (2:Int)/\(tn+1).tmod (2:Int)<=1000000)/\((storeS (storeS x (qwr0 hh x th) (qwr1 th by_)).snd.flush.snd (qwr3 tn) (qwr2 tn hh by_)).fst≠Err.nil->Q (storeS (storeS x (qwr0 hh x th) (qwr1 th by_)).snd.flush.snd (qwr3 tn) (qwr2 tn hh by_)).fst tn hf bt rs wt (decide ((decide ((decide ((decide pd || decide ((storeS x (qwr0 hh x th) (qwr1 th by_)).fst.is (9:Int)))=true) || decide ((inE qwr4 (erN (storeS x (qwr0 hh x th) (qwr1 th by_)).snd.flush.fst)).is (9:Int)))=true) || decide ((storeS (storeS x (qwr0 hh x th) (qwr1 th by_)).snd.flush.snd (qwr3 tn) (qwr2 tn hh by_)).fst.is (9:Int)))=true)) (storeS (storeS x (qwr0 hh x th) (qwr1 th by_)).snd.flush.snd (qwr3 tn) (qwr2 tn hh by_)).snd)/\(¬(storeS (storeS x (qwr0 hh x th) (qwr1 th by_)).snd.flush.snd (qwr3 tn) (qwr2 tn hh by_)).fst≠Err.nil->in64 (tn+1)/\Q Err.nil (tn+1) hh by_ rc [] (decide ((decide ((decide ((decide pd || decide ((storeS x (qwr0 hh x th) (qwr1 th by_)).fst.is (9:Int)))=true) || decide ((inE qwr4 (erN (storeS x (qwr0 hh x th) (qwr1 th by_)).snd.flush.fst)).is (9:Int)))=true) || decide ((storeS (storeS x (qwr0 hh x th) (qwr1 th by_)).snd.flush.snd (qwr3 tn) (qwr2 tn hh by_)).fst.is (9:Int)))=true)) (storeS (storeS x (qwr0 hh x th) (qwr1 th by_)).snd.flush.snd (qwr3 tn) (qwr2 tn hh by_)).snd)))/\(¬th=(↑(List.length by_):Int)->in64 (tn+1)/\(2:Int)≠0/\in64 (tn+1)/\(in64 hh/\in64 (↑(List.length by_):Int))/\((storeS x (qwr0 hh x th) (qwr1 th by_)).snd.Ok/\List.length (headS (tn+1) hh (↑(List.length by_):Int))<=10000000/\(0:Int)<=(tn+1).tmod (2:Int)/\(tn+1).tmod (2:Int)<=1000000)/\((storeS (storeS x (qwr0 hh x th) (qwr1 th by_)).snd (qwr3 tn) (qwr2 tn hh by_)).fst≠Err.nil->Q (storeS (storeS x (qwr0 hh x th) (qwr1 th by_)).snd (qwr3 tn) (qwr2 tn hh by_)).fst tn hf bt rs wt (decide ((decide ((decide pd || decide ((storeS x (qwr0 hh x th) (qwr1 th by_)).fst.is (9:Int)))=true) || decide ((storeS (storeS x (qwr0 hh x th) (qwr1 th by_)).snd (qwr3 tn) (qwr2 tn hh by_)).fst.is (9:Int)))=true)) (storeS (storeS x (qwr0 hh x th) (qwr1 th by_)).snd (qwr3 tn) (qwr2 tn hh by_)).snd)/\(¬(storeS (storeS x (qwr0 hh x th) (qwr1 th by_)).snd (qwr3 tn) (qwr2 tn hh by_)).fst≠Err.nil->in64 (tn+1)/\Q Err.nil (tn+1) hh by_ rc [] (decide ((decide ((decide pd || decide ((storeS x (qwr0 hh x th) (qwr1 th by_)).fst.is (9:Int)))=true) || decide ((storeS (storeS x (qwr0 hh x th) (qwr1 th by_)).snd (qwr3 tn) (qwr2 tn hh by_)).fst.is (9:Int)))=true)) (storeS (storeS x (qwr0 hh x th) (qwr1 th by_)).snd (qwr3 tn) (qwr2 tn hh by_)).snd))))/\(¬(0:Int)=0->((0:Int)=1->(th=(↑(List.length by_):Int)->x.Ok/\(erN x.flush.fst≠Err.nil->erN x.flush.fst=Err.no (erN x.flush.fst).n0)/\(inE qwr4 (erN x.flush.fst)≠Err.nil->Q (inE qwr4 (erN x.flush.fst)) tn hf bt rs wt (decide ((decide pd || decide ((inE qwr4 (erN x.flush.fst)).is (9:Int)))=true)) x.flush.snd)/\(¬inE qwr4 (erN x.flush.fst)≠Err.nil->in64 (tn+1)/\(2:Int)≠0/\in64 (tn+1)/\(in64 hh/\in64 (↑(List.length by_):Int))/\(x.flush.snd.Ok/\List.length (headS (tn+1) hh (↑(List.length by_):Int))<=10000000/\(0:Int)<=(tn+1).tmod (2:Int)/\(tn+1).tmod (2:Int)<=1000000)/\((storeS x.flush.snd (qwr3 tn) (qwr2 tn hh by_)).fst≠Err.nil->Q (storeS x.flush.snd (qwr3 tn) (qwr2 tn hh by_)).fst tn hf bt rs wt (decide ((decide ((decide pd || decide ((inE qwr4 (erN x.flush.fst)).is (9:Int)))=true) || decide ((storeS x.flush.snd (qwr3 tn) (qwr2 tn hh by_)).fst.is (9:Int)))=true)) (storeS x.flush.snd (qwr3 tn) (qwr2 tn hh by_)).snd)/\(¬(storeS x.flush.snd (qwr3 tn) (qwr2 tn hh by_)).fst≠Err.nil->in64 (tn+1)/\Q Err.nil (tn+1) hh by_ rc [] (decide ((decide ((decide pd || decide ((inE qwr4 (erN x.flush.fst)).is (9:Int)))=true) || decide ((storeS x.flush.snd (qwr3 tn) (qwr2 tn hh by_)).fst.is (9:Int)))=true)) (storeS x.flush.snd (qwr3 tn) (qwr2 tn hh by_)).snd)))/\(¬th=(↑(List.length by_):Int)->in64 (tn+1)/\(2:Int)≠0/\in64 (tn+1)/\(in64 hh/\in64 (↑(List.length by_):Int))/\(x.Ok/\List.length (headS (tn+1) hh (↑(List.length by_):Int))<=10000000/\(0:Int)<=(tn+1).tmod (2:Int)/\(tn+1).tmod (2:Int)<=1000000)/\((storeS x (qwr3 tn) (qwr2 tn hh by_)).fst≠Err.nil->Q (storeS x (qwr3 tn) (qwr2 tn hh by_)).fst tn hf bt rs wt (decide ((decide pd || decide ((storeS x (qwr3 tn) (qwr2 tn hh by_)).fst.is (9:Int)))=true)) (storeS x (qwr3 tn) (qwr2 tn hh by_)).snd)/\(¬(storeS x (qwr3 tn) (qwr2 tn hh by_)).fst≠Err.nil->in64 (tn+1)/\Q Err.nil (tn+1) hh by_ rc [] (decide ((decide pd || decide ((storeS x (qwr3 tn) (qwr2 tn hh by_)).fst.is (9:Int)))=true)) (storeS x (qwr3 tn) (qwr2 tn hh by_)).snd)))/\(¬(0:Int)=1->in64 (tn+1)/\Q Err.nil (tn+1) hh by_ rc [] (decide pd) x)))
theorem Vwr_eq {tn:Int} {hf:Int} {bt:Str} {rs:List Str} {wt:List Str} {pd:Prop} {dd:Decidable pd} {x:Dk} {rc:List Str} {hh:Int} {th:Int} {by_:Str} {Q:Err->Int->Int->Str->List Str->List Str->Bool->Dk->Prop}:@Eq Prop (Vwr tn hf bt rs wt pd dd x rc hh th by_ Q) (vcFun (E:=Nlsz) (inlHN Nlsz Hopen anwr 3) (anwr 31) Try.f31 [.ref 0 0,.int .i64 hh,.int .i64 th,.str by_,.acc 4] [(0,.own 54 [.ref 1 0,.int .i64 tn,.int .i64 hf,.str bt,.acc 2,.acc 3,.bl pd dd]),(1,.ob (N:=U) 0 6 x),(2,.ac (N:=U) 9 rs),(3,.ac (N:=U) 9 wt),(4,.ac (N:=U) 9 rc)] [] 10 (endG Nlsz [(0,.own 54 [.ref 1 0,.int .i64 tn,.int .i64 hf,.str bt,.acc 2,.acc 3,.bl pd dd]),(1,.ob (N:=U) 0 6 x),(2,.ac (N:=U) 9 rs),(3,.ac (N:=U) 9 wt),(4,.ac (N:=U) 9 rc)] 10 1 [[.slot 0 (.err),.tree [] [.own (some 200) 54 [.to 1,.v (.int .i64),.v (.int .i64),.v (.str),.v (.acc 9),.v (.acc 9),.v (.bool)],.ob (some 201) 0]]] ((Q,fun _ _ _ _ _ _ _ _=>(0:Nat)),()))):=by kernel_rfl
theorem Vwr_ok {tn:Int} {hf:Int} {bt:Str} {rs:List Str} {wt:List Str} {pd:Prop} {dd:Decidable pd} {x:Dk} {rc:List Str} {hh:Int} {th:Int} {by_:Str} {Q:Err->Int->Int->Str->List Str->List Str->Bool->Dk->Prop} (h:Vwr tn hf bt rs wt pd dd x rc hh th by_ Q):vcFun (E:=Nlsz) (inlHN Nlsz Hopen anwr 3) (anwr 31) Try.f31 [.ref 0 0,.int .i64 hh,.int .i64 th,.str by_,.acc 4] [(0,.own 54 [.ref 1 0,.int .i64 tn,.int .i64 hf,.str bt,.acc 2,.acc 3,.bl pd dd]),(1,.ob (N:=U) 0 6 x),(2,.ac (N:=U) 9 rs),(3,.ac (N:=U) 9 wt),(4,.ac (N:=U) 9 rc)] [] 10 (endG Nlsz [(0,.own 54 [.ref 1 0,.int .i64 tn,.int .i64 hf,.str bt,.acc 2,.acc 3,.bl pd dd]),(1,.ob (N:=U) 0 6 x),(2,.ac (N:=U) 9 rs),(3,.ac (N:=U) 9 wt),(4,.ac (N:=U) 9 rc)] 10 1 [[.slot 0 (.err),.tree [] [.own (some 200) 54 [.to 1,.v (.int .i64),.v (.int .i64),.v (.str),.v (.acc 9),.v (.acc 9),.v (.bool)],.ob (some 201) 0]]] ((Q,fun _ _ _ _ _ _ _ _=>(0:Nat)),())):=by rw [<- Vwr_eq]; exact h
set_option maxHeartbeats 1000000 in
theorem pwr (tn:Int) (hf:Int) (bt:Str) (rs:List Str) (wt:List Str) (pd:Prop) (dd:Decidable pd) (x:Dk) (rc:List Str) (hh:Int) (th:Int) (by_:Str) (ok:x.Ok) (h1:0<=hh) (h2:hh<=1) (h3:0<=th) (h4:th<=(by_.length:Int)) (h5:by_.length<=5000000) (h6:0<=tn) (h7:tn<=2199023255552):Vwr tn hf bt rs wt pd dd x rc hh th by_ (fun y0 y1 y2 y3 y4 y5 y6 y7=>y0=(writeS (⟨tn,hf,bt,rs,wt,decide pd,x⟩:Lg) hh th by_ rc).1/\y1=((writeS (⟨tn,hf,bt,rs,wt,decide pd,x⟩:Lg) hh th by_ rc).2).turn/\y2=((writeS (⟨tn,hf,bt,rs,wt,decide pd,x⟩:Lg) hh th by_ rc).2).half/\y3=((writeS (⟨tn,hf,bt,rs,wt,decide pd,x⟩:Lg) hh th by_ rc).2).bytes/\y4=((writeS (⟨tn,hf,bt,rs,wt,decide pd,x⟩:Lg) hh th by_ rc).2).recs/\y5=((writeS (⟨tn,hf,bt,rs,wt,decide pd,x⟩:Lg) hh th by_ rc).2).wait/\y6=((writeS (⟨tn,hf,bt,rs,wt,decide pd,x⟩:Lg) hh th by_ rc).2).dead/\y7=((writeS (⟨tn,hf,bt,rs,wt,decide pd,x⟩:Lg) hh th by_ rc).2).d):=by
 unfold Vwr qwr4 qwr3 qwr2 qwr1 qwr0
 have e1:(th.tdiv 256 * 256).tdiv 256=th.tdiv 256:=Int.mul_tdiv_cancel _ (by decide)
 have e0:th.tdiv 256=th / 256:=Int.tdiv_eq_ediv_of_nonneg h3
 obtain ⟨m0,m1⟩:=mul_half ok h1 h2
 have tm:0<=(tn+1).tmod 2/\(tn+1).tmod 2<=1:=by rw [Int.tmod_eq_emod_of_nonneg (by omega)]; omega
 have dn:∀ e:Err,¬ e≠.nil->decide (Err.is e 9)=false:=fun e h=>by rw [Classical.not_not.1 h]; rfl
 have hl:∀ n:Int,(headS (tn+1) hh n).length<=10000000:=fun n=>by rw [head_len]; decide
 simp only [Bool.decide_eq_true,e1]
 refine ⟨by decide,⟨by omega,by omega⟩,⟨by omega,by omega⟩,fun ht=>⟨fun h=>absurd h (by decide),fun _=>⟨fun _=>⟨fun _=>?_,fun hn=>absurd ht hn⟩,fun hn=>absurd trivial hn⟩⟩,fun ht=>⟨fun _=>?_,fun hn=>absurd trivial hn⟩⟩
 . have ok2:x.flush.2.Ok:=flush_Ok ok
   refine ⟨ok,fun h=>erN_no h,fun he=>?_,fun he=>?_⟩
   . have ew:writeS ⟨tn,hf,bt,rs,wt,decide pd,x⟩ hh th by_ rc=(inE sFl (erN x.flush.1),toldS ⟨tn,hf,bt,rs,wt,decide pd,x.flush.2⟩ (inE sFl (erN x.flush.1))):=by
       unfold writeS; rw [if_pos ht,if_pos he]
     rw [ew]; exact ⟨rfl,rfl,rfl,rfl,rfl,rfl,rfl,rfl⟩
   have ew:writeS ⟨tn,hf,bt,rs,wt,decide pd,x⟩ hh th by_ rc=headW ⟨tn,hf,bt,rs,wt,decide pd,x.flush.2⟩ hh th by_ rc:=by
    unfold writeS; rw [if_pos ht,if_neg he]
   rw [ew,dn _ he,Bool.or_false]
   generalize x.flush.2=y at ok2
   refine ⟨⟨by omega,by omega⟩,by decide,⟨by omega,by omega⟩,⟨⟨by omega,by omega⟩,⟨by omega,by omega⟩⟩,⟨ok2,hl _,tm.1,by omega⟩,fun h8=>?_,fun h8=>⟨⟨by omega,by omega⟩,?_⟩⟩
   . have e2:headW ⟨tn,hf,bt,rs,wt,decide pd,y⟩ hh th by_ rc=((storeS y ((tn+1).tmod 2) (secs (headS (tn+1) hh (by_.length:Int)))).1,toldS ⟨tn,hf,bt,rs,wt,decide pd,(storeS y ((tn+1).tmod 2) (secs (headS (tn+1) hh (by_.length:Int)))).2⟩ (storeS y ((tn+1).tmod 2) (secs (headS (tn+1) hh (by_.length:Int)))).1):=by
       unfold headW; rw [if_pos h8]
     rw [e2]; exact ⟨rfl,rfl,rfl,rfl,rfl,rfl,rfl,rfl⟩
   . have e2:headW ⟨tn,hf,bt,rs,wt,decide pd,y⟩ hh th by_ rc=(.nil,⟨tn+1,hh,by_,rc,[],decide pd,(storeS y ((tn+1).tmod 2) (secs (headS (tn+1) hh (by_.length:Int)))).2⟩):=by
       unfold headW; rw [if_neg h8]
     rw [e2,dn _ h8,Bool.or_false]; exact ⟨rfl,rfl,rfl,rfl,rfl,rfl,rfl,rfl⟩
 . refine ⟨ok,⟨by omega,by omega⟩,⟨by omega,by omega⟩,⟨by decide,⟨by omega,by omega⟩⟩,⟨by omega,by omega⟩,⟨by omega,by omega⟩,⟨ok,by rw [List.length_drop]; omega,by omega,by omega⟩,fun he=>?_,fun he=>⟨fun h=>absurd h ht,fun _=>?_⟩⟩
   . have ew:writeS ⟨tn,hf,bt,rs,wt,decide pd,x⟩ hh th by_ rc=((storeS x (2+hh * halfS x+th.tdiv 256) (secs (by_.drop (th.tdiv 256 * 256).toNat))).1,toldS ⟨tn,hf,bt,rs,wt,decide pd,(storeS x (2+hh * halfS x+th.tdiv 256) (secs (by_.drop (th.tdiv 256 * 256).toNat))).2⟩ (storeS x (2+hh * halfS x+th.tdiv 256) (secs (by_.drop (th.tdiv 256 * 256).toNat))).1):=by
       unfold writeS; rw [if_neg ht,if_pos he]
     rw [ew]; exact ⟨rfl,rfl,rfl,rfl,rfl,rfl,rfl,rfl⟩
   have ew:writeS ⟨tn,hf,bt,rs,wt,decide pd,x⟩ hh th by_ rc=headW ⟨tn,hf,bt,rs,wt,decide pd,(storeS x (2+hh * halfS x+th.tdiv 256) (secs (by_.drop (th.tdiv 256 * 256).toNat))).2⟩ hh th by_ rc:=by
    unfold writeS; rw [if_neg ht,if_neg he]
   have ok2:(storeS x (2+hh * halfS x+th.tdiv 256) (secs (by_.drop (th.tdiv 256 * 256).toNat))).2.Ok:=store_Ok _ _ ok
   rw [ew,dn _ he,Bool.or_false]
   generalize (storeS x (2+hh * halfS x+th.tdiv 256) (secs (by_.drop (th.tdiv 256 * 256).toNat))).2=y at ok2
   refine ⟨⟨by omega,by omega⟩,by decide,⟨by omega,by omega⟩,⟨⟨by omega,by omega⟩,⟨by omega,by omega⟩⟩,⟨ok2,hl _,tm.1,by omega⟩,fun h8=>?_,fun h8=>⟨⟨by omega,by omega⟩,?_⟩⟩
   . have e2:headW ⟨tn,hf,bt,rs,wt,decide pd,y⟩ hh th by_ rc=((storeS y ((tn+1).tmod 2) (secs (headS (tn+1) hh (by_.length:Int)))).1,toldS ⟨tn,hf,bt,rs,wt,decide pd,(storeS y ((tn+1).tmod 2) (secs (headS (tn+1) hh (by_.length:Int)))).2⟩ (storeS y ((tn+1).tmod 2) (secs (headS (tn+1) hh (by_.length:Int)))).1):=by
       unfold headW; rw [if_pos h8]
     rw [e2]; exact ⟨rfl,rfl,rfl,rfl,rfl,rfl,rfl,rfl⟩
   . have e2:headW ⟨tn,hf,bt,rs,wt,decide pd,y⟩ hh th by_ rc=(.nil,⟨tn+1,hh,by_,rc,[],decide pd,(storeS y ((tn+1).tmod 2) (secs (headS (tn+1) hh (by_.length:Int)))).2⟩):=by
       unfold headW; rw [if_neg h8]
     rw [e2,dn _ h8,Bool.or_false]; exact ⟨rfl,rfl,rfl,rfl,rfl,rfl,rfl,rfl⟩
noncomputable def fwrs (tn:Int) (hf:Int) (bt:Str) (rs:List Str) (wt:List Str) (pd:Prop) (dd:Decidable pd) (x:Dk) (rc:List Str) (hh:Int) (th:Int) (by_:Str):FR U:=frOf Nlsz [Dk.Ok x,0<=hh,hh<=1,0<=th,th<=(List.length (α:=UInt8) by_:Int),List.length (α:=UInt8) by_<=5000000,0<=tn,tn<=2199023255552] [(0,.own 54 [.ref 1 0,.int .i64 tn,.int .i64 hf,.str bt,.acc 2,.acc 3,.bl pd dd]),(1,.ob (N:=U) 0 6 x),(2,.ac (N:=U) 9 rs),(3,.ac (N:=U) 9 wt),(4,.ac (N:=U) 9 rc)] 10 1 [.slot 0 (.err),.tree [] [.own (some 200) 54 [.to 1,.v (.int .i64),.v (.int .i64),.v (.str),.v (.acc 9),.v (.acc 9),.v (.bool)],.ob (some 201) 0]] ((writeS (⟨tn,hf,bt,rs,wt,decide pd,x⟩:Lg) hh th by_ rc).1,((((writeS (⟨tn,hf,bt,rs,wt,decide pd,x⟩:Lg) hh th by_ rc).2).turn,((writeS (⟨tn,hf,bt,rs,wt,decide pd,x⟩:Lg) hh th by_ rc).2).half,((writeS (⟨tn,hf,bt,rs,wt,decide pd,x⟩:Lg) hh th by_ rc).2).bytes,((writeS (⟨tn,hf,bt,rs,wt,decide pd,x⟩:Lg) hh th by_ rc).2).recs,((writeS (⟨tn,hf,bt,rs,wt,decide pd,x⟩:Lg) hh th by_ rc).2).wait,((writeS (⟨tn,hf,bt,rs,wt,decide pd,x⟩:Lg) hh th by_ rc).2).dead,()),((writeS (⟨tn,hf,bt,rs,wt,decide pd,x⟩:Lg) hh th by_ rc).2).d,()),())
noncomputable def fwr:FC U:=⟨[],[],fun a its=>match a,its with | [.ref 0 0,.int .i64 hh,.int .i64 th,.str by_,.acc 4],[(0,.own 54 [.ref 1 0,.int .i64 tn,.int .i64 hf,.str bt,.acc 2,.acc 3,.bl pd dd]),(1,.ob 0 6 x),(2,.ac 9 rs),(3,.ac 9 wt),(4,.ac 9 rc)]=>some (fwrs tn hf bt rs wt pd dd x rc hh th by_) | _,_=>none⟩
set_option maxHeartbeats 1000000 in
theorem fwr_ok (args:List (SV U)) (its:Items U) (r:FR U) (h:fwr.C args its=some r) (ho:allP r.ob):GenOK Try.prog U eT Gl 31 args its (2 * its.length) (fun k=>allP r.hy->k r.v r.its r.n):=by
 unfold fwr at h
 simp only at h
 split at h
 . rename_i hh th by_ tn hf bt pd dd x rs wt rc
   cases h
   exact fc_ok Nlsz_ok (inlHN_ok Nlsz_ok Hopen_ok anwr 3) Try.func31 (n:=1) rfl (vs:=[.slot 0 (.err),.tree [] [.own (some 200) 54 [.to 1,.v (.int .i64),.v (.int .i64),.v (.str),.v (.acc 9),.v (.acc 9),.v (.bool)],.ob (some 201) 0]]) (X:=((writeS (⟨tn,hf,bt,rs,wt,decide pd,x⟩:Lg) hh th by_ rc).1,((((writeS (⟨tn,hf,bt,rs,wt,decide pd,x⟩:Lg) hh th by_ rc).2).turn,((writeS (⟨tn,hf,bt,rs,wt,decide pd,x⟩:Lg) hh th by_ rc).2).half,((writeS (⟨tn,hf,bt,rs,wt,decide pd,x⟩:Lg) hh th by_ rc).2).bytes,((writeS (⟨tn,hf,bt,rs,wt,decide pd,x⟩:Lg) hh th by_ rc).2).recs,((writeS (⟨tn,hf,bt,rs,wt,decide pd,x⟩:Lg) hh th by_ rc).2).wait,((writeS (⟨tn,hf,bt,rs,wt,decide pd,x⟩:Lg) hh th by_ rc).2).dead,()),((writeS (⟨tn,hf,bt,rs,wt,decide pd,x⟩:Lg) hh th by_ rc).2).d,()),())) rfl (Vwr_ok (pwr tn hf bt rs wt pd dd x rc hh th by_ ho.1 ho.2.1 ho.2.2.1 ho.2.2.2.1 ho.2.2.2.2.1 ho.2.2.2.2.2.1 ho.2.2.2.2.2.2.1 ho.2.2.2.2.2.2.2.1))
 . cases h
noncomputable def Nwr:Env:=(Nlsz.addI 31 Try.f31).addX 31 fwr
theorem Nwr_ok:EnvOK Nwr:=(Nlsz_ok.addI Try.call31 Try.func31).addX Try.call31 fwr_ok
def ansy:Nat->Ann:=fun | 14=>⟨55,fun _=>none,fun _=>none⟩ | _=>⟨0,fun _=>none,fun _=>none⟩
def Vsy (tn:Int) (hf:Int) (bt:Str) (rs:List Str) (wt:List Str) (pd:Prop) (dd:Decidable pd) (x:Dk) (Q:Err->Int->Int->Str->List Str->List Str->Bool->Dk->Prop):Prop :=
(pd->(Err.no (9:Int)≠Err.nil->Q (Err.no (9:Int)) tn hf bt rs wt (decide pd) x)/\(¬Err.no (9:Int)≠Err.nil->((↑wt.length:Int)=0->Q Err.nil tn hf bt rs wt (decide pd) x)/\(¬(↑wt.length:Int)=0->SmL wt/\((packE wt).snd≠Err.nil->Q (packE wt).snd tn hf bt rs wt (decide pd) x)/\(¬(packE wt).snd≠Err.nil->List.length bt+List.length (packE wt).fst<=9223372036854775807/\rs.length+wt.length<=1000000/\(x.Ok/\(0:Int)<=hf/\hf<=1/\(0:Int)<=(↑(List.length bt):Int)/\(↑(List.length bt):Int)<=(↑(List.length (bt++(packE wt).fst)):Int)/\List.length (bt++(packE wt).fst)<=5000000/\(0:Int)<=tn/\tn<=2199023255552)/\Q (writeS (Lg.mk tn hf bt rs wt (decide pd) x) hf (↑(List.length bt):Int) (bt++(packE wt).fst) (rs.append wt)).fst (writeS (Lg.mk tn hf bt rs wt (decide pd) x) hf (↑(List.length bt):Int) (bt++(packE wt).fst) (rs.append wt)).snd.turn (writeS (Lg.mk tn hf bt rs wt (decide pd) x) hf (↑(List.length bt):Int) (bt++(packE wt).fst) (rs.append wt)).snd.half (writeS (Lg.mk tn hf bt rs wt (decide pd) x) hf (↑(List.length bt):Int) (bt++(packE wt).fst) (rs.append wt)).snd.bytes (writeS (Lg.mk tn hf bt rs wt (decide pd) x) hf (↑(List.length bt):Int) (bt++(packE wt).fst) (rs.append wt)).snd.recs (writeS (Lg.mk tn hf bt rs wt (decide pd) x) hf (↑(List.length bt):Int) (bt++(packE wt).fst) (rs.append wt)).snd.wait (decide ((writeS (Lg.mk tn hf bt rs wt (decide pd) x) hf (↑(List.length bt):Int) (bt++(packE wt).fst) (rs.append wt)).snd.dead=true)) (writeS (Lg.mk tn hf bt rs wt (decide pd) x) hf (↑(List.length bt):Int) (bt++(packE wt).fst) (rs.append wt)).snd.d))))/\(¬pd->(Err.nil≠Err.nil->Q Err.nil tn hf bt rs wt (decide pd) x)/\(¬Err.nil≠Err.nil->((↑wt.length:Int)=0->Q Err.nil tn hf bt rs wt (decide pd) x)/\(¬(↑wt.length:Int)=0->SmL wt/\((packE wt).snd≠Err.nil->Q (packE wt).snd tn hf bt rs wt (decide pd) x)/\(¬(packE wt).snd≠Err.nil->List.length bt+List.length (packE wt).fst<=9223372036854775807/\rs.length+wt.length<=1000000/\(x.Ok/\(0:Int)<=hf/\hf<=1/\(0:Int)<=(↑(List.length bt):Int)/\(↑(List.length bt):Int)<=(↑(List.length (bt++(packE wt).fst)):Int)/\List.length (bt++(packE wt).fst)<=5000000/\(0:Int)<=tn/\tn<=2199023255552)/\Q (writeS (Lg.mk tn hf bt rs wt (decide pd) x) hf (↑(List.length bt):Int) (bt++(packE wt).fst) (rs.append wt)).fst (writeS (Lg.mk tn hf bt rs wt (decide pd) x) hf (↑(List.length bt):Int) (bt++(packE wt).fst) (rs.append wt)).snd.turn (writeS (Lg.mk tn hf bt rs wt (decide pd) x) hf (↑(List.length bt):Int) (bt++(packE wt).fst) (rs.append wt)).snd.half (writeS (Lg.mk tn hf bt rs wt (decide pd) x) hf (↑(List.length bt):Int) (bt++(packE wt).fst) (rs.append wt)).snd.bytes (writeS (Lg.mk tn hf bt rs wt (decide pd) x) hf (↑(List.length bt):Int) (bt++(packE wt).fst) (rs.append wt)).snd.recs (writeS (Lg.mk tn hf bt rs wt (decide pd) x) hf (↑(List.length bt):Int) (bt++(packE wt).fst) (rs.append wt)).snd.wait (decide ((writeS (Lg.mk tn hf bt rs wt (decide pd) x) hf (↑(List.length bt):Int) (bt++(packE wt).fst) (rs.append wt)).snd.dead=true)) (writeS (Lg.mk tn hf bt rs wt (decide pd) x) hf (↑(List.length bt):Int) (bt++(packE wt).fst) (rs.append wt)).snd.d))))
theorem Vsy_eq {tn:Int} {hf:Int} {bt:Str} {rs:List Str} {wt:List Str} {pd:Prop} {dd:Decidable pd} {x:Dk} {Q:Err->Int->Int->Str->List Str->List Str->Bool->Dk->Prop}:@Eq Prop (Vsy tn hf bt rs wt pd dd x Q) (vcFun (E:=Nwr) (inlHN Nwr Hopen ansy 3) (ansy 14) Try.f14 [.ref 0 0] [(0,.own 54 [.ref 1 0,.int .i64 tn,.int .i64 hf,.str bt,.acc 2,.acc 3,.bl pd dd]),(1,.ob (N:=U) 0 5 x),(2,.ac (N:=U) 9 rs),(3,.ac (N:=U) 9 wt)] [] 8 (endG Nwr [(0,.own 54 [.ref 1 0,.int .i64 tn,.int .i64 hf,.str bt,.acc 2,.acc 3,.bl pd dd]),(1,.ob (N:=U) 0 5 x),(2,.ac (N:=U) 9 rs),(3,.ac (N:=U) 9 wt)] 8 1 [[.slot 0 (.err),.tree [] [.own (some 200) 54 [.to 1,.v (.int .i64),.v (.int .i64),.v (.str),.v (.acc 9),.v (.acc 9),.v (.bool)],.ob (some 201) 0]]] ((Q,fun _ _ _ _ _ _ _ _=>(0:Nat)),()))):=by kernel_rfl
theorem Vsy_ok {tn:Int} {hf:Int} {bt:Str} {rs:List Str} {wt:List Str} {pd:Prop} {dd:Decidable pd} {x:Dk} {Q:Err->Int->Int->Str->List Str->List Str->Bool->Dk->Prop} (h:Vsy tn hf bt rs wt pd dd x Q):vcFun (E:=Nwr) (inlHN Nwr Hopen ansy 3) (ansy 14) Try.f14 [.ref 0 0] [(0,.own 54 [.ref 1 0,.int .i64 tn,.int .i64 hf,.str bt,.acc 2,.acc 3,.bl pd dd]),(1,.ob (N:=U) 0 5 x),(2,.ac (N:=U) 9 rs),(3,.ac (N:=U) 9 wt)] [] 8 (endG Nwr [(0,.own 54 [.ref 1 0,.int .i64 tn,.int .i64 hf,.str bt,.acc 2,.acc 3,.bl pd dd]),(1,.ob (N:=U) 0 5 x),(2,.ac (N:=U) 9 rs),(3,.ac (N:=U) 9 wt)] 8 1 [[.slot 0 (.err),.tree [] [.own (some 200) 54 [.to 1,.v (.int .i64),.v (.int .i64),.v (.str),.v (.acc 9),.v (.acc 9),.v (.bool)],.ob (some 201) 0]]] ((Q,fun _ _ _ _ _ _ _ _=>(0:Nat)),())):=by rw [<- Vsy_eq]; exact h
set_option maxHeartbeats 1000000 in
theorem psy (tn:Int) (hf:Int) (bt:Str) (rs:List Str) (wt:List Str) (pd:Prop) (dd:Decidable pd) (x:Dk) (hb:LgB (⟨tn,hf,bt,rs,wt,decide pd,x⟩:Lg)):Vsy tn hf bt rs wt pd dd x (fun y0 y1 y2 y3 y4 y5 y6 y7=>y0=(syncS (⟨tn,hf,bt,rs,wt,decide pd,x⟩:Lg)).1/\y1=((syncS (⟨tn,hf,bt,rs,wt,decide pd,x⟩:Lg)).2).turn/\y2=((syncS (⟨tn,hf,bt,rs,wt,decide pd,x⟩:Lg)).2).half/\y3=((syncS (⟨tn,hf,bt,rs,wt,decide pd,x⟩:Lg)).2).bytes/\y4=((syncS (⟨tn,hf,bt,rs,wt,decide pd,x⟩:Lg)).2).recs/\y5=((syncS (⟨tn,hf,bt,rs,wt,decide pd,x⟩:Lg)).2).wait/\y6=((syncS (⟨tn,hf,bt,rs,wt,decide pd,x⟩:Lg)).2).dead/\y7=((syncS (⟨tn,hf,bt,rs,wt,decide pd,x⟩:Lg)).2).d):=by
 unfold Vsy syncS
 obtain ⟨ok,h0,h1,hb,t0,t1,hn,hw,hp⟩:=hb
 have ok:x.Ok:=ok
 have hb:bt.length<=2000000:=hb
 have hn:rs.length+wt.length<=1000000:=hn
 have hp:(packE wt).1.length<=2000000:=hp
 have t0:0<=tn:=t0
 have t1:tn<=2199023255552:=t1
 have e9:Err.no 9≠Err.nil:=by simp
 refine ⟨fun hd=>⟨fun _=>?_,fun h=>absurd e9 h⟩,fun hd=>⟨fun h=>absurd rfl h,fun _=>⟨fun h2=>?_,fun h2=>⟨hw,fun h3=>?_,fun h3=>⟨by omega,hn,⟨ok,h0,h1,by omega,by rw [List.length_append]; omega,by rw [List.length_append]; omega,t0,t1⟩,?_⟩⟩⟩⟩⟩
 . rw [if_pos (show decide pd=true from decide_eq_true hd)]; exact ⟨rfl,rfl,rfl,rfl,rfl,rfl,rfl,rfl⟩
 . rw [if_neg (show ¬ decide pd=true from fun h=>hd (of_decide_eq_true h)),if_pos (show wt.length=0 by omega)]; exact ⟨rfl,rfl,rfl,rfl,rfl,rfl,rfl,rfl⟩
 . rw [if_neg (show ¬ decide pd=true from fun h=>hd (of_decide_eq_true h)),if_neg (show ¬ wt.length=0 by omega),if_pos h3]; exact ⟨rfl,rfl,rfl,rfl,rfl,rfl,rfl,rfl⟩
 . rw [if_neg (show ¬ decide pd=true from fun h=>hd (of_decide_eq_true h)),if_neg (show ¬ wt.length=0 by omega),if_neg h3]; exact ⟨rfl,rfl,rfl,rfl,rfl,rfl,by simp only [Bool.decide_eq_true]; rfl,rfl⟩
noncomputable def fsys (tn:Int) (hf:Int) (bt:Str) (rs:List Str) (wt:List Str) (pd:Prop) (dd:Decidable pd) (x:Dk):FR U:=frOf Nwr [LgB (⟨tn,hf,bt,rs,wt,decide pd,x⟩:Lg)] [(0,.own 54 [.ref 1 0,.int .i64 tn,.int .i64 hf,.str bt,.acc 2,.acc 3,.bl pd dd]),(1,.ob (N:=U) 0 5 x),(2,.ac (N:=U) 9 rs),(3,.ac (N:=U) 9 wt)] 8 1 [.slot 0 (.err),.tree [] [.own (some 200) 54 [.to 1,.v (.int .i64),.v (.int .i64),.v (.str),.v (.acc 9),.v (.acc 9),.v (.bool)],.ob (some 201) 0]] ((syncS (⟨tn,hf,bt,rs,wt,decide pd,x⟩:Lg)).1,((((syncS (⟨tn,hf,bt,rs,wt,decide pd,x⟩:Lg)).2).turn,((syncS (⟨tn,hf,bt,rs,wt,decide pd,x⟩:Lg)).2).half,((syncS (⟨tn,hf,bt,rs,wt,decide pd,x⟩:Lg)).2).bytes,((syncS (⟨tn,hf,bt,rs,wt,decide pd,x⟩:Lg)).2).recs,((syncS (⟨tn,hf,bt,rs,wt,decide pd,x⟩:Lg)).2).wait,((syncS (⟨tn,hf,bt,rs,wt,decide pd,x⟩:Lg)).2).dead,()),((syncS (⟨tn,hf,bt,rs,wt,decide pd,x⟩:Lg)).2).d,()),())
noncomputable def fsy:FC U:=⟨[],[],fun a its=>match a,its with | [.ref 0 0],[(0,.own 54 [.ref 1 0,.int .i64 tn,.int .i64 hf,.str bt,.acc 2,.acc 3,.bl pd dd]),(1,.ob 0 5 x),(2,.ac 9 rs),(3,.ac 9 wt)]=>some (fsys tn hf bt rs wt pd dd x) | _,_=>none⟩
set_option maxHeartbeats 1000000 in
theorem fsy_ok (args:List (SV U)) (its:Items U) (r:FR U) (h:fsy.C args its=some r) (ho:allP r.ob):GenOK Try.prog U eT Gl 14 args its (2 * its.length) (fun k=>allP r.hy->k r.v r.its r.n):=by
 unfold fsy at h
 simp only at h
 split at h
 . rename_i tn hf bt pd dd x rs wt
   cases h
   exact fc_ok Nwr_ok (inlHN_ok Nwr_ok Hopen_ok ansy 3) Try.func14 (n:=1) rfl (vs:=[.slot 0 (.err),.tree [] [.own (some 200) 54 [.to 1,.v (.int .i64),.v (.int .i64),.v (.str),.v (.acc 9),.v (.acc 9),.v (.bool)],.ob (some 201) 0]]) (X:=((syncS (⟨tn,hf,bt,rs,wt,decide pd,x⟩:Lg)).1,((((syncS (⟨tn,hf,bt,rs,wt,decide pd,x⟩:Lg)).2).turn,((syncS (⟨tn,hf,bt,rs,wt,decide pd,x⟩:Lg)).2).half,((syncS (⟨tn,hf,bt,rs,wt,decide pd,x⟩:Lg)).2).bytes,((syncS (⟨tn,hf,bt,rs,wt,decide pd,x⟩:Lg)).2).recs,((syncS (⟨tn,hf,bt,rs,wt,decide pd,x⟩:Lg)).2).wait,((syncS (⟨tn,hf,bt,rs,wt,decide pd,x⟩:Lg)).2).dead,()),((syncS (⟨tn,hf,bt,rs,wt,decide pd,x⟩:Lg)).2).d,()),())) rfl (Vsy_ok (psy tn hf bt rs wt pd dd x ho.1))
 . cases h
noncomputable def Nsy:Env:=(Nwr.addI 14 Try.f14).addX 14 fsy
theorem Nsy_ok:EnvOK Nsy:=(Nwr_ok.addI Try.call14 Try.func14).addX Try.call14 fsy_ok
def anco:Nat->Ann:=fun | 17=>⟨37,fun _=>none,fun _=>none⟩ | _=>⟨0,fun _=>none,fun _=>none⟩
def Vco (tn:Int) (hf:Int) (bt:Str) (rs:List Str) (wt:List Str) (pd:Prop) (dd:Decidable pd) (x:Dk) (l:List Str) (Q:Err->Int->Int->Str->List Str->List Str->Bool->Dk->Prop):Prop :=
(pd->(Err.no (9:Int)≠Err.nil->Q (Err.no (9:Int)) tn hf bt rs wt (decide pd) x)/\(¬Err.no (9:Int)≠Err.nil->SmL l/\((packE l).snd≠Err.nil->Q (packE l).snd tn hf bt rs wt (decide pd) x)/\(¬(packE l).snd≠Err.nil->x.Ok/\(halfS x * 256<(↑(List.length (packE l).fst):Int)->Q (Err.no (6:Int)) tn hf bt rs wt (decide (decide pd=true)) x)/\(¬halfS x * 256<(↑(List.length (packE l).fst):Int)->in64 ((1:Int)-hf)/\l.length<=1000000/\(x.Ok/\(0:Int)<=(1:Int)-hf/\(1:Int)-hf<=1/\(0:Int)<=0/\(0:Int)<=(↑(List.length (packE l).fst):Int)/\List.length (packE l).fst<=5000000/\(0:Int)<=tn/\tn<=2199023255552)/\Q (writeS (Lg.mk tn hf bt rs wt (decide (decide pd=true)) x) ((1:Int)-hf) (0:Int) (packE l).fst l).fst (writeS (Lg.mk tn hf bt rs wt (decide (decide pd=true)) x) ((1:Int)-hf) (0:Int) (packE l).fst l).snd.turn (writeS (Lg.mk tn hf bt rs wt (decide (decide pd=true)) x) ((1:Int)-hf) (0:Int) (packE l).fst l).snd.half (writeS (Lg.mk tn hf bt rs wt (decide (decide pd=true)) x) ((1:Int)-hf) (0:Int) (packE l).fst l).snd.bytes (writeS (Lg.mk tn hf bt rs wt (decide (decide pd=true)) x) ((1:Int)-hf) (0:Int) (packE l).fst l).snd.recs (writeS (Lg.mk tn hf bt rs wt (decide (decide pd=true)) x) ((1:Int)-hf) (0:Int) (packE l).fst l).snd.wait (decide ((writeS (Lg.mk tn hf bt rs wt (decide (decide pd=true)) x) ((1:Int)-hf) (0:Int) (packE l).fst l).snd.dead=true)) (writeS (Lg.mk tn hf bt rs wt (decide (decide pd=true)) x) ((1:Int)-hf) (0:Int) (packE l).fst l).snd.d))))/\(¬pd->(Err.nil≠Err.nil->Q Err.nil tn hf bt rs wt (decide pd) x)/\(¬Err.nil≠Err.nil->SmL l/\((packE l).snd≠Err.nil->Q (packE l).snd tn hf bt rs wt (decide pd) x)/\(¬(packE l).snd≠Err.nil->x.Ok/\(halfS x * 256<(↑(List.length (packE l).fst):Int)->Q (Err.no (6:Int)) tn hf bt rs wt (decide (decide pd=true)) x)/\(¬halfS x * 256<(↑(List.length (packE l).fst):Int)->in64 ((1:Int)-hf)/\l.length<=1000000/\(x.Ok/\(0:Int)<=(1:Int)-hf/\(1:Int)-hf<=1/\(0:Int)<=0/\(0:Int)<=(↑(List.length (packE l).fst):Int)/\List.length (packE l).fst<=5000000/\(0:Int)<=tn/\tn<=2199023255552)/\Q (writeS (Lg.mk tn hf bt rs wt (decide (decide pd=true)) x) ((1:Int)-hf) (0:Int) (packE l).fst l).fst (writeS (Lg.mk tn hf bt rs wt (decide (decide pd=true)) x) ((1:Int)-hf) (0:Int) (packE l).fst l).snd.turn (writeS (Lg.mk tn hf bt rs wt (decide (decide pd=true)) x) ((1:Int)-hf) (0:Int) (packE l).fst l).snd.half (writeS (Lg.mk tn hf bt rs wt (decide (decide pd=true)) x) ((1:Int)-hf) (0:Int) (packE l).fst l).snd.bytes (writeS (Lg.mk tn hf bt rs wt (decide (decide pd=true)) x) ((1:Int)-hf) (0:Int) (packE l).fst l).snd.recs (writeS (Lg.mk tn hf bt rs wt (decide (decide pd=true)) x) ((1:Int)-hf) (0:Int) (packE l).fst l).snd.wait (decide ((writeS (Lg.mk tn hf bt rs wt (decide (decide pd=true)) x) ((1:Int)-hf) (0:Int) (packE l).fst l).snd.dead=true)) (writeS (Lg.mk tn hf bt rs wt (decide (decide pd=true)) x) ((1:Int)-hf) (0:Int) (packE l).fst l).snd.d))))
theorem Vco_eq {tn:Int} {hf:Int} {bt:Str} {rs:List Str} {wt:List Str} {pd:Prop} {dd:Decidable pd} {x:Dk} {l:List Str} {Q:Err->Int->Int->Str->List Str->List Str->Bool->Dk->Prop}:@Eq Prop (Vco tn hf bt rs wt pd dd x l Q) (vcFun (E:=Nsy) (inlHN Nsy Hopen anco 3) (anco 17) Try.f17 [.ref 0 0,.sl (N:=U) 9 l] [(0,.own 54 [.ref 1 0,.int .i64 tn,.int .i64 hf,.str bt,.acc 2,.acc 3,.bl pd dd]),(1,.ob (N:=U) 0 5 x),(2,.ac (N:=U) 9 rs),(3,.ac (N:=U) 9 wt)] [] 8 (endG Nsy [(0,.own 54 [.ref 1 0,.int .i64 tn,.int .i64 hf,.str bt,.acc 2,.acc 3,.bl pd dd]),(1,.ob (N:=U) 0 5 x),(2,.ac (N:=U) 9 rs),(3,.ac (N:=U) 9 wt)] 8 1 [[.slot 0 (.err),.tree [] [.own (some 200) 54 [.to 1,.v (.int .i64),.v (.int .i64),.v (.str),.v (.acc 9),.v (.acc 9),.v (.bool)],.ob (some 201) 0]]] ((Q,fun _ _ _ _ _ _ _ _=>(0:Nat)),()))):=by kernel_rfl
theorem Vco_ok {tn:Int} {hf:Int} {bt:Str} {rs:List Str} {wt:List Str} {pd:Prop} {dd:Decidable pd} {x:Dk} {l:List Str} {Q:Err->Int->Int->Str->List Str->List Str->Bool->Dk->Prop} (h:Vco tn hf bt rs wt pd dd x l Q):vcFun (E:=Nsy) (inlHN Nsy Hopen anco 3) (anco 17) Try.f17 [.ref 0 0,.sl (N:=U) 9 l] [(0,.own 54 [.ref 1 0,.int .i64 tn,.int .i64 hf,.str bt,.acc 2,.acc 3,.bl pd dd]),(1,.ob (N:=U) 0 5 x),(2,.ac (N:=U) 9 rs),(3,.ac (N:=U) 9 wt)] [] 8 (endG Nsy [(0,.own 54 [.ref 1 0,.int .i64 tn,.int .i64 hf,.str bt,.acc 2,.acc 3,.bl pd dd]),(1,.ob (N:=U) 0 5 x),(2,.ac (N:=U) 9 rs),(3,.ac (N:=U) 9 wt)] 8 1 [[.slot 0 (.err),.tree [] [.own (some 200) 54 [.to 1,.v (.int .i64),.v (.int .i64),.v (.str),.v (.acc 9),.v (.acc 9),.v (.bool)],.ob (some 201) 0]]] ((Q,fun _ _ _ _ _ _ _ _=>(0:Nat)),())):=by rw [<- Vco_eq]; exact h
set_option maxHeartbeats 1000000 in
theorem pco (tn:Int) (hf:Int) (bt:Str) (rs:List Str) (wt:List Str) (pd:Prop) (dd:Decidable pd) (x:Dk) (l:List Str) (hb:LgB (⟨tn,hf,bt,rs,wt,decide pd,x⟩:Lg)) (hl:SmL l):Vco tn hf bt rs wt pd dd x l (fun y0 y1 y2 y3 y4 y5 y6 y7=>y0=(compS (⟨tn,hf,bt,rs,wt,decide pd,x⟩:Lg) l).1/\y1=((compS (⟨tn,hf,bt,rs,wt,decide pd,x⟩:Lg) l).2).turn/\y2=((compS (⟨tn,hf,bt,rs,wt,decide pd,x⟩:Lg) l).2).half/\y3=((compS (⟨tn,hf,bt,rs,wt,decide pd,x⟩:Lg) l).2).bytes/\y4=((compS (⟨tn,hf,bt,rs,wt,decide pd,x⟩:Lg) l).2).recs/\y5=((compS (⟨tn,hf,bt,rs,wt,decide pd,x⟩:Lg) l).2).wait/\y6=((compS (⟨tn,hf,bt,rs,wt,decide pd,x⟩:Lg) l).2).dead/\y7=((compS (⟨tn,hf,bt,rs,wt,decide pd,x⟩:Lg) l).2).d):=by
 unfold Vco compS
 obtain ⟨ok,h0,h1,hb,t0,t1,hn,hw,hp⟩:=hb
 have ok:x.Ok:=ok
 have h0:0<=hf:=h0
 have h1:hf<=1:=h1
 have t0:0<=tn:=t0
 have t1:tn<=2199023255552:=t1
 have e9:Err.no 9≠Err.nil:=by simp
 obtain ⟨g0,g1,_⟩:=half_at ok
 rw [show decide (decide pd=true)=decide pd from Bool.decide_eq_true]
 refine ⟨fun hd=>⟨fun _=>?_,fun h=>absurd e9 h⟩,fun hd=>⟨fun h=>absurd rfl h,fun _=>⟨hl,fun h3=>?_,fun h3=>⟨ok,fun h4=>?_,fun h4=>⟨⟨by omega,by omega⟩,hl.1,⟨ok,by omega,by omega,Int.le_refl 0,by omega,by omega,t0,t1⟩,?_⟩⟩⟩⟩⟩
 . rw [if_pos (show (⟨tn,hf,bt,rs,wt,decide pd,x⟩:Lg).dead=true from decide_eq_true hd)]; exact ⟨rfl,rfl,rfl,rfl,rfl,rfl,rfl,rfl⟩
 . rw [if_neg (show ¬ (⟨tn,hf,bt,rs,wt,decide pd,x⟩:Lg).dead=true from fun h=>hd (of_decide_eq_true h)),if_pos h3]; exact ⟨rfl,rfl,rfl,rfl,rfl,rfl,rfl,rfl⟩
 . rw [if_neg (show ¬ (⟨tn,hf,bt,rs,wt,decide pd,x⟩:Lg).dead=true from fun h=>hd (of_decide_eq_true h)),if_neg h3,if_pos (show sizeG ⟨tn,hf,bt,rs,wt,decide pd,x⟩<((packE l).1.length:Int) from h4)]; exact ⟨rfl,rfl,rfl,rfl,rfl,rfl,rfl,rfl⟩
 . rw [if_neg (show ¬ (⟨tn,hf,bt,rs,wt,decide pd,x⟩:Lg).dead=true from fun h=>hd (of_decide_eq_true h)),if_neg h3,if_neg (show ¬ sizeG ⟨tn,hf,bt,rs,wt,decide pd,x⟩<((packE l).1.length:Int) from h4)]; exact ⟨rfl,rfl,rfl,rfl,rfl,rfl,by simp only [Bool.decide_eq_true],rfl⟩
noncomputable def fcos (tn:Int) (hf:Int) (bt:Str) (rs:List Str) (wt:List Str) (pd:Prop) (dd:Decidable pd) (x:Dk) (l:List Str):FR U:=frOf Nsy [LgB (⟨tn,hf,bt,rs,wt,decide pd,x⟩:Lg),SmL l] [(0,.own 54 [.ref 1 0,.int .i64 tn,.int .i64 hf,.str bt,.acc 2,.acc 3,.bl pd dd]),(1,.ob (N:=U) 0 5 x),(2,.ac (N:=U) 9 rs),(3,.ac (N:=U) 9 wt)] 8 1 [.slot 0 (.err),.tree [] [.own (some 200) 54 [.to 1,.v (.int .i64),.v (.int .i64),.v (.str),.v (.acc 9),.v (.acc 9),.v (.bool)],.ob (some 201) 0]] ((compS (⟨tn,hf,bt,rs,wt,decide pd,x⟩:Lg) l).1,((((compS (⟨tn,hf,bt,rs,wt,decide pd,x⟩:Lg) l).2).turn,((compS (⟨tn,hf,bt,rs,wt,decide pd,x⟩:Lg) l).2).half,((compS (⟨tn,hf,bt,rs,wt,decide pd,x⟩:Lg) l).2).bytes,((compS (⟨tn,hf,bt,rs,wt,decide pd,x⟩:Lg) l).2).recs,((compS (⟨tn,hf,bt,rs,wt,decide pd,x⟩:Lg) l).2).wait,((compS (⟨tn,hf,bt,rs,wt,decide pd,x⟩:Lg) l).2).dead,()),((compS (⟨tn,hf,bt,rs,wt,decide pd,x⟩:Lg) l).2).d,()),())
noncomputable def fco:FC U:=⟨[1],[],fun a its=>match a,its with | [.ref 0 0,.sl 9 l],[(0,.own 54 [.ref 1 0,.int .i64 tn,.int .i64 hf,.str bt,.acc 2,.acc 3,.bl pd dd]),(1,.ob 0 5 x),(2,.ac 9 rs),(3,.ac 9 wt)]=>some (fcos tn hf bt rs wt pd dd x l) | _,_=>none⟩
set_option maxHeartbeats 1000000 in
theorem fco_ok (args:List (SV U)) (its:Items U) (r:FR U) (h:fco.C args its=some r) (ho:allP r.ob):GenOK Try.prog U eT Gl 17 args its (2 * its.length) (fun k=>allP r.hy->k r.v r.its r.n):=by
 unfold fco at h
 simp only at h
 split at h
 . rename_i l tn hf bt pd dd x rs wt
   cases h
   exact fc_ok Nsy_ok (inlHN_ok Nsy_ok Hopen_ok anco 3) Try.func17 (n:=1) rfl (vs:=[.slot 0 (.err),.tree [] [.own (some 200) 54 [.to 1,.v (.int .i64),.v (.int .i64),.v (.str),.v (.acc 9),.v (.acc 9),.v (.bool)],.ob (some 201) 0]]) (X:=((compS (⟨tn,hf,bt,rs,wt,decide pd,x⟩:Lg) l).1,((((compS (⟨tn,hf,bt,rs,wt,decide pd,x⟩:Lg) l).2).turn,((compS (⟨tn,hf,bt,rs,wt,decide pd,x⟩:Lg) l).2).half,((compS (⟨tn,hf,bt,rs,wt,decide pd,x⟩:Lg) l).2).bytes,((compS (⟨tn,hf,bt,rs,wt,decide pd,x⟩:Lg) l).2).recs,((compS (⟨tn,hf,bt,rs,wt,decide pd,x⟩:Lg) l).2).wait,((compS (⟨tn,hf,bt,rs,wt,decide pd,x⟩:Lg) l).2).dead,()),((compS (⟨tn,hf,bt,rs,wt,decide pd,x⟩:Lg) l).2).d,()),())) rfl (Vco_ok (pco tn hf bt rs wt pd dd x l ho.1 ho.2.1))
 . cases h
noncomputable def Nco:Env:=(Nsy.addI 17 Try.f17).addX 17 fco
theorem Nco_ok:EnvOK Nco:=(Nsy_ok.addI Try.call17 Try.func17).addX Try.call17 fco_ok
def antu:Nat->Ann:=fun | 20=>⟨9,fun _=>none,fun _=>none⟩ | _=>⟨0,fun _=>none,fun _=>none⟩
def Vtu (tn:Int) (hf:Int) (bt:Str) (rs:List Str) (wt:List Str) (pd:Prop) (dd:Decidable pd) (x:Dk) (Q:Int->Int->Int->Str->List Str->List Str->Bool->Dk->Prop):Prop :=
Q tn tn hf bt rs wt (decide pd) x
theorem Vtu_eq {tn:Int} {hf:Int} {bt:Str} {rs:List Str} {wt:List Str} {pd:Prop} {dd:Decidable pd} {x:Dk} {Q:Int->Int->Int->Str->List Str->List Str->Bool->Dk->Prop}:@Eq Prop (Vtu tn hf bt rs wt pd dd x Q) (vcFun (E:=Nco) (inlHN Nco Hopen antu 3) (antu 20) Try.f20 [.ref 0 0] [(0,.own 54 [.ref 1 0,.int .i64 tn,.int .i64 hf,.str bt,.acc 2,.acc 3,.bl pd dd]),(1,.ob (N:=U) 0 5 x),(2,.ac (N:=U) 9 rs),(3,.ac (N:=U) 9 wt)] [] 8 (endG Nco [(0,.own 54 [.ref 1 0,.int .i64 tn,.int .i64 hf,.str bt,.acc 2,.acc 3,.bl pd dd]),(1,.ob (N:=U) 0 5 x),(2,.ac (N:=U) 9 rs),(3,.ac (N:=U) 9 wt)] 8 1 [[.slot 0 (.int .i64),.tree [] [.own (some 200) 54 [.to 1,.v (.int .i64),.v (.int .i64),.v (.str),.v (.acc 9),.v (.acc 9),.v (.bool)],.ob (some 201) 0]]] ((Q,fun _ _ _ _ _ _ _ _=>(0:Nat)),()))):=by kernel_rfl
theorem Vtu_ok {tn:Int} {hf:Int} {bt:Str} {rs:List Str} {wt:List Str} {pd:Prop} {dd:Decidable pd} {x:Dk} {Q:Int->Int->Int->Str->List Str->List Str->Bool->Dk->Prop} (h:Vtu tn hf bt rs wt pd dd x Q):vcFun (E:=Nco) (inlHN Nco Hopen antu 3) (antu 20) Try.f20 [.ref 0 0] [(0,.own 54 [.ref 1 0,.int .i64 tn,.int .i64 hf,.str bt,.acc 2,.acc 3,.bl pd dd]),(1,.ob (N:=U) 0 5 x),(2,.ac (N:=U) 9 rs),(3,.ac (N:=U) 9 wt)] [] 8 (endG Nco [(0,.own 54 [.ref 1 0,.int .i64 tn,.int .i64 hf,.str bt,.acc 2,.acc 3,.bl pd dd]),(1,.ob (N:=U) 0 5 x),(2,.ac (N:=U) 9 rs),(3,.ac (N:=U) 9 wt)] 8 1 [[.slot 0 (.int .i64),.tree [] [.own (some 200) 54 [.to 1,.v (.int .i64),.v (.int .i64),.v (.str),.v (.acc 9),.v (.acc 9),.v (.bool)],.ob (some 201) 0]]] ((Q,fun _ _ _ _ _ _ _ _=>(0:Nat)),())):=by rw [<- Vtu_eq]; exact h
theorem ptu (tn:Int) (hf:Int) (bt:Str) (rs:List Str) (wt:List Str) (pd:Prop) (dd:Decidable pd) (x:Dk)  : Vtu tn hf bt rs wt pd dd x (fun y0 y1 y2 y3 y4 y5 y6 y7=>y0=tn/\y1=tn/\y2=hf/\y3=bt/\y4=rs/\y5=wt/\y6=(decide pd)/\y7=x):=by
 unfold Vtu
 exact ⟨rfl,rfl,rfl,rfl,rfl,rfl,rfl,rfl⟩
noncomputable def ftus (tn:Int) (hf:Int) (bt:Str) (rs:List Str) (wt:List Str) (pd:Prop) (dd:Decidable pd) (x:Dk):FR U:=frOf Nco [] [(0,.own 54 [.ref 1 0,.int .i64 tn,.int .i64 hf,.str bt,.acc 2,.acc 3,.bl pd dd]),(1,.ob (N:=U) 0 5 x),(2,.ac (N:=U) 9 rs),(3,.ac (N:=U) 9 wt)] 8 1 [.slot 0 (.int .i64),.tree [] [.own (some 200) 54 [.to 1,.v (.int .i64),.v (.int .i64),.v (.str),.v (.acc 9),.v (.acc 9),.v (.bool)],.ob (some 201) 0]] (tn,((tn,hf,bt,rs,wt,(decide pd),()),x,()),())
noncomputable def ftu:FC U:=⟨[],[],fun a its=>match a,its with | [.ref 0 0],[(0,.own 54 [.ref 1 0,.int .i64 tn,.int .i64 hf,.str bt,.acc 2,.acc 3,.bl pd dd]),(1,.ob 0 5 x),(2,.ac 9 rs),(3,.ac 9 wt)]=>some (ftus tn hf bt rs wt pd dd x) | _,_=>none⟩
theorem ftu_ok (args:List (SV U)) (its:Items U) (r:FR U) (h:ftu.C args its=some r) (ho:allP r.ob):GenOK Try.prog U eT Gl 20 args its (2 * its.length) (fun k=>allP r.hy->k r.v r.its r.n):=by
 unfold ftu at h
 simp only at h
 split at h
 . rename_i tn hf bt pd dd x rs wt
   cases h
   exact fc_ok Nco_ok (inlHN_ok Nco_ok Hopen_ok antu 3) Try.func20 (n:=1) rfl (vs:=[.slot 0 (.int .i64),.tree [] [.own (some 200) 54 [.to 1,.v (.int .i64),.v (.int .i64),.v (.str),.v (.acc 9),.v (.acc 9),.v (.bool)],.ob (some 201) 0]]) (X:=(tn,((tn,hf,bt,rs,wt,(decide pd),()),x,()),())) rfl (Vtu_ok (ptu tn hf bt rs wt pd dd x ))
 . cases h
noncomputable def Ntu:Env:=(Nco.addI 20 Try.f20).addX 20 ftu
theorem Ntu_ok:EnvOK Ntu:=(Nco_ok.addI Try.call20 Try.func20).addX Try.call20 ftu_ok
def anwai:Nat->Ann:=fun | 13=>⟨10,fun _=>none,fun _=>none⟩ | _=>⟨0,fun _=>none,fun _=>none⟩
def Vwai (tn:Int) (hf:Int) (bt:Str) (rs:List Str) (wt:List Str) (pd:Prop) (dd:Decidable pd) (x:Dk) (Q:Int->Int->Int->Str->List Str->List Str->Bool->Dk->Prop):Prop :=
Q (↑wt.length:Int) tn hf bt rs wt (decide pd) x
theorem Vwai_eq {tn:Int} {hf:Int} {bt:Str} {rs:List Str} {wt:List Str} {pd:Prop} {dd:Decidable pd} {x:Dk} {Q:Int->Int->Int->Str->List Str->List Str->Bool->Dk->Prop}:@Eq Prop (Vwai tn hf bt rs wt pd dd x Q) (vcFun (E:=Ntu) (inlHN Ntu Hopen anwai 3) (anwai 13) Try.f13 [.ref 0 0] [(0,.own 54 [.ref 1 0,.int .i64 tn,.int .i64 hf,.str bt,.acc 2,.acc 3,.bl pd dd]),(1,.ob (N:=U) 0 5 x),(2,.ac (N:=U) 9 rs),(3,.ac (N:=U) 9 wt)] [] 8 (endG Ntu [(0,.own 54 [.ref 1 0,.int .i64 tn,.int .i64 hf,.str bt,.acc 2,.acc 3,.bl pd dd]),(1,.ob (N:=U) 0 5 x),(2,.ac (N:=U) 9 rs),(3,.ac (N:=U) 9 wt)] 8 1 [[.slot 0 (.int .i64),.tree [] [.own (some 200) 54 [.to 1,.v (.int .i64),.v (.int .i64),.v (.str),.v (.acc 9),.v (.acc 9),.v (.bool)],.ob (some 201) 0]]] ((Q,fun _ _ _ _ _ _ _ _=>(0:Nat)),()))):=by kernel_rfl
theorem Vwai_ok {tn:Int} {hf:Int} {bt:Str} {rs:List Str} {wt:List Str} {pd:Prop} {dd:Decidable pd} {x:Dk} {Q:Int->Int->Int->Str->List Str->List Str->Bool->Dk->Prop} (h:Vwai tn hf bt rs wt pd dd x Q):vcFun (E:=Ntu) (inlHN Ntu Hopen anwai 3) (anwai 13) Try.f13 [.ref 0 0] [(0,.own 54 [.ref 1 0,.int .i64 tn,.int .i64 hf,.str bt,.acc 2,.acc 3,.bl pd dd]),(1,.ob (N:=U) 0 5 x),(2,.ac (N:=U) 9 rs),(3,.ac (N:=U) 9 wt)] [] 8 (endG Ntu [(0,.own 54 [.ref 1 0,.int .i64 tn,.int .i64 hf,.str bt,.acc 2,.acc 3,.bl pd dd]),(1,.ob (N:=U) 0 5 x),(2,.ac (N:=U) 9 rs),(3,.ac (N:=U) 9 wt)] 8 1 [[.slot 0 (.int .i64),.tree [] [.own (some 200) 54 [.to 1,.v (.int .i64),.v (.int .i64),.v (.str),.v (.acc 9),.v (.acc 9),.v (.bool)],.ob (some 201) 0]]] ((Q,fun _ _ _ _ _ _ _ _=>(0:Nat)),())):=by rw [<- Vwai_eq]; exact h
theorem pwai (tn:Int) (hf:Int) (bt:Str) (rs:List Str) (wt:List Str) (pd:Prop) (dd:Decidable pd) (x:Dk)  : Vwai tn hf bt rs wt pd dd x (fun y0 y1 y2 y3 y4 y5 y6 y7=>y0=(wt.length:Int)/\y1=tn/\y2=hf/\y3=bt/\y4=rs/\y5=wt/\y6=(decide pd)/\y7=x):=by
 unfold Vwai
 exact ⟨rfl,rfl,rfl,rfl,rfl,rfl,rfl,rfl⟩
noncomputable def fwais (tn:Int) (hf:Int) (bt:Str) (rs:List Str) (wt:List Str) (pd:Prop) (dd:Decidable pd) (x:Dk):FR U:=frOf Ntu [] [(0,.own 54 [.ref 1 0,.int .i64 tn,.int .i64 hf,.str bt,.acc 2,.acc 3,.bl pd dd]),(1,.ob (N:=U) 0 5 x),(2,.ac (N:=U) 9 rs),(3,.ac (N:=U) 9 wt)] 8 1 [.slot 0 (.int .i64),.tree [] [.own (some 200) 54 [.to 1,.v (.int .i64),.v (.int .i64),.v (.str),.v (.acc 9),.v (.acc 9),.v (.bool)],.ob (some 201) 0]] ((wt.length:Int),((tn,hf,bt,rs,wt,(decide pd),()),x,()),())
noncomputable def fwai:FC U:=⟨[],[],fun a its=>match a,its with | [.ref 0 0],[(0,.own 54 [.ref 1 0,.int .i64 tn,.int .i64 hf,.str bt,.acc 2,.acc 3,.bl pd dd]),(1,.ob 0 5 x),(2,.ac 9 rs),(3,.ac 9 wt)]=>some (fwais tn hf bt rs wt pd dd x) | _,_=>none⟩
theorem fwai_ok (args:List (SV U)) (its:Items U) (r:FR U) (h:fwai.C args its=some r) (ho:allP r.ob):GenOK Try.prog U eT Gl 13 args its (2 * its.length) (fun k=>allP r.hy->k r.v r.its r.n):=by
 unfold fwai at h
 simp only at h
 split at h
 . rename_i tn hf bt pd dd x rs wt
   cases h
   exact fc_ok Ntu_ok (inlHN_ok Ntu_ok Hopen_ok anwai 3) Try.func13 (n:=1) rfl (vs:=[.slot 0 (.int .i64),.tree [] [.own (some 200) 54 [.to 1,.v (.int .i64),.v (.int .i64),.v (.str),.v (.acc 9),.v (.acc 9),.v (.bool)],.ob (some 201) 0]]) (X:=((wt.length:Int),((tn,hf,bt,rs,wt,(decide pd),()),x,()),())) rfl (Vwai_ok (pwai tn hf bt rs wt pd dd x ))
 . cases h
noncomputable def Nwai:Env:=(Ntu.addI 13 Try.f13).addX 13 fwai
theorem Nwai_ok:EnvOK Nwai:=(Ntu_ok.addI Try.call13 Try.func13).addX Try.call13 fwai_ok
def anrec:Nat->Ann:=fun | 16=>⟨10,fun _=>none,fun _=>none⟩ | _=>⟨0,fun _=>none,fun _=>none⟩
def Vrec (tn:Int) (hf:Int) (bt:Str) (rs:List Str) (wt:List Str) (pd:Prop) (dd:Decidable pd) (x:Dk) (Q:List Str->Int->Int->Str->List Str->List Str->Bool->Dk->Prop):Prop :=
rs.length<=1000000/\Q rs tn hf bt rs wt (decide pd) x
theorem Vrec_eq {tn:Int} {hf:Int} {bt:Str} {rs:List Str} {wt:List Str} {pd:Prop} {dd:Decidable pd} {x:Dk} {Q:List Str->Int->Int->Str->List Str->List Str->Bool->Dk->Prop}:@Eq Prop (Vrec tn hf bt rs wt pd dd x Q) (vcFun (E:=Nwai) (inlHN Nwai Hopen anrec 3) (anrec 16) Try.f16 [.ref 0 0] [(0,.own 54 [.ref 1 0,.int .i64 tn,.int .i64 hf,.str bt,.acc 2,.acc 3,.bl pd dd]),(1,.ob (N:=U) 0 5 x),(2,.ac (N:=U) 9 rs),(3,.ac (N:=U) 9 wt)] [] 8 (endG Nwai [(0,.own 54 [.ref 1 0,.int .i64 tn,.int .i64 hf,.str bt,.acc 2,.acc 3,.bl pd dd]),(1,.ob (N:=U) 0 5 x),(2,.ac (N:=U) 9 rs),(3,.ac (N:=U) 9 wt)] 8 1 [[.slot 0 (.acc 9),.tree [] [.own (some 200) 54 [.to 1,.v (.int .i64),.v (.int .i64),.v (.str),.v (.acc 9),.v (.acc 9),.v (.bool)],.ob (some 201) 0]]] ((Q,fun _ _ _ _ _ _ _ _=>(0:Nat)),()))):=by kernel_rfl
theorem Vrec_ok {tn:Int} {hf:Int} {bt:Str} {rs:List Str} {wt:List Str} {pd:Prop} {dd:Decidable pd} {x:Dk} {Q:List Str->Int->Int->Str->List Str->List Str->Bool->Dk->Prop} (h:Vrec tn hf bt rs wt pd dd x Q):vcFun (E:=Nwai) (inlHN Nwai Hopen anrec 3) (anrec 16) Try.f16 [.ref 0 0] [(0,.own 54 [.ref 1 0,.int .i64 tn,.int .i64 hf,.str bt,.acc 2,.acc 3,.bl pd dd]),(1,.ob (N:=U) 0 5 x),(2,.ac (N:=U) 9 rs),(3,.ac (N:=U) 9 wt)] [] 8 (endG Nwai [(0,.own 54 [.ref 1 0,.int .i64 tn,.int .i64 hf,.str bt,.acc 2,.acc 3,.bl pd dd]),(1,.ob (N:=U) 0 5 x),(2,.ac (N:=U) 9 rs),(3,.ac (N:=U) 9 wt)] 8 1 [[.slot 0 (.acc 9),.tree [] [.own (some 200) 54 [.to 1,.v (.int .i64),.v (.int .i64),.v (.str),.v (.acc 9),.v (.acc 9),.v (.bool)],.ob (some 201) 0]]] ((Q,fun _ _ _ _ _ _ _ _=>(0:Nat)),())):=by rw [<- Vrec_eq]; exact h
theorem prec (tn:Int) (hf:Int) (bt:Str) (rs:List Str) (wt:List Str) (pd:Prop) (dd:Decidable pd) (x:Dk) (h0:rs.length<=1000000):Vrec tn hf bt rs wt pd dd x (fun y0 y1 y2 y3 y4 y5 y6 y7=>y0=rs/\y1=tn/\y2=hf/\y3=bt/\y4=rs/\y5=wt/\y6=(decide pd)/\y7=x):=by
 unfold Vrec
 exact ⟨h0,rfl,rfl,rfl,rfl,rfl,rfl,rfl,rfl⟩
noncomputable def frecs (tn:Int) (hf:Int) (bt:Str) (rs:List Str) (wt:List Str) (pd:Prop) (dd:Decidable pd) (x:Dk):FR U:=frOf Nwai [List.length (α:=Str) rs<=1000000] [(0,.own 54 [.ref 1 0,.int .i64 tn,.int .i64 hf,.str bt,.acc 2,.acc 3,.bl pd dd]),(1,.ob (N:=U) 0 5 x),(2,.ac (N:=U) 9 rs),(3,.ac (N:=U) 9 wt)] 8 1 [.slot 0 (.acc 9),.tree [] [.own (some 200) 54 [.to 1,.v (.int .i64),.v (.int .i64),.v (.str),.v (.acc 9),.v (.acc 9),.v (.bool)],.ob (some 201) 0]] (rs,((tn,hf,bt,rs,wt,(decide pd),()),x,()),())
noncomputable def frec:FC U:=⟨[],[],fun a its=>match a,its with | [.ref 0 0],[(0,.own 54 [.ref 1 0,.int .i64 tn,.int .i64 hf,.str bt,.acc 2,.acc 3,.bl pd dd]),(1,.ob 0 5 x),(2,.ac 9 rs),(3,.ac 9 wt)]=>some (frecs tn hf bt rs wt pd dd x) | _,_=>none⟩
theorem frec_ok (args:List (SV U)) (its:Items U) (r:FR U) (h:frec.C args its=some r) (ho:allP r.ob):GenOK Try.prog U eT Gl 16 args its (2 * its.length) (fun k=>allP r.hy->k r.v r.its r.n):=by
 unfold frec at h
 simp only at h
 split at h
 . rename_i tn hf bt pd dd x rs wt
   cases h
   exact fc_ok Nwai_ok (inlHN_ok Nwai_ok Hopen_ok anrec 3) Try.func16 (n:=1) rfl (vs:=[.slot 0 (.acc 9),.tree [] [.own (some 200) 54 [.to 1,.v (.int .i64),.v (.int .i64),.v (.str),.v (.acc 9),.v (.acc 9),.v (.bool)],.ob (some 201) 0]]) (X:=(rs,((tn,hf,bt,rs,wt,(decide pd),()),x,()),())) rfl (Vrec_ok (prec tn hf bt rs wt pd dd x ho.1))
 . cases h
noncomputable def Nrec:Env:=(Nwai.addI 16 Try.f16).addX 16 frec
theorem Nrec_ok:EnvOK Nrec:=(Nwai_ok.addI Try.call16 Try.func16).addX Try.call16 frec_ok
def anno:Nat->Ann:=fun | 12=>⟨15,fun | 4=>some ⟨[0],[.slot 3 (.int .i64)]⟩ | _=>none,fun _=>none⟩ | _=>⟨0,fun _=>none,fun _=>none⟩
def Vno (e:Err) (Q:Int->Prop):Prop :=
(e=Err.nil->Q (0:Int))/\(¬e=Err.nil->∃ (I:Int->Prop),∃ (m:Int->Nat),I (1:Int)/\∀ (x:Int),I x->(x<=16->(e.is x->Q x)/\(¬e.is x->in64 (x+1)/\I (x+1)/\m (x+1)<m x))/\(¬x<=16->Q (-1:Int)))
theorem Vno_ok {e:Err} {Q:Int->Prop} (h:Vno e Q):vcFun (E:=Nrec) (inlHN Nrec Hopen anno 2) (anno 12) Try.f12 [.err e] [] [] 0 (resP Nrec [.int .i64] Q):=Eq.mp (show Vno e Q=vcFun (E:=Nrec) (inlHN Nrec Hopen anno 2) (anno 12) Try.f12 [.err e] [] [] 0 (resP Nrec [.int .i64] Q) by kernel_rfl) h
theorem nr_someb {e:Err} {n:Int} (h:¬ e=.nil) (hn:e.num=some n):e.nr=if 1<=n/\n<=16 then n else -1:=by
 cases e with
 | nil=>exact absurd rfl h
 | _=>unfold Err.nr; simp only [hn]
theorem nr_noneb {e:Err} (h:¬ e=.nil) (hn:e.num=none):e.nr=-1:=by
 cases e with
 | nil=>exact absurd rfl h
 | _=>unfold Err.nr; simp only [hn]
theorem pno (e:Err)  : Vno e (fun y0=>y0=e.nr):=by
 unfold Vno
 refine ⟨fun h=>by subst h; rfl,fun h=>⟨fun x=>1<=x/\x<=17/\∀ j:Int,1<=j->j<x->¬ e.is j,fun x=>(17-x).toNat,⟨by omega,by omega,fun j _ _=>by omega⟩,?_⟩⟩
 rintro x ⟨h0,h1,h2⟩
 refine ⟨fun hx=>⟨fun hi=>?_,fun hi=>⟨⟨by omega,by omega⟩,⟨by omega,by omega,fun j j0 j1=>?_⟩,by dsimp only; omega⟩⟩,fun hx=>?_⟩
 . have hi:e.num=some x:=hi
   rw [nr_someb h hi,if_pos ⟨h0,hx⟩]
 . by_cases e1:j=x
   . subst e1; exact hi
   . exact h2 j j0 (by omega)
 . cases hn:e.num with
   | none=>rw [nr_noneb h hn]
   | some n=>rw [nr_someb h hn,if_neg (fun hh=>h2 n hh.1 (by omega) hn)]
def cno (a:List (SV U)):Option (Q1 U):=match a with | [.err e]=>some ⟨[],[],.int .i64 e.nr⟩ | _=>none
theorem cno_ok (args:List (SV U)) (q:Q1 U) (h:cno args=some q) (ho:allP q.ob):LendOK Nrec 12 args ⟨q.ob,q.hy,q.v,[]⟩:=by
 unfold cno at h
 split at h
 . rename_i e
   cases h
   exact lend1 Nrec_ok (inlHN_ok Nrec_ok Hopen_ok anno 2) Try.func12 (k:=.int .i64) (x:=e.nr) trivial (Vno_ok (pno e )) 0
 . cases h
noncomputable def Nno:Env:=Nrec.addL 12 cno
theorem Nno_ok:EnvOK Nno:=Nrec_ok.addL Try.call12 cno_ok
def ansame:Nat->Ann:=fun | 15=>⟨26,fun | 4=>some ⟨[0,1],[.slot 5 (.int .i64)]⟩ | _=>none,fun _=>none⟩ | _=>⟨0,fun _=>none,fun _=>none⟩
def Vsame (a:List Str) (b:List Str) (Q:Bool->Prop):Prop :=
((↑a.length:Int)≠(↑b.length:Int)->Q false)/\(¬(↑a.length:Int)≠(↑b.length:Int)->∃ (I:Int->Prop),∃ (m:Int->Nat),I (0:Int)/\∀ (x:Int),I x->(x<(↑a.length:Int)->(0:Int)<=x/\x<(↑a.length:Int)/\(0:Int)<=x/\x<(↑b.length:Int)/\(ix a x≠ix b x->Q false)/\(¬ix a x≠ix b x->in64 (x+1)/\I (x+1)/\m (x+1)<m x))/\(¬x<(↑a.length:Int)->Q true))
theorem Vsame_ok {a:List Str} {b:List Str} {Q:Bool->Prop} (h:Vsame a b Q):vcFun (E:=Nno) (inlHN Nno Hopen ansame 2) (ansame 15) Try.f15 [.sl (N:=U) 9 a,.sl (N:=U) 9 b] [] [] 0 (resP Nno [.bool] Q):=Eq.mp (show Vsame a b Q=vcFun (E:=Nno) (inlHN Nno Hopen ansame 2) (ansame 15) Try.f15 [.sl (N:=U) 9 a,.sl (N:=U) 9 b] [] [] 0 (resP Nno [.bool] Q) by kernel_rfl) h
theorem psame (a:List Str) (b:List Str) (ha:a.length<=1000000):Vsame a b (fun y0=>y0=sameL a b):=by
 unfold Vsame sameL
 refine ⟨fun h=>(decide_eq_false (p:=a=b) fun e=>h (by rw [e])).symm,fun h=>?_⟩
 have hl:a.length=b.length:=by omega
 refine ⟨fun i=>0<=i/\∀ j:Int,0<=j->j<i->ix a j=ix b j,fun i=>((a.length:Int)-i).toNat,⟨by omega,fun j h0 h1=>absurd h1 (by omega)⟩,?_⟩
 rintro i ⟨i0,hi⟩
 refine ⟨fun h1=>⟨i0,h1,i0,by omega,fun hn=>(decide_eq_false (p:=a=b) fun e=>hn (by rw [e])).symm,fun he=>⟨⟨by omega,by omega⟩,⟨by omega,fun j j0 j1=>?_⟩,by dsimp only; omega⟩⟩,fun h1=>(decide_eq_true (p:=a=b) (eq_ixS hl fun j j0 j1=>hi j j0 (by omega))).symm⟩
 by_cases e:j=i
 . subst e; exact Classical.not_not.1 he
 . exact hi j j0 (by omega)
def csame (a:List (SV U)):Option (Q1 U):=match a with | [.sl 9 a,.sl 9 b]=>some ⟨[List.length (α:=Str) a<=1000000],[],blB (sameL a b)⟩ | _=>none
theorem csame_ok (args:List (SV U)) (q:Q1 U) (h:csame args=some q) (ho:allP q.ob):LendOK Nno 15 args ⟨q.ob,q.hy,q.v,[]⟩:=by
 unfold csame at h
 split at h
 . rename_i a b
   cases h
   exact lend1 Nno_ok (inlHN_ok Nno_ok Hopen_ok ansame 2) Try.func15 (k:=.bool) (x:=sameL a b) trivial (Vsame_ok (psame a b ho.1)) 0
 . cases h
noncomputable def Nsame:Env:=Nno.addL 15 csame
theorem Nsame_ok:EnvOK Nsame:=Nno_ok.addL Try.call15 csame_ok
end Go.Proofs.Ytckpdliipjekgaa
end
section
namespace Go.Proofs.Ytckpdliipjekgaa
open Go Go.Wk Go.Wl Go.Rx Go.Wa Go.Wa
theorem ofInt_nat (x:Int):((UInt8.ofInt x).toNat:Int)=x % 256:=by
 unfold UInt8.ofInt
 have h:(0:Int)<=x % 256:=Int.emod_nonneg _ (by decide)
 have h2:x % 256<256:=Int.emod_lt_of_pos _ (by decide)
 show (((UInt8.ofNat (x % 2 ^ 8).toNat).toNat:Nat):Int)=_
 rw [UInt8.toNat_ofNat']
 have e:(x % 2 ^ 8:Int)=x % 256:=rfl
 rw [e]
 omega
theorem leN_leB:∀ (k:Nat) (x:Int),0<=x->x<256 ^ k->leN (leB x k)=x
 | 0,x,h0,h1=>by
  have h1:x<1:=h1
  show (0:Int)=x
  omega
 | k+1,x,h0,h1=>by
  have e:x.fdiv 256=x / 256:=Int.fdiv_eq_ediv_of_nonneg _ (by decide)
  have h1:x<256 ^ k * 256:=by rw [<- Int.pow_succ]; exact h1
  unfold leB leN
  rw [leN_leB k (x.fdiv 256) (by omega) (by rw [e]; omega),ofInt_nat,e]
  omega
theorem take_app {a b:Str} {n:Nat} (h:a.length=n):(a++b).take n=a:=by rw [<- h,List.take_left]
theorem drop_app {a b:Str} {n:Nat} (h:a.length=n):(a++b).drop n=b:=by rw [<- h,List.drop_left]
theorem rd_leB {x:Int} (h0:0<=x) (h1:x<4294967296):rd32 (leB x 4)=x:=by
 unfold rd32
 rw [leN_leB 4 x h0 h1,wrapU]
 omega
theorem one_frame {r t:Str} (h:r.length<=30000):oneS (frameS r++t)=(r,t,.nil):=by
 have hs:frameS r++t=longS r++(leB (sumS [longS r,r]) 4++(r++t)):=by
  unfold frameS; simp only [List.append_assoc]
 have h3:=long_len r
 have h4:(leB (sumS [longS r,r]) 4).length=4:=leB_len _ _
 have e3:(frameS r++t).take 3=longS r:=by rw [hs]; exact take_app h3
 have e7:(frameS r++t).take 7=longS r++leB (sumS [longS r,r]) 4:=by
  rw [hs,<- List.append_assoc]; exact take_app (by rw [List.length_append,h3,h4])
 have eL:oneL (frameS r++t)=(r.length:Int):=by
  unfold oneL
  rw [e3]
  unfold longS
  rw [leN_leB 3 _ (by omega) (show (r.length:Int)+1<16777216 by omega)]
  omega
 have hf:(frameS r).length=7+r.length:=frame_len r
 have hn:(7+(r.length:Int)).toNat=7+r.length:=by omega
 have et:(frameS r++t).take (7+(r.length:Int)).toNat=frameS r:=by rw [hn]; exact take_app hf
 have ed:(frameS r).drop 7=r:=by
  have:frameS r=(longS r++leB (sumS [longS r,r]) 4)++r:=rfl
  rw [this]; exact drop_app (by rw [List.length_append,h3,h4])
 have e43:((frameS r++t).take 7).drop 3=leB (sumS [longS r,r]) 4:=by rw [e7]; exact drop_app h3
 obtain ⟨s0,s1⟩:=sumS_rg [longS r,r]
 have hlen:((frameS r++t).length:Int)=7+r.length+t.length:=by rw [List.length_append,hf]; omega
 unfold oneS
 rw [eL,et,ed,e3,e43,rd_leB s0 s1,hlen,if_neg (by omega),if_neg (by omega),if_neg (by omega),if_neg (fun h=>h rfl),hn,drop_app hf]
theorem one_nil:oneS []=([],[],.w 115 [] (.no 4)):=by
 unfold oneS
 rw [if_pos (show ((([]:Str).length:Nat):Int)<7 by decide)]
theorem scan_frames:∀ (l:List Str),ShL l->scanL (framesS l)=l/\scanR (framesS l)=[]
 | [],_=>by
  have e:framesS []=[]:=rfl
  have hn:(oneS []).2.2≠.nil:=by rw [one_nil]; simp
  rw [e,scanL_neg hn,scanR_neg hn]; exact ⟨rfl,rfl⟩
 | r::t,h=>by
  have e:framesS (r::t)=frameS r++framesS t:=by unfold framesS; rw [List.map_cons,List.flatten_cons]
  have h1:=one_frame (t:=framesS t) (h r (List.mem_cons_self ..))
  obtain ⟨g1,g2⟩:=scan_frames t fun s hs=>h s (List.mem_cons_of_mem _ hs)
  have hn:(oneS (frameS r++framesS t)).2.2=.nil:=by rw [h1]
  rw [e,scanL_pos hn,scanR_pos hn,h1]
  exact ⟨by rw [g1],g2⟩
def nowD (x:Dk) (i:Int):Str:=(aget x.fresh i).getD (ix x.lasts i)
structure Pow (x:Dk):Prop where
 ok:x.Ok
 left:x.left=-1
 off:x.off=false
theorem read_pow {x:Dk} (p:Pow x) {i:Int} (h0:0<=i) (h1:i<x.lasts.length):x.read i=(nowD x i,0):=by
 unfold Dk.read
 rw [show x.wrong i=0 from by rw [Dk.wrong,if_neg (by omega)],if_neg (by decide),p.off,if_neg (by decide)]; rfl
theorem write_pow {x:Dk} (p:Pow x) {a:Int} {b:Str} (h0:0<=a) (h1:a<x.lasts.length) (hb:b.length=256):(x.write a b).1=0/\Pow (x.write a b).2/\(x.write a b).2.lasts=x.lasts/\∀ i,nowD (x.write a b).2 i=if a=i then b else nowD x i:=by
 have h:=write_go p.left p.off h0 h1 hb
 have ok:=write_Ok p.ok a b
 rw [h] at ok ⊢
 refine ⟨rfl,⟨ok,p.left,p.off⟩,rfl,fun i=>?_⟩
 show (aget (aput x.fresh a b) i).getD (ix x.lasts i)=_
 rw [aget_put]
 by_cases e:a=i
 . rw [if_pos e.symm,if_pos e]; rfl
 . rw [if_neg fun h=>e h.symm,if_neg e]; rfl
theorem store_pow:∀ (l:List Str) {x:Dk} {a:Int},Pow x->0<=a->a+l.length<=x.lasts.length->(∀ s∈l,s.length=256) ->
  (storeS x a l).1=.nil/\Pow (storeS x a l).2/\(storeS x a l).2.fresh=[]/\(storeS x a l).2.lasts.length=x.lasts.length/\∀ i:Int,0<=i->i<x.lasts.length->ix (storeS x a l).2.lasts i=if a<=i/\i<a+l.length then ix l (i-a) else nowD x i
 | [],x,a,p,h0,h1,_=>by
  obtain ⟨g1,g2,g3,g4,g5,g6⟩:=flush_go p.ok p.left p.off
  unfold storeS
  rw [g1]
  refine ⟨inE_0 (w:=sFl),⟨flush_Ok p.ok,g5,g6⟩,g4,g2,fun i i0 i1=>?_⟩
  rw [if_neg (by rw [List.length_nil]; omega)]
  exact g3 i i0 i1
 | b::r,x,a,p,h0,h1,hl=>by
  rw [List.length_cons] at h1
  obtain ⟨g1,g2,g3,g4⟩:=write_pow p h0 (by omega) (hl b (List.mem_cons_self ..))
  obtain ⟨k1,k2,k3,k4,k5⟩:=store_pow r (x:=(x.write a b).2) (a:=a+1) g2 (by omega) (by rw [g3]; omega) fun s hs=>hl s (List.mem_cons_of_mem _ hs)
  unfold storeS
  rw [if_pos g1]
  rw [g3] at k4 k5
  refine ⟨k1,k2,k3,k4,fun i i0 i1=>?_⟩
  rw [k5 i i0 i1,List.length_cons]
  by_cases e:a=i
  . subst e
    rw [if_neg (by omega),if_pos (by omega),g4,if_pos rfl,Int.sub_self]; rfl
  . rw [g4,if_neg e]
    by_cases e2:a+1<=i/\i<a+1+r.length
    . rw [if_pos e2,if_pos (by omega)]
      have e3:i-a=(i-(a+1))+1:=by omega
      rw [e3]
      have hn:(i-(a+1)).toNat<r.length:=by omega
      rw [ix_get (l:=r) (by omega),ix_get (l:=b::r) (by rw [List.length_cons]; omega)]
      have e4:(i-(a+1)+1).toNat=(i-(a+1)).toNat+1:=by omega
      simp only [e4,List.getElem_cons_succ]
    . rw [if_neg e2,if_neg (by omega)]
theorem pad_256 {s:Str} (h:s.length=256):padS s=s:=by
 unfold padS
 rw [List.take_of_length_le (by omega),h,Nat.sub_self,List.replicate_zero,List.append_nil]
theorem secs_256 (s:Str):∀ t∈secs s,t.length=256:=by
 by_cases h:s.length=0
 . rw [secs_nil h]; intro t ht; cases ht
 . rw [secs_cons h]
   intro t ht
   rcases List.mem_cons.1 ht with e | ht
   . subst e; exact pad_len s
   . exact secs_256 (s.drop 256) t ht
termination_by s.length
decreasing_by rw [List.length_drop]; omega
theorem secs_len (s:Str):(secs s).length=(s.length+255) / 256:=by
 by_cases h:s.length=0
 . rw [secs_nil h,h]; rfl
 . rw [secs_cons h,List.length_cons,secs_len (s.drop 256),List.length_drop]
   omega
termination_by s.length
decreasing_by rw [List.length_drop]; omega
theorem secs_ix (s:Str) (j:Nat) (hj:j<(secs s).length):(secs s)[j]=padS (s.drop (256 * j)):=by
 by_cases h:s.length=0
 . rw [secs_len,h] at hj; omega
 . cases j with
   | zero=>simp only [secs_cons h,List.getElem_cons_zero,Nat.mul_zero,List.drop_zero]
   | succ j =>
    have hj2:j<(secs (s.drop 256)).length:=by rw [secs_cons h,List.length_cons] at hj; omega
    simp only [secs_cons h,List.getElem_cons_succ]
    rw [secs_ix (s.drop 256) j hj2,List.drop_drop,show 256+256 * j=256 * (j+1) by omega]
termination_by s.length
decreasing_by rw [List.length_drop]; omega
theorem secs_head (t h n:Int):secs (headS t h n)=[headS t h n]:=by
 have hl:=head_len t h n
 rw [secs_cons (by omega),pad_256 hl,secs_nil (by rw [List.length_drop]; omega)]
structure Put (x y:Dk) (F:Int->Option Str):Prop where
 pow:Pow y
 fresh:y.fresh=[]
 len:y.lasts.length=x.lasts.length
 at_:∀ i:Int,0<=i->i<x.lasts.length->ix y.lasts i=(F i).getD (nowD x i)
theorem head_run {g:Lg} {hh th:Int} {by_:Str} {rc:List Str} (p:Pow g.d) (hl:2<=g.d.lasts.length) (t0:0<=g.turn) :
  ∃ y,headW g hh th by_ rc=(.nil,⟨g.turn+1,hh,by_,rc,[],g.dead,y⟩)/\Put g.d y (fun i=>if i=(g.turn+1).tmod 2 then some (headS (g.turn+1) hh (by_.length:Int)) else none):=by
 have tm:0<=(g.turn+1).tmod 2/\(g.turn+1).tmod 2<=1:=by rw [Int.tmod_eq_emod_of_nonneg (by omega)]; omega
 have hs:=secs_head (g.turn+1) hh (by_.length:Int)
 obtain ⟨k1,k2,k3,k4,k5⟩:=store_pow (secs (headS (g.turn+1) hh (by_.length:Int))) (a:=(g.turn+1).tmod 2) p tm.1 (by rw [hs,List.length_singleton]; omega) (secs_256 _)
 refine ⟨_,?_,k2,k3,k4,fun i i0 i1=>?_⟩
 . unfold headW
   rw [if_neg (by rw [k1]; simp)]
 . rw [k5 i i0 i1]
   simp only [hs,List.length_singleton]
   by_cases e:i=(g.turn+1).tmod 2
   . rw [if_pos (by omega),if_pos e,e,Int.sub_self]; rfl
   . rw [if_neg (by omega),if_neg e]; rfl
def wroteF (x:Dk) (tn hh th:Int) (by_:Str) (i:Int):Option Str :=
 if i=(tn+1).tmod 2 then some (headS (tn+1) hh (by_.length:Int)) else
 if th≠(by_.length:Int)/\2+hh * halfS x+th / 256<=i/\i<2+hh * halfS x+((by_.length:Int)+255) / 256 then some (padS (by_.drop (256 * (i-2-hh * halfS x)).toNat)) else none
theorem write_run {g:Lg} {hh th:Int} {by_:Str} {rc:List Str} (p:Pow g.d) (hl:6<=g.d.lasts.length) (t0:0<=g.turn) (h0:0<=hh) (h1:hh<=1) (h2:0<=th) (h3:th<=(by_.length:Int)) (h4:(by_.length:Int)<=sizeG g) :
  ∃ y,writeS g hh th by_ rc=(.nil,⟨g.turn+1,hh,by_,rc,[],g.dead,y⟩)/\Put g.d y (wroteF g.d g.turn hh th by_):=by
 obtain ⟨f0,f1,f2⟩:=half_at p.ok
 have f2:=f2 (by omega)
 have tm:0<=(g.turn+1).tmod 2/\(g.turn+1).tmod 2<=1:=by rw [Int.tmod_eq_emod_of_nonneg (by omega)]; omega
 have e0:th.tdiv 256=th / 256:=Int.tdiv_eq_ediv_of_nonneg h2
 have h4:(by_.length:Int)<=halfS g.d * 256:=h4
 have hm:hh * halfS g.d=0 ∨ hh * halfS g.d=halfS g.d:=by
  have hh':hh=0 ∨ hh=1:=by omega
  rcases hh' with e | e
  . left; rw [e,Int.zero_mul]
  . right; rw [e,Int.one_mul]
 by_cases ht:th=(by_.length:Int)
 . obtain ⟨g1,g2,g3,g4,g5,g6⟩:=flush_go p.ok p.left p.off
   have hne:¬ inE sFl (erN g.d.flush.1)≠.nil:=by rw [g1,inE_0 (w:=sFl)]; simp
   obtain ⟨y,e1,q⟩:=head_run (g:={ g with d:=g.d.flush.2 }) (hh:=hh) (th:=th) (by_:=by_) (rc:=rc) ⟨flush_Ok p.ok,g5,g6⟩ (by show 2<=g.d.flush.2.lasts.length; omega) t0
   refine ⟨y,?_,q.pow,q.fresh,q.len.trans g2,fun i i0 i1=>?_⟩
   . unfold writeS; rw [if_pos ht,if_neg hne]; exact e1
   . have hi:=q.at_ i i0 (by show i<(g.d.flush.2.lasts.length:Int); omega)
     rw [hi]
     unfold wroteF
     by_cases e:i=(g.turn+1).tmod 2
     . rw [if_pos e,if_pos e]; rfl
     . rw [if_neg e,if_neg e,if_neg (fun h=>h.1 ht)]
       show nowD g.d.flush.2 i=nowD g.d i
       unfold nowD
       rw [g4,g3 i i0 i1]; rfl
 . have hs:=secs_len (by_.drop (th.tdiv 256 * 256).toNat)
   rw [List.length_drop] at hs
   have hr:0<=hh * halfS g.d/\hh * halfS g.d<=halfS g.d:=by omega
   obtain ⟨k1,k2,k3,k4,k5⟩:=store_pow (secs (by_.drop (th.tdiv 256 * 256).toNat)) (x:=g.d) (a:=2+hh * halfS g.d+th.tdiv 256) p (by omega) (by rw [hs]; omega) (secs_256 _)
   have hne:¬ (storeS g.d (2+hh * halfS g.d+th.tdiv 256) (secs (by_.drop (th.tdiv 256 * 256).toNat))).1≠.nil:=by rw [k1]; simp
   obtain ⟨y,e1,q⟩:=head_run (g:={ g with d:=(storeS g.d (2+hh * halfS g.d+th.tdiv 256) (secs (by_.drop (th.tdiv 256 * 256).toNat))).2 }) (hh:=hh) (th:=th) (by_:=by_) (rc:=rc) k2 (by show 2<=(storeS g.d (2+hh * halfS g.d+th.tdiv 256) (secs (by_.drop (th.tdiv 256 * 256).toNat))).2.lasts.length; omega) t0
   refine ⟨y,?_,q.pow,q.fresh,q.len.trans k4,fun i i0 i1=>?_⟩
   . unfold writeS; rw [if_neg ht,if_neg hne]; exact e1
   . have hi:=q.at_ i i0 (by show i<((storeS g.d (2+hh * halfS g.d+th.tdiv 256) (secs (by_.drop (th.tdiv 256 * 256).toNat))).2.lasts.length:Int); omega)
     rw [hi]
     unfold wroteF
     by_cases e:i=(g.turn+1).tmod 2
     . rw [if_pos e,if_pos e]; rfl
     . rw [if_neg e,if_neg e]
       show nowD (storeS g.d (2+hh * halfS g.d+th.tdiv 256) (secs (by_.drop (th.tdiv 256 * 256).toNat))).2 i=_
       unfold nowD
       rw [k3]
       show ix (storeS g.d (2+hh * halfS g.d+th.tdiv 256) (secs (by_.drop (th.tdiv 256 * 256).toNat))).2.lasts i=_
       rw [k5 i i0 i1]
       by_cases e2:2+hh * halfS g.d+th / 256<=i/\i<2+hh * halfS g.d+((by_.length:Int)+255) / 256
       . rw [if_pos (by rw [hs]; omega),if_pos ⟨ht,e2⟩]
         have hj:(i-(2+hh * halfS g.d+th.tdiv 256)).toNat<(secs (by_.drop (th.tdiv 256 * 256).toNat)).length:=by rw [hs]; omega
         rw [ix_get hj,secs_ix _ _ hj,List.drop_drop]
         show padS _=padS _
         congr 2
         omega
       . rw [if_neg (by rw [hs]; omega),if_neg (fun h=>e2 h.2)]; rfl
theorem frames_len:∀ (l:List Str),7 * l.length<=(framesS l).length
 | []=>Nat.le_refl 0
 | r::t=>by
  have e:framesS (r::t)=frameS r++framesS t:=by unfold framesS; rw [List.map_cons,List.flatten_cons]
  have:=frames_len t
  rw [e,List.length_append,frame_len,List.length_cons]; omega
theorem pack_ok {l:List Str} (h:ShL l):packE l=(framesS l,.nil):=by rw [pack_eq,if_pos h]
theorem pack_no {l:List Str} (h:¬ ShL l):packE l=([],.no 4):=by rw [pack_eq,if_neg h]
theorem ShL.app {a b:List Str} (ha:ShL a) (hb:ShL b):ShL (a++b):=fun s hs=>by
 rcases List.mem_append.1 hs with h | h
 . exact ha s h
 . exact hb s h
theorem ShL.nil:ShL []:=fun _ h=>absurd h List.not_mem_nil
structure Run (g:Lg):Prop where
 pow:Pow g.d
 len:6<=g.d.lasts.length
 h0:0<=g.half
 h1:g.half<=1
 t0:1<=g.turn
 dead:g.dead=false
 sw:ShL g.wait
 sr:ShL g.recs
 by_:g.bytes=framesS g.recs
 room:(g.bytes.length:Int)+((framesS g.wait).length:Int)<=sizeG g
theorem Run.size {g:Lg} (r:Run g):0<=sizeG g/\sizeG g<=1048320:=by
 obtain ⟨g0,g1,_⟩:=half_at r.pow.ok
 unfold sizeG; omega
theorem Run.small {l:List Str} (h:ShL l) (hl:(framesS l).length<=1048320):SmL l:=by
 have:=frames_len l
 exact ⟨by omega,fun s hs=>by have:=h s hs; omega⟩
theorem Run.lgB {g:Lg} (r:Run g) (t1:g.turn<=2199023255552):LgB g:=by
 obtain ⟨s0,s1⟩:=r.size
 have hr:=r.room
 have t0:=r.t0
 have hb:=r.by_
 have f1:=frames_len g.recs
 have f2:=frames_len g.wait
 rw [<- hb] at f1
 exact ⟨r.pow.ok,r.h0,r.h1,by omega,by omega,t1,by omega,Run.small r.sw (by omega),by rw [pack_ok r.sw]; show (framesS g.wait).length<=_; omega⟩
theorem Run.roomS {g:Lg} (r:Run g):Go.Proofs.Ytckpdliipjekgaa.roomS g=sizeG g-(g.bytes.length:Int)-((framesS g.wait).length:Int):=by
 unfold Go.Proofs.Ytckpdliipjekgaa.roomS
 rw [size_frames r.sw]
theorem size_same {g g':Lg} (h:g'.d.lasts.length=g.d.lasts.length):sizeG g'=sizeG g:=by
 unfold sizeG halfS; rw [h]
theorem sync_none {g:Lg} (r:Run g) (h:g.wait=[]):syncS g=(.nil,g):=by
 unfold syncS
 rw [if_neg (by rw [r.dead]; decide),if_pos (by rw [h]; rfl)]
theorem sync_run {g:Lg} (r:Run g) (h:g.wait≠[]) :
  ∃ y,syncS g=(.nil,⟨g.turn+1,g.half,g.bytes++framesS g.wait,g.recs++g.wait,[],false,y⟩)/\Put g.d y (wroteF g.d g.turn g.half (g.bytes.length:Int) (g.bytes++framesS g.wait))/\Run ⟨g.turn+1,g.half,g.bytes++framesS g.wait,g.recs++g.wait,[],false,y⟩:=by
 have t0:=r.t0
 have hr:=r.room
 obtain ⟨y,e,q⟩:=write_run (g:=g) (hh:=g.half) (th:=(g.bytes.length:Int)) (by_:=g.bytes++framesS g.wait) (rc:=g.recs++g.wait) r.pow r.len (by omega) r.h0 r.h1 (by omega) (by rw [List.length_append]; omega) (by rw [List.length_append]; omega)
 refine ⟨y,?_,q,⟨q.pow,by rw [q.len]; exact r.len,r.h0,r.h1,by show 1<=g.turn+1; omega,rfl,ShL.nil,r.sr.app r.sw,by show g.bytes++framesS g.wait=_; rw [frames_app,<- r.by_],?_⟩⟩
 . unfold syncS
   rw [if_neg (by rw [r.dead]; decide),if_neg (fun e=>h (List.eq_nil_of_length_eq_zero e)),pack_ok r.sw,if_neg (by simp)]
   show writeS g g.half (g.bytes.length:Int) (g.bytes++framesS g.wait) (g.recs++g.wait)=_
   rw [e,r.dead]
 . rw [size_same (g:=g) q.len]
   show ((g.bytes++framesS g.wait).length:Int)+((framesS []).length:Int)<=_
   rw [List.length_append]
   show ((g.bytes.length+(framesS g.wait).length:Nat):Int)+((0:Nat):Int)<=_
   omega
theorem comp_no {g:Lg} (r:Run g) {l:List Str} (h:¬ (ShL l/\((framesS l).length:Int)<=sizeG g)):(compS g l).1≠.nil/\(compS g l).2=g:=by
 unfold compS
 rw [if_neg (by rw [r.dead]; decide)]
 by_cases hs:ShL l
 . rw [pack_ok hs,if_neg (by simp),if_pos (show sizeG g<((framesS l).length:Int) from Int.not_le.1 fun e=>h ⟨hs,e⟩)]
   exact ⟨by simp,rfl⟩
 . rw [pack_no hs,if_pos (by simp)]
   exact ⟨by simp,rfl⟩
theorem comp_run {g:Lg} (r:Run g) {l:List Str} (hs:ShL l) (hl:((framesS l).length:Int)<=sizeG g) :
  ∃ y,compS g l=(.nil,⟨g.turn+1,1-g.half,framesS l,l,[],false,y⟩)/\Put g.d y (wroteF g.d g.turn (1-g.half) 0 (framesS l))/\Run ⟨g.turn+1,1-g.half,framesS l,l,[],false,y⟩:=by
 have t0:=r.t0
 have h0:=r.h0
 have h1:=r.h1
 obtain ⟨y,e,q⟩:=write_run (g:=g) (hh:=1-g.half) (th:=0) (by_:=framesS l) (rc:=l) r.pow r.len (by omega) (by omega) (by omega) (by omega) (by omega) hl
 refine ⟨y,?_,q,⟨q.pow,by rw [q.len]; exact r.len,by show 0<=1-g.half; omega,by show 1-g.half<=1; omega,by show 1<=g.turn+1; omega,rfl,ShL.nil,hs,rfl,?_⟩⟩
 . unfold compS
   rw [if_neg (by rw [r.dead]; decide),pack_ok hs,if_neg (by simp),if_neg (show ¬ sizeG g<((framesS l).length:Int) by omega)]
   show writeS g (1-g.half) 0 (framesS l) l=_
   rw [e,r.dead]
 . rw [size_same (g:=g) q.len]
   show ((framesS l).length:Int)+((0:Nat):Int)<=_
   omega
theorem app_no {g:Lg} (r:Run g) {l:List Str} (h:¬ ShL l):appS g l=(.no 4,g):=by
 unfold appS
 rw [if_neg (by rw [r.dead]; decide),pack_no h,if_pos (by simp)]
theorem app_full {g:Lg} (r:Run g) {l:List Str} (hs:ShL l) (h:Go.Proofs.Ytckpdliipjekgaa.roomS g<((framesS l).length:Int)):appS g l=(.no 6,g):=by
 unfold appS
 rw [if_neg (by rw [r.dead]; decide),pack_ok hs,if_neg (by simp),if_pos h]
theorem app_run {g:Lg} (r:Run g) {l:List Str} (hs:ShL l) (h:((framesS l).length:Int)<=Go.Proofs.Ytckpdliipjekgaa.roomS g):appS g l=(.nil,{ g with wait:=g.wait++l })/\Run { g with wait:=g.wait++l }:=by
 have hr:=r.roomS
 refine ⟨?_,⟨r.pow,r.len,r.h0,r.h1,r.t0,r.dead,r.sw.app hs,r.sr,r.by_,?_⟩⟩
 . unfold appS
   rw [if_neg (by rw [r.dead]; decide),pack_ok hs,if_neg (by simp),if_neg (show ¬ Go.Proofs.Ytckpdliipjekgaa.roomS g<((framesS l).length:Int) by omega)]
 . show (g.bytes.length:Int)+((framesS (g.wait++l)).length:Int)<=sizeG g
   rw [frames_app,List.length_append]
   omega
theorem getS_leB {k:Nat} {x:Int} (h0:0<=x) (h1:x<256 ^ k) (h2:x<9223372036854775808):getS (leB x k)=x:=by
 unfold getS
 rw [leN_leB k x h0 h1,wrap_at]; omega
theorem head_f1 (t h n:Int):(headS t h n).take 8=leB t 8:=by
 have e:headS t h n=leB t 8++(leB h 1++(leB n 4++(List.replicate 235 0++leB t 8))):=by unfold headS; simp only [List.append_assoc]
 rw [e]; exact take_app (leB_len _ _)
theorem head_f2 (t h n:Int):((headS t h n).take 9).drop 8=leB h 1:=by
 have e:headS t h n=(leB t 8++leB h 1)++(leB n 4++(List.replicate 235 0++leB t 8)):=by unfold headS; simp only [List.append_assoc]
 rw [e,take_app (show (leB t 8++leB h 1).length=9 by rw [List.length_append,leB_len,leB_len]),drop_app (leB_len _ _)]
theorem head_f3 (t h n:Int):((headS t h n).take 13).drop 9=leB n 4:=by
 have e:headS t h n=((leB t 8++leB h 1)++leB n 4)++(List.replicate 235 0++leB t 8):=by unfold headS; simp only [List.append_assoc]
 rw [e,take_app (show ((leB t 8++leB h 1)++leB n 4).length=13 by rw [List.length_append,List.length_append,leB_len,leB_len,leB_len]),drop_app (show (leB t 8++leB h 1).length=9 by rw [List.length_append,leB_len,leB_len])]
theorem hdT_head {t h n a:Int} (t1:1<=t) (t2:t<=1099511627776) (ht:t.tmod 2=a) (h0:0<=h) (h1:h<=1) (n0:0<=n) (n1:n<4294967296):hdT (headS t h n) a=(t,h,n):=by
 have e1:getS ((headS t h n).take 8)=t:=by rw [head_f1]; exact getS_leB (by omega) (show t<18446744073709551616 by omega) (by omega)
 have e2:getS (((headS t h n).take 9).drop 8)=h:=by rw [head_f2]; exact getS_leB h0 (show h<256 by omega) (by omega)
 have e3:getS (((headS t h n).take 13).drop 9)=n:=by rw [head_f3]; exact getS_leB n0 (show n<4294967296 by omega) (by omega)
 unfold hdT
 rw [e1, e2, e3, if_neg (by rintro (h | h | h | h | h)
                            . omega
                            . omega
                            . exact h ht
                            . omega
                            . exact h rfl)]
theorem hdT_lt {t h n a:Int} (t1:1<=t) (t2:t<=1099511627776):(hdT (headS t h n) a).1<=t:=by
 have e1:getS ((headS t h n).take 8)=t:=by rw [head_f1]; exact getS_leB (by omega) (show t<18446744073709551616 by omega) (by omega)
 unfold hdT
 split
 . show (0:Int)<=t; omega
 . rw [e1]; exact Int.le_refl _
structure Laid (g:Lg):Prop where
 fresh:g.d.fresh=[]
 hd:ix g.d.lasts (g.turn.tmod 2)=headS g.turn g.half (g.bytes.length:Int)
 other:(hdT (ix g.d.lasts ((g.turn+1).tmod 2)) ((g.turn+1).tmod 2)).1<g.turn
 data:∀ j:Nat,256 * j<g.bytes.length->(ix g.d.lasts (2+g.half * halfS g.d+j)).take (g.bytes.length-256 * j)=(g.bytes.drop (256 * j)).take 256
theorem mod_flip {t:Int} (h:0<=t):(t+1).tmod 2=1-t.tmod 2/\0<=t.tmod 2/\t.tmod 2<=1/\(t+1+1).tmod 2=t.tmod 2:=by
 rw [Int.tmod_eq_emod_of_nonneg h,Int.tmod_eq_emod_of_nonneg (by omega),Int.tmod_eq_emod_of_nonneg (by omega)]
 omega
theorem pad_take {s:Str} {n:Nat} (h:n<=s.length):(padS s).take n=(s.take 256).take n:=by
 unfold padS
 by_cases h2:n<=256
 . rw [List.take_append_of_le_length (by rw [List.length_take]; omega)]
 . have e:256-s.length=0:=by omega
   rw [e,List.replicate_zero,List.append_nil]
theorem laid_write {g:Lg} {y:Dk} {hh th:Int} {by_:Str} {rc:List Str} (r:Run g) (l:Laid g) (t2:g.turn<=1099511627776) (h0:0<=hh) (h1:hh<=1) (h2:0<=th) (h3:th<=(by_.length:Int)) (h4:(by_.length:Int)<=sizeG g)
  (hk:∀ j:Nat,256 * j<by_.length->(j:Int)<th / 256 ∨ th=(by_.length:Int)->(ix g.d.lasts (2+hh * halfS g.d+j)).take (by_.length-256 * j)=(by_.drop (256 * j)).take 256)
  (q:Put g.d y (wroteF g.d g.turn hh th by_)):Laid ⟨g.turn+1,hh,by_,rc,[],false,y⟩:=by
 have t0:=r.t0
 have hl:=r.len
 obtain ⟨m1,m2,m3,m4⟩:=mod_flip (t:=g.turn) (by omega)
 obtain ⟨f0,f1,f2⟩:=half_at r.pow.ok
 have f2:=f2 (by omega)
 have h4:(by_.length:Int)<=halfS g.d * 256:=h4
 have hm:hh * halfS g.d=0 ∨ hh * halfS g.d=halfS g.d:=by
  have hh':hh=0 ∨ hh=1:=by omega
  rcases hh' with e | e
  . left; rw [e,Int.zero_mul]
  . right; rw [e,Int.one_mul]
 have nw:∀ i,nowD g.d i=ix g.d.lasts i:=fun i=>by unfold nowD; rw [l.fresh]; rfl
 have hY:halfS y=halfS g.d:=by unfold halfS; rw [q.len]
 refine ⟨q.fresh,?_,?_,fun j hj=>?_⟩
 . show ix y.lasts ((g.turn+1).tmod 2)=headS (g.turn+1) hh (by_.length:Int)
   rw [q.at_ _ (by omega) (by omega)]
   unfold wroteF
   rw [if_pos rfl]; rfl
 . show (hdT (ix y.lasts ((g.turn+1+1).tmod 2)) ((g.turn+1+1).tmod 2)).1<g.turn+1
   rw [m4,q.at_ _ m2 (by omega)]
   unfold wroteF
   rw [if_neg (by omega), if_neg (by rintro ⟨_, h, _⟩; have : 0 <= th / 256 := by omega
                                     omega)]
   show (hdT (nowD g.d (g.turn.tmod 2)) (g.turn.tmod 2)).1<g.turn+1
   rw [nw,l.hd]
   have:=hdT_lt (t:=g.turn) (h:=g.half) (n:=(g.bytes.length:Int)) (a:=g.turn.tmod 2) t0 t2
   omega
 . show (ix y.lasts (2+hh * halfS y+j)).take (by_.length-256 * j)=(by_.drop (256 * j)).take 256
   have hj:256 * j<by_.length:=hj
   rw [hY,q.at_ _ (by omega) (by omega)]
   unfold wroteF
   rw [if_neg (by omega)]
   by_cases hc:(j:Int)<th / 256 ∨ th=(by_.length:Int)
   . rw [if_neg (by rintro ⟨a, b, _⟩; rcases hc with h | h
                    . omega
                    . exact a h)]
     show (nowD g.d _).take _=_
     rw [nw]; exact hk j hj hc
   . rw [if_pos ⟨fun e=>hc (.inr e),by have:=fun h=>hc (.inl h); omega,by omega⟩]
     show (padS _).take _=_
     have ej:(256 * (2+hh * halfS g.d+(j:Int)-2-hh * halfS g.d)).toNat=256 * j:=by omega
     rw [ej,pad_take (by rw [List.length_drop]; exact Nat.le_refl _),List.take_of_length_le (l:=List.take 256 _) (by rw [List.length_take,List.length_drop]; omega)]
theorem readN_laid {d:Dk} {F n:Int} {by_:Str} (p:Pow d) (n0:n=(by_.length:Int)) (f0:0<=F) (hin:∀ j:Nat,j<manyS n->F+j<d.lasts.length)
  (hd:∀ j:Nat,256 * j<by_.length->(nowD d (F+j)).take (by_.length-256 * j)=(by_.drop (256 * j)).take 256) :
  ∀ (k j:Nat) (b:Str),j+k=manyS n->b.length=256 * j->b.take by_.length=by_.take (256 * j)->∃ B,readN d k (F+j) b=(B,.nil)/\B.take by_.length=by_
 | 0,j,b,hk,hb,ht=>⟨b,rfl,by
   rw [ht,List.take_of_length_le]
   unfold manyS at hk; omega⟩
 | k+1,j,b,hk,hb,ht=>by
  have hj:256 * j<by_.length:=by unfold manyS at hk; omega
  have hr:=read_pow p (i:=F+j) (by omega) (hin j (by omega))
  have hz:(d.read (F+j)).2=0:=by rw [hr]
  have hl:=read_256 p.ok hz
  rw [hr] at hl
  have hl:(nowD d (F+j)).length=256:=hl
  obtain ⟨B,h1,h2⟩:=readN_laid p n0 f0 hin hd k (j+1) (b++nowD d (F+j)) (by omega) (by rw [List.length_append,hb,hl]; omega) (by
   rw [List.take_append,ht,hb,hd j hj,show 256 * (j+1)=256 * j+256 by omega,List.take_add])
  refine ⟨B,?_,h2⟩
  unfold readN
  rw [if_pos hz,hr]
  have e:F+(j:Int)+1=F+((j+1:Nat):Int):=by omega
  rw [e]; exact h1
theorem hdA_pow {d:Dk} (p:Pow d) {a:Int} (h0:0<=a) (h1:a<d.lasts.length):hdA d a=((hdT (nowD d a) a).1,(hdT (nowD d a) a).2.1,(hdT (nowD d a) a).2.2,.nil):=by
 unfold hdA
 rw [read_pow p h0 h1,if_pos rfl]
theorem open_laid {g:Lg} {d:Dk} (r:Run g) (l:Laid g) (t2:g.turn<=1099511627776) (p:Pow d) (hl:d.lasts.length=g.d.lasts.length) (hn:∀ i:Int,0<=i->i<g.d.lasts.length->nowD d i=ix g.d.lasts i) :
  opnS d=(.nil,g.turn,g.half,g.bytes,g.recs):=by
 have t0:=r.t0
 have h6:=r.len
 have h0:=r.h0
 have h1:=r.h1
 have hr:=r.room
 obtain ⟨m1,m2,m3,_⟩:=mod_flip (t:=g.turn) (by omega)
 obtain ⟨f0,f1,f2⟩:=half_at r.pow.ok
 have f2:=f2 (by omega)
 have hH:halfS d=halfS g.d:=by unfold halfS; rw [hl]
 have hs:sizeG g=halfS g.d * 256:=rfl
 have hb:(g.bytes.length:Int)<=halfS g.d * 256:=by omega
 have hm:g.half * halfS g.d=0 ∨ g.half * halfS g.d=halfS g.d:=by
  have hh':g.half=0 ∨ g.half=1:=by omega
  rcases hh' with e | e
  . left; rw [e,Int.zero_mul]
  . right; rw [e,Int.one_mul]
 have a0:=hdA_pow p (a:=0) (by omega) (by omega)
 have a1:=hdA_pow p (a:=1) (by omega) (by omega)
 rw [hn 0 (by omega) (by omega)] at a0
 rw [hn 1 (by omega) (by omega)] at a1
 have hg:=hdT_head (t:=g.turn) (h:=g.half) (n:=(g.bytes.length:Int)) (a:=g.turn.tmod 2) t0 t2 rfl h0 h1 (by omega) (by omega)
 have ho:=l.other
 rw [<- l.hd] at hg
 have eH:opH d=(.nil,g.turn,g.half,(g.bytes.length:Int)):=by
  have e2:opH d=(.nil,opH1 (opH1 (0,0,0) (hdT (ix g.d.lasts 0) 0)) (hdT (ix g.d.lasts 1) 1)):=by
   show opHf d 2 0 (0,0,0)=_
   unfold opHf
   rw [a0,if_neg (by simp)]
   unfold opHf
   rw [show (0:Int)+1=1 from rfl,a1,if_neg (by simp)]
   rfl
  rw [e2]
  have hc:g.turn.tmod 2=0 ∨ g.turn.tmod 2=1:=by omega
  rcases hc with e | e
  . rw [m1,e] at ho
    rw [e] at hg
    have ho:(hdT (ix g.d.lasts 1) 1).1<g.turn:=ho
    rw [hg]
    have q1:opH1 (0,0,0) (g.turn,g.half,(g.bytes.length:Int))=(g.turn,g.half,(g.bytes.length:Int)):=by unfold opH1; rw [if_pos (show (0:Int)<g.turn by omega)]
    rw [q1]
    unfold opH1
    rw [if_neg (show ¬ g.turn<(hdT (ix g.d.lasts 1) 1).1 by omega)]
  . rw [m1,e] at ho
    rw [e] at hg
    have ho:(hdT (ix g.d.lasts 0) 0).1<g.turn:=ho
    rw [hg]
    have q1:(opH1 (0,0,0) (hdT (ix g.d.lasts 0) 0)).1<g.turn:=by
     unfold opH1
     split
     . exact ho
     . show (0:Int)<g.turn; omega
    generalize opH1 (0,0,0) (hdT (ix g.d.lasts 0) 0)=P at q1
    unfold opH1
    rw [if_pos q1]
 obtain ⟨B,k1,k2⟩:=readN_laid (d:=d) (F:=2+g.half * halfS g.d) (n:=(g.bytes.length:Int)) (by_:=g.bytes) p rfl (by omega) (fun j hj=>by unfold manyS at hj; omega) (fun j hj=>by
  rw [hn _ (by omega) (by omega)]; exact l.data j hj) (manyS (g.bytes.length:Int)) 0 [] (by omega) rfl (by rw [List.take_nil,Nat.mul_zero,List.take_zero])
 have k1:readN d (manyS (g.bytes.length:Int)) (2+g.half * halfS g.d) []=(B,.nil):=by
  have e:2+g.half * halfS g.d+((0:Nat):Int)=2+g.half * halfS g.d:=by omega
  rw [e] at k1; exact k1
 obtain ⟨s1,s2⟩:=scan_frames g.recs r.sr
 rw [<- r.by_] at s1 s2
 have et:B.take ((g.bytes.length:Int)).toNat=g.bytes:=k2
 unfold opnS
 rw [fitE_0 (by omega),if_neg (by simp)]
 unfold opn2
 rw [eH,if_neg (by simp)]
 unfold opn3
 dsimp only
 rw [hH,k1]
 dsimp only
 rw [et,s1,s2,if_neg (by omega),if_neg (by omega),if_neg (by simp),if_neg (by rw [List.length_nil]; omega)]
theorem zero_head:(hdT (List.replicate 256 0) 0).1=0:=by
 unfold hdT
 have e:getS ((List.replicate 256 (0:UInt8)).take 8)=0:=by
  rw [List.take_replicate]; rfl
 rw [e,if_pos (.inl (by decide))]
theorem pad_zero:padS (List.replicate 512 0)=List.replicate 256 0:=by
 unfold padS
 rw [List.take_replicate,List.length_replicate,show min 256 512=256 from rfl,show 256-512=0 from rfl,List.replicate_zero,List.append_nil]
theorem fmt_new5 {x:Dk} (p:Pow x) (h6:6<=x.lasts.length):∃ y,fmtS x=(.nil,y)/\y.lasts.length=x.lasts.length/\Run ⟨1,0,[],[],[],false,y⟩/\Laid ⟨1,0,[],[],[],false,y⟩/\ix y.lasts 0=List.replicate 256 0:=by
 have hz:(secs (List.replicate 512 (0:UInt8))).length=2:=by rw [secs_len,List.length_replicate]
 obtain ⟨k1,k2,k3,k4,k5⟩:=store_pow (secs (List.replicate 512 0)) (x:=x) (a:=0) p (by omega) (by rw [hz]; omega) (secs_256 _)
 have hs:=secs_head 1 0 0
 obtain ⟨j1,j2,j3,j4,j5⟩:=store_pow (secs (headS 1 0 0)) (x:=(storeS x 0 (secs (List.replicate 512 0))).2) (a:=1) k2 (by omega) (by rw [hs,List.length_singleton]; omega) (secs_256 _)
 have e1:=j5 1 (by omega) (by omega)
 rw [if_pos (by rw [hs,List.length_singleton]; omega)] at e1
 have e0:=j5 0 (by omega) (by omega)
 rw [if_neg (by omega)] at e0
 have e0':nowD (storeS x 0 (secs (List.replicate 512 0))).2 0=List.replicate 256 0:=by
  unfold nowD
  rw [k3]
  show ix (storeS x 0 (secs (List.replicate 512 0))).2.lasts 0=_
  rw [k5 0 (by omega) (by omega),if_pos (by rw [hz]; omega),ix_get (by rw [hz]; decide)]
  have:=secs_ix (List.replicate 512 0) 0 (by rw [hz]; decide)
  rw [Nat.mul_zero,List.drop_zero,pad_zero] at this
  exact this
 refine ⟨_,?_,j4.trans k4,⟨j2,by show 6<=(storeS _ _ _).2.lasts.length; omega,Int.le_refl 0,by show (0:Int)<=1; decide,Int.le_refl 1,rfl,ShL.nil,ShL.nil,rfl,?_⟩,⟨j3,?_,?_,fun j hj=>absurd hj (Nat.not_lt_zero _)⟩,?_⟩
 . unfold fmtS
   rw [fitE_0 h6,if_neg (by simp),if_neg (by rw [k1]; simp)]
   exact Prod.ext j1 rfl
 . obtain ⟨f0,_,_⟩:=half_at j2.ok
   show ((0:Nat):Int)+((0:Nat):Int)<=halfS (storeS (storeS x 0 (secs (List.replicate 512 0))).2 1 (secs (headS 1 0 0))).2 * 256
   omega
 . show ix (storeS (storeS x 0 (secs (List.replicate 512 0))).2 1 (secs (headS 1 0 0))).2.lasts 1=headS 1 0 0
   rw [e1]
   show ix (secs (headS 1 0 0)) 0=_
   rw [hs]; rfl
 . show (hdT (ix (storeS (storeS x 0 (secs (List.replicate 512 0))).2 1 (secs (headS 1 0 0))).2.lasts 0) 0).1<1
   rw [e0,e0',zero_head]; decide
 . rw [e0]; exact e0'
theorem fmt_new {x:Dk} (p:Pow x) (h6:6<=x.lasts.length):∃ y,fmtS x=(.nil,y)/\y.lasts.length=x.lasts.length/\Run ⟨1,0,[],[],[],false,y⟩/\Laid ⟨1,0,[],[],[],false,y⟩:=by
 obtain ⟨y,a,b,c,d,_⟩:=fmt_new5 p h6
 exact ⟨y,a,b,c,d⟩
theorem sync_laid {g:Lg} {y:Dk} (r:Run g) (l:Laid g) (t2:g.turn<=1099511627776) (q:Put g.d y (wroteF g.d g.turn g.half (g.bytes.length:Int) (g.bytes++framesS g.wait))):Laid ⟨g.turn+1,g.half,g.bytes++framesS g.wait,g.recs++g.wait,[],false,y⟩:=by
 have hr:=r.room
 have h6:=r.len
 obtain ⟨f0,f1,f2⟩:=half_at r.pow.ok
 have f2:=f2 (by omega)
 have hs:sizeG g=halfS g.d * 256:=rfl
 have hm:g.half * halfS g.d=0 ∨ g.half * halfS g.d=halfS g.d:=by
  have h0:=r.h0
  have h1:=r.h1
  have hh':g.half=0 ∨ g.half=1:=by omega
  rcases hh' with e | e
  . left; rw [e,Int.zero_mul]
  . right; rw [e,Int.one_mul]
 refine laid_write r l t2 r.h0 r.h1 (by omega) (by rw [List.length_append]; omega) (by rw [List.length_append]; omega) (fun j hj hc=>?_) q
 rw [List.length_append] at hj
 by_cases hlt:256 * j+256<=g.bytes.length
 . have hd:=l.data j (by omega)
   have h256:(ix g.d.lasts (2+g.half * halfS g.d+(j:Int))).length=256:=r.pow.ok.len _ (ix_memW (by omega) (by omega))
   rw [List.take_of_length_le (by omega)] at hd
   rw [List.take_of_length_le (by rw [List.length_append]; omega),hd,List.drop_append_of_le_length (by omega),List.take_append_of_le_length (by rw [List.length_drop]; omega)]
 . have hz:(framesS g.wait).length=0:=by
     rcases hc with h | h
     . omega
     . rw [List.length_append] at h; omega
   have he:=List.eq_nil_of_length_eq_zero hz
   rw [he,List.append_nil]
   exact l.data j (by omega)
theorem comp_laid {g:Lg} {y:Dk} {ls:List Str} (r:Run g) (l:Laid g) (t2:g.turn<=1099511627776) (hl:((framesS ls).length:Int)<=sizeG g) (q:Put g.d y (wroteF g.d g.turn (1-g.half) 0 (framesS ls))):Laid ⟨g.turn+1,1-g.half,framesS ls,ls,[],false,y⟩:=by
 have h0:=r.h0
 have h1:=r.h1
 exact laid_write r l t2 (by omega) (by omega) (by omega) (by omega) hl (fun j hj hc=>by omega) q
theorem open_new {g:Lg} (r:Run g) (l:Laid g) (t2:g.turn<=1099511627776):opnS g.d=(.nil,g.turn,g.half,g.bytes,g.recs) :=
 open_laid r l t2 r.pow rfl fun i _ _=>by unfold nowD; rw [l.fresh]; rfl
end Go.Proofs.Ytckpdliipjekgaa
end
