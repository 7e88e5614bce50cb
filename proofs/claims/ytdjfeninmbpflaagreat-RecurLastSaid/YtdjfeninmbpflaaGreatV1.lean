/- 31 texts, one behind the other. -/
import Derived.Tactics
import Derived.OrdersIn
import Derived.TacticsIn
import Derived.WalkKit
import Derived.ProofKit
import Derived.Sort.Grow
import Derived.Laws.IdiomStrings
import Derived.Laws.AppendOwn
set_option linter.unusedVariables false
set_option linter.unusedSimpArgs false
set_option maxRecDepth 100000
section
namespace Go.Wk
open Go
abbrev Fr:=Nat->Value
def upd (f:Fr) (d:Nat) (v:Value):Fr:=fun t=>bif Nat.beq t d then v else f t
theorem H7 (f:Fr) (d:Nat) (v:Value) (t:Nat):upd f d v t=if t=d then v else f t:=by
 unfold upd
 simp_all
theorem O1 {t d:Nat} (h:t≠d):Nat.beq t d=false:=by cases hc:Nat.beq t d with | false=>rfl | true=>simp_all
def ev (f:Fr):Operand->Value
 | .tmp t=>f t
 | .const v=>v
 | .global g=>.pointer (some ⟨g,0,none⟩)
 | .func k=>.func (.func k) #[] #[]
structure Is (a:Act) (f:Fr) (n:Nat):Prop where
 size:a.tmps.size=n
 get:∀ t,a.tmps.getD t undef=f t
theorem Is.eval {a:Act} {f:Fr} {n:Nat} (h:Is a f n):a.eval=ev f:=by
 funext x
 cases x with
 | tmp t=>exact h.get t
 | _=>rfl
theorem Is.put {a:Act} {f:Fr} {n:Nat} (h:Is a f n) {d:Nat} (hd:d<n) (v:Value):Is (a.put (some d) v) (upd f d v) n:=by
 refine ⟨by simp [Act.put,h.size],fun t=>?_⟩
 rw [H7]
 have hs:=h.size
 by_cases ht:t=d
 . subst ht; simp [Act.put,hs,hd]
 . rw [if_neg ht,<- h.get t]
   simp [Act.put,Ne.symm ht]
def Sim (w w1:World):Prop:=∃ k,w1={ w with drawn:=k }
theorem Sim.refl (w:World):Sim w w:=⟨w.drawn,rfl⟩
theorem Sim.symm {a b:World} (h:Sim a b):Sim b a:=by obtain ⟨k,rfl⟩:=h; exact ⟨a.drawn,rfl⟩
theorem Sim.trans {a b c:World} (h:Sim a b) (k:Sim b c):Sim a c:=by obtain ⟨_,rfl⟩:=h; obtain ⟨m,rfl⟩:=k; exact ⟨m,rfl⟩
theorem Sim.heap {a b:World} (h:Sim a b):b.heap=a.heap:=by obtain ⟨_,rfl⟩:=h; rfl
theorem Sim.drawn (a:World) (k:Nat):Sim a { a with drawn:=k }:=⟨k,rfl⟩
def I8 (ro:Option Nat):Fence:={ fn:=fun _=>True,depth:=none,alive:=false,round:=ro }
def lift (n:Nat) (ds:List Deferred) (Q:Exit->Fr->World->Prop):Exit->Act->World->Prop:=fun e a w1=>∃ f w,Is a f n/\a.defers=ds/\Sim w w1/\Q e f w
def W (P:Program) (n:Nat) (c:Code) (Q:Exit->Fr->World->Prop) (f:Fr) (w:World):Prop:=∀ a w1,Is a f n->Sim w w1->∀ ro,c.wpIn (I8 ro) 0 P (lift n a.defers Q) a w1
section
variable {P:Program} {n:Nat} {Q:Exit->Fr->World->Prop} {f:Fr} {w:World}
theorem c0x {ds:List Deferred} {Q':Exit->Fr->World->Prop} {e:Exit} {a:Act} {w1:World} (h:lift n ds Q e a w1) (hq:∀ f w,Q e f w->Q' e f w):lift n ds Q' e a w1 :=
 let ⟨g,v,hg,hd,hv,q⟩:=h; ⟨g,v,hg,hd,hv,hq _ _ q⟩
theorem S5 {c:Code} {Q':Exit->Fr->World->Prop} (h:W P n c Q f w) (hq:∀ e f w,Q e f w->Q' e f w):W P n c Q' f w :=
 fun a w1 ha hs ro=>Go.wpIn_mono (h a w1 ha hs ro) fun _ _ _ h=>c0x h (hq _)
theorem d5f (h:Q .normal f w):W P n .skip Q f w:=fun _ _ ha hs _=>wpIn_skip ⟨f,w,ha,rfl,hs,h⟩
theorem d9p (h:Q .ret f w):W P n .ret Q f w:=fun _ _ ha hs _=>wpIn_ret ⟨f,w,ha,rfl,hs,h⟩
theorem d3e {i:Nat} (h:Q (.exit i) f w):W P n (.exit i) Q f w:=fun _ _ ha hs _=>wpIn_exit ⟨f,w,ha,rfl,hs,h⟩
def c0j (next:Fr->World->Prop) (Q:Exit->Fr->World->Prop):Exit->Fr->World->Prop
 | .normal,f,w=>next f w
 | e,f,w=>Q e f w
theorem c6m {x y:Code} (h:W P n x (c0j (W P n y Q) Q) f w):W P n (.seq x y) Q f w:=fun a w1 ha hs ro =>
 wpIn_seq (Go.wpIn_mono (h a w1 ha hs ro) fun e a' w' ⟨g,v,hg,hd,hv,q⟩=>by
  cases e <;> first | exact hd ▸ q a' w' hg hv ro | exact ⟨g,v,hg,hd,hv,q⟩)
theorem b5p {c:Operand} {x y:Code} {b:Bool} (hc:ev f c=.bool b) (ht:b=true->W P n x Q f w) (hf:b=false->W P n y Q f w):W P n (.cond c x y) Q f w:=fun a w1 ha hs ro =>
 wpIn_cond_split (t:=b) (by rw [ha.eval]; exact hc) (fun h=>ht h a w1 ha hs ro) (fun h=>hf h a w1 ha hs ro)
theorem b2i {c:Operand} {x y:Code} (hc:ev f c=.bool true) (h:W P n x Q f w):W P n (.cond c x y) Q f w:=b5p hc (fun _=>h) (fun h=>by cases h)
theorem b0c {c:Operand} {x y:Code} (hc:ev f c=.bool false) (h:W P n y Q f w):W P n (.cond c x y) Q f w:=b5p hc (fun h=>by cases h) (fun _=>h)
def c4f (id:Nat) (Q:Exit->Fr->World->Prop):Exit->Fr->World->Prop
 | .exit j,f,w=>bif Nat.beq j id then Q .normal f w else Q (.exit j) f w
 | e,f,w=>Q e f w
theorem c8o {id:Nat} {c:Code} (h:W P n c (c4f id Q) f w):W P n (.block id c) Q f w:=fun a w1 ha hs ro =>
 wpIn_block (Go.wpIn_mono (h a w1 ha hs ro) fun e a' w' ⟨g,v,hg,hd,hv,q⟩=>by
  cases e with
  | exit j =>
   simp only [Exit.inBlock]
   unfold c4f at q
   by_cases hj:j=id
   . subst hj; simp only [Nat.beq_refl,cond_true] at q; rw [if_pos rfl]; exact ⟨g,v,hg,hd,hv,q⟩
   . simp only [O1 hj,cond_false] at q; rw [if_neg hj]; exact ⟨g,v,hg,hd,hv,q⟩
  | _=>exact ⟨g,v,hg,hd,hv,q⟩)
theorem L7 {p:Nat->Prop} (h:∃ m,p m):∃ m,p m/\∀ k,p k->m<=k:=by
 obtain ⟨m,hm⟩:=h
 induction m using Nat.strongRecOn with
 | _ m ih =>
  grind
theorem d6s {c:Code} (I:Nat->Fr->World->Prop) (m:Nat) (h0:I m f w)
  (round:∀ m f w,I m f w->W P n c (c0j (fun f' w'=>∃ m',m'<m/\I m' f' w') Q) f w):W P n (.loop c) Q f w:=by
 intro a w1 ha hs ro
 classical
 obtain ⟨ds,hds⟩:∃ ds,a.defers=ds:=⟨_,rfl⟩
 rw [hds]
 let J:Act->World->Prop:=fun a w1=>∃ m f w,Is a f n/\a.defers=ds/\Sim w w1/\I m f w
 let μ:Act->World->Nat:=fun a w1=>if h:∃ m,∃ f w,Is a f n/\a.defers=ds/\Sim w w1/\I m f w then Classical.choose (L7 h) else 0
 refine wpIn_loop J μ ⟨m,f,w,ha,hds,hs,h0⟩ ?_
 intro a w1 hJ
 have hmin:∃ f w,Is a f n/\a.defers=ds/\Sim w w1/\I (μ a w1) f w:=by
  have hex:∃ m,∃ f w,Is a f n/\a.defers=ds/\Sim w w1/\I m f w:=hJ
  have e:μ a w1=Classical.choose (L7 hex):=dif_pos hex
  rw [e]; exact (Classical.choose_spec (L7 hex)).1
 obtain ⟨f,w,hf,hds,hw,hI⟩:=hmin
 refine Go.wpIn_mono (round _ f w hI a w1 hf hw ro) ?_
 intro e a' w' ⟨g,v,hg,hd,hv,q⟩
 have hd:=hd.trans hds
 cases e with
 | normal =>
  obtain ⟨m',hlt,hI'⟩:=q
  refine ⟨⟨m',g,v,hg,hd,hv,hI'⟩,?_⟩
  have hex:∃ m,∃ f w,Is a' f n/\a'.defers=ds/\Sim w w'/\I m f w:=⟨m',g,v,hg,hd,hv,hI'⟩
  have e:μ a' w'=Classical.choose (L7 hex):=dif_pos hex
  rw [e]
  exact Nat.lt_of_le_of_lt ((Classical.choose_spec (L7 hex)).2 m' ⟨g,v,hg,hd,hv,hI'⟩) hlt
 | _=>exact ⟨g,v,hg,hd,hv,q⟩
end
end Go.Wk
end
section
namespace Go.Wk
open Go
def D4 (P:Program) (K:FuncId) (args:List Value) (w:World) (R:Value->World->Prop):Prop :=
 ∀ w1,Sim w w1->Calls P K args.toArray w1 fun e w2=>∃ v w',e=.returned v/\Sim w' w2/\R v w'
theorem D4.mono {P:Program} {K:FuncId} {args:List Value} {w:World} {R R':Value->World->Prop} (h:D4 P K args w R) (hr:∀ v w',R v w'->R' v w'):D4 P K args w R' :=
 fun w1 hs=>Calls.mono (h w1 hs) fun _ _ ⟨v,w',e,s,r⟩=>⟨v,w',e,s,hr _ _ r⟩
def T5 (P:Program) (l:Nat) (args:List Value) (w:World) (R:Value->World->Prop):Prop :=
 ∀ w1,Sim w w1->∃ fn tmps assign body,(Instr.yield l args.toArray).run P w1=.ok (.round l fn tmps assign body) w1/\RoundIn (I8 none) 0 P l fn tmps assign body w1 fun e w2=>∃ v w',e=.returned v/\Sim w' w2/\R v w'
theorem T5.mono {P:Program} {l:Nat} {args:List Value} {w:World} {R R':Value->World->Prop} (h:T5 P l args w R) (hr:∀ v w',R v w'->R' v w'):T5 P l args w R' :=
 fun w1 hs=>let ⟨fn,tmps,ars,bd,h1,h2⟩:=h w1 hs; ⟨fn,tmps,ars,bd,h1,RoundIn.mono h2 fun _ _ ⟨v,w',e,s,r⟩=>⟨v,w',e,s,hr _ _ r⟩⟩
def nth:List Value->Nat->Value
 | [],_=>undef
 | v::_,0=>v
 | _::r,t+1=>nth r t
theorem d3m (l:List Value):∀ t,l.toArray.getD t undef=nth l t:=by
 induction l with
 | nil=>intro t; simp [nth]
 | cons v r ih=>intro t; cases t with
  | zero=>simp [nth]
  | succ t=>have:=ih t; simp [nth] at this ⊢; exact this
theorem b2h (args:List Value) (n:Nat) (h:args.length<=n):Is { tmps:=args.toArray++Array.replicate (n-args.toArray.size) undef,defers:=[] } (nth args) n:=by
 refine ⟨by simp; omega,fun t=>?_⟩
 rw [<- d3m]
 by_cases ht:t<args.length
 . simp [Array.getElem?_append,ht]
 . have:args.toArray[t]?=none:=by simp; omega
   simp only [Array.getD_eq_getD_getElem?,this,Array.getElem?_append,List.size_toArray,ht,if_false]
   grind
section
variable {P:Program} {K:FuncId} {fn:Func} {c:Code} {args:List Value} {w:World} {R:Value->World->Prop} {n:Nat}
theorem b5c (hf:P.funcs[K]?=some fn) (hb:fn.body=some c) (hn:fn.ntmps=n) (hs:Nat.ble args.length n=true) (Q:Exit->Fr->World->Prop)
  (hq:∀ e a w1 f w,Is a f n->a.defers=[]->Sim w w1->Q e f w->bodyPost P fn (fun e w2=>∃ v w',e=.returned v/\Sim w' w2/\R v w') e a w1) (h:W P n c Q (nth args) w):D4 P K args w R:=by
 subst hn
 exact fun w1 hw=>(callsIn_wide (n:=0)).1 (callsIn_of_wp hf hb trivial (Go.wpIn_mono (h _ w1 (b2h args _ (Nat.le_of_ble_eq_true hs)) hw none) fun e a w ⟨f,v,hf,hd,hv,q⟩=>hq e a w f v hf hd hv q))
end
theorem A1 {a b:Nat} (h:Nat.blt a b=true):a<b:=Nat.le_of_ble_eq_true h
def o5:List Oper->Nat->Option Nat
 | [],_=>none
 | o::_,0=>o.dst
 | _::r,t+1=>o5 r t
theorem c52 (l:List Oper):∀ t,(l.toArray[t]?).bind (·.dst)=o5 l t:=by
 induction l with
 | nil=>intro t; simp [o5]
 | cons v r ih=>intro t; cases t with
  | zero=>simp [o5]
  | succ t=>have:=ih t; simp [o5] at this ⊢; exact this
def J1 (f:Fr) (d:Option Nat) (v:Value):Fr:=match d with | some t=>upd f t v | none=>f
def d4d (P:Program) (o:Oper) (f:Fr) (w:World) (v:Value):Prop:=∀ w1,Sim w w1->(execOp (ev f) o).run P w1=.ok (.value v) w1
def c5w (ops:List Oper) (n:Nat) (f:Fr):Option (Nat×Bool)->Bool->Prop
 | none,b=>b=true
 | some (j,want),b=>∃ dj,o5 ops j=some dj/\dj<n/\((f dj=.bool want/\b=true) ∨ ((f dj=.bool (!want) ∨ f dj=undef)/\b=false))
def QL (P:Program) (n:Nat) (ops:List Oper) (Q:Exit->Fr->World->Prop):List Oper->Fr->World->Prop
 | [],f,w=>Q .normal f w
 | o::rest,f,w=>∃ d b v,o.dst=some d/\d<n/\c5w ops n f o.guard b/\(b=true->d4d P o f w v)/\(b=false->v=undef)/\QL P n ops Q rest (upd f d v) w
def WL (P:Program) (m:Bool) (n:Nat) (ops:List Oper) (Q:Exit->Fr->World->Prop) (l:List Oper) (f:Fr) (w:World):Prop :=
 match m with
 | false=>∀ a w1,Is a f n->Sim w w1->∀ ro,wpListIn (I8 ro) 0 P ops.toArray (lift n a.defers Q) l a w1
 | true=>QL P n ops Q l f w
section
variable {P:Program} {m:Bool} {n:Nat} {ops:List Oper} {Q:Exit->Fr->World->Prop} {rest:List Oper} {f:Fr} {w w':World} {d:Nat} {v:Value} {o:Oper}
theorem c61 {id:Nat} {l:List Oper} (h:WL P false n l Q l f w):W P n (.region id l.toArray false) Q f w:=fun a w1 ha hs ro=>wpIn_region_lit (h a w1 ha hs ro)
theorem a06 (h:Q .normal f w):WL P m n ops Q [] f w:=by
 cases m with
 | false=>exact fun _ _ ha hs _=>⟨f,w,ha,rfl,hs,h⟩
 | true=>exact h
theorem c6b (ro:Option Nat) {ρ:Operand->Value} {o:Oper} {w1 w2:World} {x:Next} (h:(execOp ρ o).run P w1=.ok x w2) (hx:∀ d,x≠.defer d):(o.semAt ro ρ).run P w1=.ok x w2:=by
 by_cases hd:∃ c,o.op=.defer c
 . obtain ⟨c,hc⟩:=hd
   exfalso
   unfold execOp at h
   rw [hc] at h
   simp only [Sem.run_bind] at h
   generalize (resolve ρ c o.type).run P w1=r at h
   cases r with
   | ok d w'=>simp [Result.andThen] at h; grind
   | halt r w'=>simp_all
 . rw [Oper.semAt_eq ro ρ o fun c hc=>hd ⟨c,hc⟩]; exact h
theorem b03 {ro:Option Nat} {a:Act} {w1 w2:World} {x:Next} {K:Act->World->Prop} {QQ:Exit->Act->World->Prop} (h:(execOp a.eval o).run P w1=.ok x w2) (hx:∀ d,x≠.defer d) (k:o.uponIn (I8 ro) 0 P a K QQ (.ok x w2)):o.wpIn (I8 ro) 0 P a w1 K QQ:=by
 unfold Oper.wpIn
 refine ⟨fun _ _=>trivial,?_⟩
 show o.uponIn (I8 ro) 0 P a K QQ ((o.semAt ro a.eval).run P w1)
 rw [c6b ro h hx]; exact k
theorem a4x {ro:Option Nat} {K:FuncId} {args:Array Value} {w1:World} {R:Ending->World->Prop} (h:Calls P K args w1 R):CallsIn (I8 ro) (0-1) P K args w1 R:=(callsIn_wide (n:=0)).2 h
theorem a0n (hg:o.guard=none) (h:∀ a w1,Is a f n->Sim w w1->∀ ro,o.wpIn (I8 ro) 0 P a w1 (wpListIn (I8 ro) 0 P ops.toArray (lift n a.defers Q) rest) (lift n a.defers Q)):WL P false n ops Q (o::rest) f w:=fun a w1 ha hs ro=>by
 unfold wpListIn
 rw [if_pos (by simp [Region.wanted,hg])]
 simp_all
theorem put_defers (a:Act) (d:Option Nat) (v:Value):(a.put d v).defers=a.defers:=by cases d <;> rfl
theorem n6 (hg:o.guard=none) (hd:o.dst=some d) (hn:Nat.blt d n=true) (hr:d4d P o f w v) (k:WL P m n ops Q rest (upd f d v) w):WL P m n ops Q (o::rest) f w:=by
 cases m with
 | false =>
  refine a0n hg fun a w1 ha hs ro=>b03 (by rw [ha.eval]; exact hr w1 hs) (by simp_all) ?_
  rw [Oper.uponIn_value,hd]
  exact k _ w1 (ha.put (A1 hn) v) hs ro
 | true=>exact ⟨d,true,v,hd,A1 hn,by rw [hg]; exact rfl,fun _=>hr,fun h=>(by cases h),k⟩
theorem a2f (hg:o.guard=none) (hd:o.dst=some d) (hn:Nat.blt d n=true) (hr:∀ w1,Sim w w1->∃ v w2 w',(execOp (ev f) o).run P w1=.ok (.value v) w2/\Sim w' w2/\WL P false n ops Q rest (upd f d v) w'):WL P false n ops Q (o::rest) f w :=
 a0n hg fun a w1 ha hs ro=>by
  obtain ⟨v,w2,w',hr,hs',k⟩:=hr w1 hs
  refine b03 (by rw [ha.eval]; exact hr) (by simp_all) ?_
  rw [Oper.uponIn_value,hd]
  exact k _ _ (ha.put (A1 hn) v) hs' ro
theorem c0f (hg:o.guard=none) (hd:o.dst=none) (hr:∀ w1,Sim w w1->∃ w2 w',(execOp (ev f) o).run P w1=.ok .skip w2/\Sim w' w2/\WL P false n ops Q rest f w'):WL P false n ops Q (o::rest) f w :=
 a0n hg fun a w1 ha hs ro=>by
  obtain ⟨w2,w',hr,hs',k⟩:=hr w1 hs
  refine b03 (by rw [ha.eval]; exact hr) (by simp_all) ?_
  rw [Oper.uponIn_skip,hd]
  exact k _ _ ha hs' ro
theorem c5t {K:FuncId} {args:List Value} {R:Value->World->Prop} (hg:o.guard=none) (hd:o.dst=some d) (hn:Nat.blt d n=true) (hr:∀ w1,Sim w w1->(execOp (ev f) o).run P w1=.ok (.enter K args.toArray) w1)
  (hc:D4 P K args w R) (k:∀ v w',R v w'->WL P false n ops Q rest (upd f d v) w'):WL P false n ops Q (o::rest) f w :=
 a0n hg fun a w1 ha hs ro=>by
  refine b03 (by rw [ha.eval]; exact hr w1 hs) (by simp_all) ?_
  rw [Oper.uponIn_enter]
  refine ⟨fun h=>(by cases h),a4x (Calls.mono (hc w1 hs) ?_)⟩
  rintro e w2 ⟨v,w',rfl,hs',r⟩
  simp only [hd]
  exact k v w' r _ _ (ha.put (A1 hn) v) hs' ro
theorem c1x {K:FuncId} {args:List Value} {R:Value->World->Prop} (hg:o.guard=none) (hd:o.dst=none) (hr:∀ w1,Sim w w1->(execOp (ev f) o).run P w1=.ok (.enter K args.toArray) w1)
  (hc:D4 P K args w R) (k:∀ v w',R v w'->WL P false n ops Q rest f w'):WL P false n ops Q (o::rest) f w :=
 a0n hg fun a w1 ha hs ro=>by
  refine b03 (by rw [ha.eval]; exact hr w1 hs) (by simp_all) ?_
  rw [Oper.uponIn_enter]
  refine ⟨fun h=>(by cases h),a4x (Calls.mono (hc w1 hs) ?_)⟩
  rintro e w2 ⟨v,w',rfl,hs',r⟩
  simp only [hd]
  exact k v w' r _ _ ha hs' ro
theorem c5n {l:Nat} {args:List Value} {R:Value->World->Prop} (hg:o.guard=none) (hd:o.dst=some d) (hn:Nat.blt d n=true) (hr:∀ w1,(execOp (ev f) o).run P w1=(Instr.yield l args.toArray).run P w1)
  (hc:T5 P l args w R) (k:∀ v w',R v w'->WL P false n ops Q rest (upd f d v) w'):WL P false n ops Q (o::rest) f w :=
 a0n hg fun a w1 ha hs ro=>by
  obtain ⟨fn,tmps,ars,bd,h1,h2⟩:=hc w1 hs
  refine b03 (x:=.round l fn tmps ars bd) (by rw [ha.eval,hr]; exact h1) (by simp_all) ?_
  rw [Oper.uponIn_round]
  refine ⟨fun h=>(by cases h),RoundIn.mono (F:=I8 ro) h2 ?_⟩
  rintro e w2 ⟨v,w',rfl,hs',r⟩
  simp only [hd]
  exact k v w' r _ _ (ha.put (A1 hn) v) hs' ro
theorem K8 {a:Act} (ha:Is a f n) {j dj:Nat} (hj:o5 ops j=some dj) (hn:dj<n) {x:Value} (hv:f dj=x):yielded ops.toArray a.tmps j=match x with | .bool b=>some b | _=>none:=by
 have h1:(ops.toArray[j]?).bind (·.dst)=some dj:=by rw [c52]; exact hj
 have hs:=ha.size
 have h2:a.tmps[dj]?=some x:=by
  have hlt:dj<a.tmps.size:=by omega
  have:=ha.get dj
  rw [hv] at this
  simp [hlt] at this ⊢
  exact this
 have h3:((ops.toArray[j]?).bind (·.dst)).bind (a.tmps[·]?)=some x:=by rw [h1]; exact h2
 unfold yielded
 rw [h3]
 cases x <;> rfl
variable {dst:Option Nat} {op:Op} {ty:TypeId} {pos:String} {after:Array Edge} {j dj:Nat} {want:Bool}
theorem a5z (hj:o5 ops j=some dj) (hn:Nat.blt dj n=true) (hv:f dj=.bool want) (k:WL P m n ops Q (⟨dst,op,ty,pos,after,none⟩::rest) f w) :
  WL P m n ops Q (⟨dst,op,ty,pos,after,some (j,want)⟩::rest) f w:=by
 cases m with
 | false =>
  intro a w1 ha hs ro
  have h:=k a w1 ha hs ro
  unfold wpListIn at h ⊢
  rw [if_pos (by simp [Region.wanted])] at h
  rw [if_pos (by simp [Region.wanted,K8 ha hj (A1 hn) hv])]
  exact h
 | true =>
  obtain ⟨d,b,v,hd,hdn,hw,hr,hu,k⟩:=k
  have hb:b=true:=hw
  subst hb
  exact ⟨d,true,v,hd,hdn,⟨dj,hj,A1 hn,.inl ⟨hv,rfl⟩⟩,hr,hu,k⟩
theorem b0y (hj:o5 ops j=some dj) (hn:Nat.blt dj n=true) (hd:Nat.blt d n=true) (hv:f dj=.bool (!want)) (k:WL P m n ops Q rest (upd f d undef) w) :
  WL P m n ops Q (⟨some d,op,ty,pos,after,some (j,want)⟩::rest) f w:=by
 cases m with
 | false =>
  intro a w1 ha hs ro
  unfold wpListIn
  rw [if_neg (by simp [Region.wanted,K8 ha hj (A1 hn) hv])]
  exact ⟨fun _ _=>trivial,k _ w1 (ha.put (A1 hd) _) hs ro⟩
 | true=>exact ⟨d,false,undef,rfl,A1 hd,⟨dj,hj,A1 hn,.inr ⟨.inl hv,rfl⟩⟩,fun h=>(by cases h),fun _=>rfl,k⟩
theorem a52 (hj:o5 ops j=some dj) (hn:Nat.blt dj n=true) (hd:Nat.blt d n=true) (hv:f dj=undef) (k:WL P m n ops Q rest (upd f d undef) w) :
  WL P m n ops Q (⟨some d,op,ty,pos,after,some (j,want)⟩::rest) f w:=by
 cases m with
 | false =>
  intro a w1 ha hs ro
  unfold wpListIn
  rw [if_neg (by simp [Region.wanted,K8 ha hj (A1 hn) hv,undef])]
  exact ⟨fun _ _=>trivial,k _ w1 (ha.put (A1 hd) _) hs ro⟩
 | true=>exact ⟨d,false,undef,rfl,A1 hd,⟨dj,hj,A1 hn,.inr ⟨.inr hv,rfl⟩⟩,fun h=>(by cases h),fun _=>rfl,k⟩
theorem c90 (hj:o5 ops j=some dj) (hn:Nat.blt dj n=true) (hv:f dj=.bool (!want)) (k:WL P false n ops Q rest f w) :
  WL P false n ops Q (⟨none,op,ty,pos,after,some (j,want)⟩::rest) f w:=fun a w1 ha hs ro=>by
 unfold wpListIn
 rw [if_neg (by simp [Region.wanted,K8 ha hj (A1 hn) hv])]
 exact ⟨fun _ _=>trivial,k _ w1 ha hs ro⟩
theorem c6y (hj:o5 ops j=some dj) (hn:Nat.blt dj n=true) (hv:f dj=undef) (k:WL P false n ops Q rest f w) :
  WL P false n ops Q (⟨none,op,ty,pos,after,some (j,want)⟩::rest) f w:=fun a w1 ha hs ro=>by
 unfold wpListIn
 rw [if_neg (by simp [Region.wanted,K8 ha hj (A1 hn) hv,undef])]
 exact ⟨fun _ _=>trivial,k _ w1 ha hs ro⟩
end
end Go.Wk
end
section
namespace Go.Wk
open Go
section
variable {P:Program} {m:Bool} {n:Nat} {ops:List Oper} {Q:Exit->Fr->World->Prop} {rest:List Oper} {f:Fr} {w w':World} {d:Nat} {v:Value}
variable {ty T T' T2:TypeId} {pos:String} {after:Array Edge} {x y z:Operand} {k:IntKind} {a b c:Int} {p q:Bool}
theorem d4x (hn:Nat.blt d n=true) (K:WL P m n ops Q rest (upd f d (ev f x)) w):WL P m n ops Q (⟨some d,.move x,ty,pos,after,none⟩::rest) f w :=
 n6 rfl rfl hn (v:=ev f x) (fun _ _=>rfl) K
theorem c3g (hn:Nat.blt d n=true) (K:WL P m n ops Q rest (upd f d (ev f x)) w):WL P m n ops Q (⟨some d,.assign x,ty,pos,after,none⟩::rest) f w :=
 n6 rfl rfl hn (v:=ev f x) (fun _ _=>rfl) K
theorem b4m (hx:ev f x=.bool p) (hn:Nat.blt d n=true) (K:WL P m n ops Q rest (upd f d (if p then ev f y else ev f z)) w):WL P m n ops Q (⟨some d,.pick x y z,ty,pos,after,none⟩::rest) f w :=
 n6 rfl rfl hn (v:=if p then ev f y else ev f z) (fun _ _=>by simp [execOp,hx,asBool,go_sem]) K
theorem c3o (hx:ev f x=.bool true) (hn:Nat.blt d n=true) (K:WL P m n ops Q rest (upd f d (ev f y)) w):WL P m n ops Q (⟨some d,.pick x y z,ty,pos,after,none⟩::rest) f w :=
 b4m hx hn K
theorem c38 (hx:ev f x=.bool false) (hn:Nat.blt d n=true) (K:WL P m n ops Q rest (upd f d (ev f z)) w):WL P m n ops Q (⟨some d,.pick x y z,ty,pos,after,none⟩::rest) f w :=
 b4m hx hn K
theorem U3 {a:Int} (h:-9223372036854775808<=a/\a<=9223372036854775807):IntKind.i64.wrap a=a:=IntWalk.i64_in a h
theorem a0t {op:BinOp} (hx:ev f x=.int k a) (hy:ev f y=.int k b) (hr:∀ w,(Op.intArith op k a b).run P w=.ok v w) (ho:op=.add ∨ op=.sub ∨ op=.mul) (hn:Nat.blt d n=true) (K:WL P m n ops Q rest (upd f d v) w) :
  WL P m n ops Q (⟨some d,.binOp op T x y T',ty,pos,after,none⟩::rest) f w :=
 n6 rfl rfl hn (v:=v) (fun _ _=>by have hr':=hr w; rcases ho with rfl | rfl | rfl <;> simp [Op.intArith,go_sem] at hr' <;> simp [execOp,hx,hy,eqGuard,binOp,go_sem,hr']) K
theorem d7s (hx:ev f x=.int .i64 a) (hy:ev f y=.int .i64 b) (hb:-9223372036854775808<=a+b/\a+b<=9223372036854775807) (hn:Nat.blt d n=true) (K:WL P m n ops Q rest (upd f d (.int .i64 (a+b))) w) :
  WL P m n ops Q (⟨some d,.binOp .add T x y T',ty,pos,after,none⟩::rest) f w :=
 a0t hx hy (fun _=>by simp [Op.intArith,go_sem,U3 hb]) (by simp) hn K
theorem e1f (hx:ev f x=.int .i64 a) (hy:ev f y=.int .i64 b) (hb:-9223372036854775808<=a-b/\a-b<=9223372036854775807) (hn:Nat.blt d n=true) (K:WL P m n ops Q rest (upd f d (.int .i64 (a-b))) w) :
  WL P m n ops Q (⟨some d,.binOp .sub T x y T',ty,pos,after,none⟩::rest) f w :=
 a0t hx hy (fun _=>by simp [Op.intArith,go_sem,U3 hb]) (by simp) hn K
theorem e0o (hx:ev f x=.int .i64 a) (hy:ev f y=.int .i64 b) (hb:-9223372036854775808<=a * b/\a * b<=9223372036854775807) (hn:Nat.blt d n=true) (K:WL P m n ops Q rest (upd f d (.int .i64 (a * b))) w) :
  WL P m n ops Q (⟨some d,.binOp .mul T x y T',ty,pos,after,none⟩::rest) f w :=
 a0t hx hy (fun _=>by simp [Op.intArith,go_sem,U3 hb]) (by simp) hn K
theorem c49 (hx:ev f x=.int k a) (hy:ev f y=.int k b) (hn:Nat.blt d n=true) (K:WL P m n ops Q rest (upd f d (.int k (k.wrap (a+b)))) w) :
  WL P m n ops Q (⟨some d,.binOp .add T x y T',ty,pos,after,none⟩::rest) f w :=
 a0t hx hy (fun _=>by simp [Op.intArith,go_sem]) (by simp) hn K
theorem c3k (hx:ev f x=.int k a) (hy:ev f y=.int k b) (hn:Nat.blt d n=true) (K:WL P m n ops Q rest (upd f d (.int k (k.wrap (a-b)))) w) :
  WL P m n ops Q (⟨some d,.binOp .sub T x y T',ty,pos,after,none⟩::rest) f w :=
 a0t hx hy (fun _=>by simp [Op.intArith,go_sem]) (by simp) hn K
theorem d3u (hx:ev f x=.int k a) (hy:ev f y=.int k b) (hn:Nat.blt d n=true) (K:WL P m n ops Q rest (upd f d (.int k (k.wrap (a * b)))) w) :
  WL P m n ops Q (⟨some d,.binOp .mul T x y T',ty,pos,after,none⟩::rest) f w :=
 a0t hx hy (fun _=>by simp [Op.intArith,go_sem]) (by simp) hn K
theorem d1v (hx:ev f x=.int k a) (hy:ev f y=.int k b) (hb:b≠0) (hn:Nat.blt d n=true) (K:WL P m n ops Q rest (upd f d (.int k (k.wrap (a.tdiv b)))) w) :
  WL P m n ops Q (⟨some d,.binOp .quo T x y T',ty,pos,after,none⟩::rest) f w :=
 n6 rfl rfl hn (v:=.int k (k.wrap (a.tdiv b))) (fun _ _=>by simp [execOp,hx,hy,eqGuard,binOp,go_sem,Op.intDiv,hb]) K
theorem e0x (hx:ev f x=.int k a) (hy:ev f y=.int k b) (hb:b≠0) (hn:Nat.blt d n=true) (K:WL P m n ops Q rest (upd f d (.int k (a.tmod b))) w) :
  WL P m n ops Q (⟨some d,.binOp .rem T x y T',ty,pos,after,none⟩::rest) f w :=
 n6 rfl rfl hn (v:=.int k (a.tmod b)) (fun _ _=>by simp [execOp,hx,hy,eqGuard,binOp,go_sem,Op.intDiv,hb]) K
theorem d9u {k':IntKind} (hx:ev f x=.int k a) (hy:ev f y=.int k' b) (hb:0<=b) (hn:Nat.blt d n=true) (K:WL P m n ops Q rest (upd f d (.int k (a.fdiv (2 ^ min b.toNat k.bits)))) w) :
  WL P m n ops Q (⟨some d,.binOp .shr T x y T',ty,pos,after,none⟩::rest) f w :=
 n6 rfl rfl hn (v:=.int k (a.fdiv (2 ^ min b.toNat k.bits))) (fun _ _=>by simp [execOp,hx,hy,eqGuard,binOp,go_sem,Op.shift,Int.not_lt.2 hb]) K
theorem d9n {k':IntKind} (hx:ev f x=.int k a) (hy:ev f y=.int k' b) (hb:0<=b) (hn:Nat.blt d n=true) (K:WL P m n ops Q rest (upd f d (.int k (k.wrap (a * 2 ^ min b.toNat k.bits)))) w) :
  WL P m n ops Q (⟨some d,.binOp .shl T x y T',ty,pos,after,none⟩::rest) f w :=
 n6 rfl rfl hn (v:=.int k (k.wrap (a * 2 ^ min b.toNat k.bits))) (fun _ _=>by simp [execOp,hx,hy,eqGuard,binOp,go_sem,Op.shift,Int.not_lt.2 hb]) K
theorem d1r (hx:ev f x=.int k a) (hy:ev f y=.int k b) (hn:Nat.blt d n=true) (K:WL P m n ops Q rest (upd f d (.int k (k.wrap (BitVec.ofInt k.bits a &&& BitVec.ofInt k.bits b).toNat))) w) :
  WL P m n ops Q (⟨some d,.binOp .and T x y T',ty,pos,after,none⟩::rest) f w :=
 n6 rfl rfl hn (v:=.int k (k.wrap (BitVec.ofInt k.bits a &&& BitVec.ofInt k.bits b).toNat)) (fun _ _=>by simp [execOp,hx,hy,eqGuard,binOp,go_sem,Op.intBits]) K
theorem e2j (hx:ev f x=.int k a) (hy:ev f y=.int k b) (hn:Nat.blt d n=true) (K:WL P m n ops Q rest (upd f d (.int k (k.wrap (BitVec.ofInt k.bits a ||| BitVec.ofInt k.bits b).toNat))) w) :
  WL P m n ops Q (⟨some d,.binOp .or T x y T',ty,pos,after,none⟩::rest) f w :=
 n6 rfl rfl hn (v:=.int k (k.wrap (BitVec.ofInt k.bits a ||| BitVec.ofInt k.bits b).toNat)) (fun _ _=>by simp [execOp,hx,hy,eqGuard,binOp,go_sem,Op.intBits]) K
theorem e0n (hx:ev f x=.int k a) (hy:ev f y=.int k b) (hn:Nat.blt d n=true) (K:WL P m n ops Q rest (upd f d (.int k (k.wrap (BitVec.ofInt k.bits a ^^^ BitVec.ofInt k.bits b).toNat))) w) :
  WL P m n ops Q (⟨some d,.binOp .xor T x y T',ty,pos,after,none⟩::rest) f w :=
 n6 rfl rfl hn (v:=.int k (k.wrap (BitVec.ofInt k.bits a ^^^ BitVec.ofInt k.bits b).toNat)) (fun _ _=>by simp [execOp,hx,hy,eqGuard,binOp,go_sem,Op.intBits]) K
theorem d1l (hx:ev f x=.int k a) (hy:ev f y=.int k b) (hn:Nat.blt d n=true) (K:WL P m n ops Q rest (upd f d (.bool (decide (a<b)))) w) :
  WL P m n ops Q (⟨some d,.binOp .lss T x y T',ty,pos,after,none⟩::rest) f w :=
 n6 rfl rfl hn (v:=.bool (decide (a<b))) (fun _ _=>by simp [execOp,hx,hy,eqGuard,binOp,go_sem,Op.intCmp]) K
theorem d1q (hx:ev f x=.int k a) (hy:ev f y=.int k b) (hn:Nat.blt d n=true) (K:WL P m n ops Q rest (upd f d (.bool (decide (a<=b)))) w) :
  WL P m n ops Q (⟨some d,.binOp .leq T x y T',ty,pos,after,none⟩::rest) f w :=
 n6 rfl rfl hn (v:=.bool (decide (a<=b))) (fun _ _=>by simp [execOp,hx,hy,eqGuard,binOp,go_sem,Op.intCmp]) K
theorem d1n (hx:ev f x=.int k a) (hy:ev f y=.int k b) (hn:Nat.blt d n=true) (K:WL P m n ops Q rest (upd f d (.bool (decide (b<a)))) w) :
  WL P m n ops Q (⟨some d,.binOp .gtr T x y T',ty,pos,after,none⟩::rest) f w :=
 n6 rfl rfl hn (v:=.bool (decide (b<a))) (fun _ _=>by simp [execOp,hx,hy,eqGuard,binOp,go_sem,Op.intCmp]) K
theorem d0p (hx:ev f x=.int k a) (hy:ev f y=.int k b) (hn:Nat.blt d n=true) (K:WL P m n ops Q rest (upd f d (.bool (decide (b<=a)))) w) :
  WL P m n ops Q (⟨some d,.binOp .geq T x y T',ty,pos,after,none⟩::rest) f w :=
 n6 rfl rfl hn (v:=.bool (decide (b<=a))) (fun _ _=>by simp [execOp,hx,hy,eqGuard,binOp,go_sem,Op.intCmp]) K
theorem d1c (hx:ev f x=.int k a) (hy:ev f y=.int k b) (hn:Nat.blt d n=true) (K:WL P m n ops Q rest (upd f d (.bool (decide (a=b)))) w) :
  WL P m n ops Q (⟨some d,.binOp .eql T x y T',ty,pos,after,none⟩::rest) f w :=
 n6 rfl rfl hn (v:=.bool (decide (a=b))) (fun _ _=>by simp [execOp,hx,hy,eqGuard,binOp,go_sem,Op.intCmp]; grind) K
theorem d1f (hx:ev f x=.int k a) (hy:ev f y=.int k b) (hn:Nat.blt d n=true) (K:WL P m n ops Q rest (upd f d (.bool (decide (a≠b)))) w) :
  WL P m n ops Q (⟨some d,.binOp .neq T x y T',ty,pos,after,none⟩::rest) f w :=
 n6 rfl rfl hn (v:=.bool (decide (a≠b))) (fun _ _=>by simp [execOp,hx,hy,eqGuard,binOp,go_sem,Op.intCmp]; grind) K
theorem eqB {w:World} {p q:Bool} (hT:∀ w,(underlying T).run P w=.ok .bool w):(Op.equal T (.bool p) (.bool q)).run P w=.ok (decide (p=q)) w:=by
 have h:∀ d,(Op.equalIn (d+1) T (.bool p) (.bool q)).run P w=.ok (decide (p=q)) w:=fun d=>by
  unfold Op.equalIn
  rw [Sem.run_bind,hT,Result.andThen_ok]
  cases p <;> cases q <;> rfl
 exact h 9999
theorem d3o {q:Bool} (hT:∀ w,(underlying T).run P w=.ok .bool w) (hx:ev f x=.bool p) (hy:ev f y=.bool q) (hn:Nat.blt d n=true) (K:WL P m n ops Q rest (upd f d (.bool (decide (p=q)))) w) :
  WL P m n ops Q (⟨some d,.binOp .eql T x y T',ty,pos,after,none⟩::rest) f w :=
 n6 rfl rfl hn (v:=.bool (decide (p=q))) (fun _ _=>by simp [execOp,hx,hy,eqGuard,binOp,go_sem,eqB hT]) K
theorem d3c {q:Bool} (hT:∀ w,(underlying T).run P w=.ok .bool w) (hx:ev f x=.bool p) (hy:ev f y=.bool q) (hn:Nat.blt d n=true) (K:WL P m n ops Q rest (upd f d (.bool (decide (p≠q)))) w) :
  WL P m n ops Q (⟨some d,.binOp .neq T x y T',ty,pos,after,none⟩::rest) f w :=
 n6 rfl rfl hn (v:=.bool (decide (p≠q))) (fun _ _=>by cases p <;> cases q <;> simp [execOp,hx,hy,eqGuard,binOp,go_sem,eqB hT]) K
theorem c4e (hx:ev f x=.bool p) (hn:Nat.blt d n=true) (K:WL P m n ops Q rest (upd f d (.bool (!p))) w):WL P m n ops Q (⟨some d,.unOp .not T x,ty,pos,after,none⟩::rest) f w :=
 n6 rfl rfl hn (v:=.bool (!p)) (fun _ _=>by simp [execOp,hx,Op.unary,go_sem]) K
theorem e1c (hx:ev f x=.int k a) (hn:Nat.blt d n=true) (K:WL P m n ops Q rest (upd f d (.int k (k.wrap (0-a)))) w):WL P m n ops Q (⟨some d,.unOp .neg T x,ty,pos,after,none⟩::rest) f w :=
 n6 rfl rfl hn (v:=.int k (k.wrap (0-a))) (fun _ _=>by simp [execOp,hx,Op.unary,Op.intArith,go_sem]) K
theorem c0s {vs:Array Value} {i:Nat} (hx:ev f x=.tuple vs) (hi:vs[i]?=some v) (hn:Nat.blt d n=true) (K:WL P m n ops Q rest (upd f d v) w):WL P m n ops Q (⟨some d,.extract x i,ty,pos,after,none⟩::rest) f w :=
 n6 rfl rfl hn (v:=v) (fun _ _=>by simp [execOp,hx,Instr.extract,hi,go_sem]) K
theorem b69 {fn:Fn} {xs ys:List Operand} (hn:Nat.blt d n=true) (K:WL P m n ops Q rest (upd f d (.func fn (xs.map (ev f)).toArray (ys.map (ev f)).toArray)) w):WL P m n ops Q (⟨some d,.makeFunc fn xs.toArray ys.toArray,ty,pos,after,none⟩::rest) f w :=
 n6 rfl rfl hn (v:=.func fn (xs.map (ev f)).toArray (ys.map (ev f)).toArray) (fun _ _=>by simp [execOp,Instr.makeFunc,go_sem]) K
theorem b3a {A:Option Addr} {mm cp:Nat} {E:TypeId} (hT:∀ w,(underlying T).run P w=.ok (.slice E) w) (hx:ev f x=.slice A mm cp) (hn:Nat.blt d n=true) (K:WL P m n ops Q rest (upd f d (.int .i64 mm)) w) :
  WL P m n ops Q (⟨some d,.call ⟨.builtin .len,#[x],#[T]⟩,ty,pos,after,none⟩::rest) f w :=
 n6 rfl rfl hn (v:=.int .i64 mm) (fun _ _=>by simp [Builtin.len_,hx,hT,go_sem]) K
theorem d5s {s:ByteArray} (hT:∀ w,(underlying T).run P w=.ok .string w) (hx:ev f x=.string s) (hn:Nat.blt d n=true) (K:WL P m n ops Q rest (upd f d (.int .i64 s.size)) w) :
  WL P m n ops Q (⟨some d,.call ⟨.builtin .len,#[x],#[T]⟩,ty,pos,after,none⟩::rest) f w :=
 n6 rfl rfl hn (v:=.int .i64 s.size) (fun _ _=>by simp [Builtin.len_,hx,hT,go_sem]) K
theorem d9j {Ts:Array TypeId} (hx:ev f x=.int k a) (hy:ev f y=.int k b) (hn:Nat.blt d n=true) (K:WL P m n ops Q rest (upd f d (.int k (max a b))) w) :
  WL P m n ops Q (⟨some d,.call ⟨.builtin .max,#[x,y],Ts⟩,ty,pos,after,none⟩::rest) f w :=
 n6 rfl rfl hn (v:=.int k (max a b)) (fun _ _=>by
  have e:(if b > a then b else a)=max a b:=by rw [Int.max_def]; split <;> split <;> omega
  simp [Builtin.max_,Builtin.max2,hx,hy,go_sem]; exact e) K
theorem d9q {Ts:Array TypeId} (hx:ev f x=.int k a) (hy:ev f y=.int k b) (hn:Nat.blt d n=true) (K:WL P m n ops Q rest (upd f d (.int k (min a b))) w) :
  WL P m n ops Q (⟨some d,.call ⟨.builtin .min,#[x,y],Ts⟩,ty,pos,after,none⟩::rest) f w :=
 n6 rfl rfl hn (v:=.int k (min a b)) (fun _ _=>by
  have e:(if b<a then b else a)=min a b:=by rw [Int.min_def]; split <;> split <;> omega
  simp [Builtin.min_,Builtin.min2,hx,hy,go_sem]; exact e) K
end
end Go.Wk
end
section
namespace Go.Wk
open Go
structure Ext (B:List Nat) (w w':World):Prop where
 os:w'.os=w.os
 tape:w'.tape=w.tape
 output:w'.output=w.output
 size:w.heap.size<=w'.heap.size
 block:∀ b,b<w.heap.size->b ∉ B->w'.heap[b]?=w.heap[b]?
theorem Ext.refl (B:List Nat) (w:World):Ext B w w:=⟨rfl,rfl,rfl,Nat.le_refl _,fun _ _ _=>rfl⟩
theorem Ext.trans {B B1 B2:List Nat} {a b c:World} (h:Ext B1 a b) (k:Ext B2 b c) (h1:∀ x∈B1,x∈B ∨ a.heap.size<=x) (h2:∀ x∈B2,x∈B ∨ a.heap.size<=x):Ext B a c :=
 ⟨k.os.trans h.os,k.tape.trans h.tape,k.output.trans h.output,Nat.le_trans h.size k.size,fun i hi hB =>
  (k.block i (Nat.lt_of_lt_of_le hi h.size) (fun hm=>by grind)).trans (h.block i hi (fun hm=>by grind))⟩
theorem Ext.tr {a b c:World} (h:Ext [] a b) (k:Ext [] b c):Ext [] a c:=h.trans k (by simp) (by simp)
theorem Ext.trB {B:List Nat} {a b c:World} (h:Ext B a b) (k:Ext B b c):Ext B a c:=h.trans k (fun x hx=>.inl hx) (fun x hx=>.inl hx)
theorem Ext.mono {B B':List Nat} {a b:World} (h:Ext B a b) (hB:∀ x∈B,x∈B' ∨ a.heap.size<=x):Ext B' a b :=
 ⟨h.os,h.tape,h.output,h.size,fun i hi hn=>h.block i hi fun hm=>by grind⟩
theorem Ext.to {B:List Nat} {a b:World} (h:Ext [] a b):Ext B a b:=h.mono (by simp)
theorem Ext.drew {B:List Nat} {a b:World} (h:Ext B a b) (n:Nat):Ext B a { b with drawn:=n }:=⟨h.os,h.tape,h.output,h.size,h.block⟩
theorem Ext.below {w w':World} (h:Ext [] w w'):RowKit.Below w.heap.size w w':=⟨h.os,h.tape,h.output,h.size,fun k hk=>h.block k hk (by simp)⟩
theorem Ext.sim {B:List Nat} {a b c:World} (h:Ext B a b) (hs:Sim b c):Ext B a c:=by obtain ⟨k,rfl⟩:=hs; exact h.drew k
theorem Ext.get {B:List Nat} {w w':World} {b:Nat} {o:Obj} (h:Ext B w w') (hb:b ∉ B) (ho:w.heap[b]?=some o):w'.heap[b]?=some o:=by
 have hlt:b<w.heap.size:=by
  rcases Nat.lt_or_ge b w.heap.size with h | h
  . exact h
  . simp_all
 rw [h.block b hlt hb,ho]
theorem V1 {w:World} {b:Nat} {o:Obj} (ho:w.heap[b]?=some o):b<w.heap.size:=by
 grind
def Cells (w:World) (b o:Nat) (cs:List Value):Prop:=∃ C T z,w.heap[b]?=some (.cells C T z)/\∀ j,j<cs.length->C[o+j]?=cs[j]?
theorem Cells.ext {B:List Nat} {w w':World} {b o:Nat} {cs:List Value} (h:Cells w b o cs) (e:Ext B w w') (hb:b ∉ B):Cells w' b o cs :=
 let ⟨C,T,z,hh,hc⟩:=h; ⟨C,T,z,e.get hb hh,hc⟩
theorem Cells.sim {w w1:World} {b o:Nat} {cs:List Value} (h:Cells w b o cs) (hs:Sim w w1):Cells w1 b o cs:=by obtain ⟨k,rfl⟩:=hs; exact h
theorem Cells.lt {w:World} {b o:Nat} {cs:List Value} (h:Cells w b o cs):b<w.heap.size:=let ⟨_,_,_,hh,_⟩:=h; V1 hh
theorem Cells.cell {w:World} {b o:Nat} {cs:List Value} (h:Cells w b o cs) {j:Nat} {v:Value} (hv:cs[j]?=some v):w.cell? ⟨b,o+j,none⟩=some v:=by
 obtain ⟨C,T,z,hh,hc⟩:=h
 have hj:j<cs.length:=by
  rcases Nat.lt_or_ge j cs.length with h | h
  . exact h
  . simp_all
 simp [World.cell?,hh,hc j hj,hv]
def w5:Value->Bool
 | .agg _=>false
 | .tuple _=>false
 | _=>true
structure Rep (α:Type) where
 sz:Nat
 rd:List Nat->World->List Value->α->Prop
 len:∀ {M w cs x},rd M w cs x->cs.length=sz
 mono:∀ {M M' B w w' cs x},rd M w cs x->Ext B w w'->(∀ b∈B,b∈M ∨ w.heap.size<=b)->(∀ b∈M',b∈M ∨ w.heap.size<=b)->rd M' w' cs x
 plain:∀ {M w cs x},rd M w cs x->cs.all w5=true
theorem Rep.ext {α:Type} (r:Rep α) {M:List Nat} {w w':World} {cs:List Value} {x:α} (h:r.rd M w cs x) (e:Ext [] w w'):r.rd M w' cs x:=r.mono h e (by simp) (fun b hb=>.inl hb)
def InI (x:Int):Prop:=-9223372036854775808<=x/\x<=9223372036854775807
abbrev Str:=List UInt8
def sv (s:Str):Value:=.string ⟨s.toArray⟩
def Rep.map {α β:Type} (r:Rep α) (g:β->α):Rep β where
 sz:=r.sz
 rd:=fun M w cs y=>r.rd M w cs (g y)
 len:=r.len
 mono:=r.mono
 plain:=r.plain
def c40 {α:Type} (r:Rep α):Rep (List α) where
 sz:=1
 rd:=fun M w cs l=>l.length<=9223372036854775807/\∃ A cap,cs=[.slice A l.length cap]/\(A=none->cap=0)/\∀ i (h:i<l.length),∃ b o c,A=some ⟨b,o,none⟩/\b ∉ M/\Cells w b (o+i * r.sz) c/\r.rd M w c l[i]
 len:=fun ⟨_,A,cap,e,_⟩=>by rw [e]; rfl
 mono:=fun ⟨hl,A,cap,e,h0,h⟩ hx hB hM=>⟨hl,A,cap,e,h0,fun i hi=>by
  obtain ⟨b,o,c,e1,hb,hc,hr⟩:=h i hi
  have hlt:=hc.lt
  exact ⟨b,o,c,e1,fun hm=>by grind,hc.ext hx (fun hm=>by grind),r.mono hr hx hB hM⟩⟩
 plain:=fun ⟨_,A,cap,e,_⟩=>by rw [e]; rfl
section
variable {α β:Type} {r:Rep α} {s:Rep β} {M:List Nat} {w:World}
theorem b7w:(c40 r).rd M w [.slice none 0 0] []:=⟨by simp,none,0,rfl,fun _=>rfl,fun i hi=>by simp at hi⟩
end
section
variable {P:Program} {m:Bool} {n:Nat} {ops:List Oper} {Q:Exit->Fr->World->Prop} {rest:List Oper} {f:Fr} {w w':World} {d:Nat} {v:Value} {M:List Nat}
variable {ty T T' T2 E:TypeId} {pos:String} {after:Array Edge} {x y z:Operand} {k:IntKind} {a b c:Int} {p q:Bool}
variable {α β:Type} {r:Rep α} {s:Rep β}
theorem T4 {b o mm cap sz:Nat} {i:Int} (hT:∀ w,(underlying T).run P w=.ok (.slice E) w) (hE:∀ w,(sizeOf E).run P w=.ok sz w) (h0:0<=i) (h1:i<mm) (w:World) :
  (Instr.indexAt T (.slice (some ⟨b,o,none⟩) mm cap) (.int k i)).run P w=.ok (.pointer (some ⟨b,o+i.toNat * sz,none⟩)) w:=by
 have e:(Addr.add ⟨b,o,none⟩ (i.toNat * sz))=⟨b,o+i.toNat * sz,none⟩:=by
  unfold Addr.add; split
  . simp_all
  . rfl
 simp [Instr.indexAt,asIntOf,hT,hE,h0,h1,go_sem,e]
theorem run_load {b o:Nat} {v:Value} (hA:∀ w,(isAgg T).run P w=.ok false w) (hc:Cells w b o [v]):(Instr.loadAt T (.pointer (some ⟨b,o,none⟩))).run P w=.ok v w:=by
 have h:=hc.cell (j:=0) (v:=v) rfl
 simp only [Nat.add_zero] at h
 simp [Instr.loadAt,Instr.sureAddr,loadVar,hA,go_sem,load,Sem.run,h]
theorem c8l {b o:Nat} (hA:∀ w,(isAgg T).run P w=.ok false w) (hx:ev f x=.pointer (some ⟨b,o,none⟩)) (hc:Cells w b o [v]) (hn:Nat.blt d n=true) (K:WL P m n ops Q rest (upd f d v) w) :
  WL P m n ops Q (⟨some d,.load T x,ty,pos,after,none⟩::rest) f w :=
 n6 rfl rfl hn (v:=v) (fun w1 hs=>by simp only [execOp,hx,Sem.run_bind,run_load hA (hc.sim hs)]; rfl) K
theorem J2 {b o:Nat} {cs:List Value} (hc:Cells w b o cs):∀ (mm i:Nat) (acc:Array Value),i+mm=cs.length->(loadCellsFrom ⟨b,o,none⟩ i mm acc).run P w=.ok (acc++(cs.drop i).toArray) w:=by
 intro mm
 induction mm with
 | zero=>intro i acc h; simp only [loadCellsFrom]; simp_all
 | succ mm ih =>
  intro i acc h
  have hi:i<cs.length:=by omega
  have hcell:=hc.cell (j:=i) (v:=cs[i]) (by simp [hi])
  have e:(Addr.add ⟨b,o,none⟩ i)=⟨b,o+i,none⟩:=by
   unfold Addr.add; split
   . simp_all
   . rfl
  simp only [loadCellsFrom,e,Sem.run_bind,load,Sem.run,hcell,Result.andThen_ok]
  rw [ih (i+1) _ (by omega),List.drop_eq_getElem_cons hi]
  simp
theorem c2p {b o mm:Nat} {cs:List Value} (hA:∀ w,(isAgg T).run P w=.ok true w) (hz:∀ w,(sizeOf T).run P w=.ok mm w) (hl:cs.length=mm) (hx:ev f x=.pointer (some ⟨b,o,none⟩)) (hc:Cells w b o cs) (hn:Nat.blt d n=true)
  (K:WL P m n ops Q rest (upd f d (.agg cs.toArray)) w):WL P m n ops Q (⟨some d,.load T x,ty,pos,after,none⟩::rest) f w :=
 n6 rfl rfl hn (v:=.agg cs.toArray) (fun w1 hs=>by
  have h:=J2 (P:=P) (hc.sim hs) cs.length 0 #[] (by omega)
  simp only [List.drop_zero,Array.empty_append] at h
  subst hl
  simp [execOp,hx,Instr.loadAt,Instr.sureAddr,loadVar,hA,hz,loadCells,h,go_sem]) K
theorem b2j {b o i:Nat} {fs:Array Field} {fd:Field} {mm:Nat} (hT:∀ w,(underlying T).run P w=.ok (.struct fs) w) (hf:fs[i]?=some fd) (hz:∀ w,(sizeOf fd.type).run P w=.ok (mm+1) w) (hx:ev f x=.pointer (some ⟨b,o,none⟩)) (hn:Nat.blt d n=true)
  (K:WL P m n ops Q rest (upd f d (.pointer (some ⟨b,o+fd.offset,none⟩))) w):WL P m n ops Q (⟨some d,.fieldAddr T x i,ty,pos,after,none⟩::rest) f w :=
 n6 rfl rfl hn (v:=.pointer (some ⟨b,o+fd.offset,none⟩)) (fun w1 hs=>by
  have e:(Addr.add ⟨b,o,none⟩ fd.offset)=⟨b,o+fd.offset,none⟩:=by
   unfold Addr.add; split
   . simp_all
   . rfl
  simp [execOp,hx,Instr.fieldAt,Instr.sureAddr,fieldPlace,hT,hf,hz,go_sem,e]) K
end
end Go.Wk
end
section
namespace Go.Wk
open Go
def c37 (o:Oper):List Nat:=o.op.operands.toList.filterMap fun | .tmp t=>some t | _=>none
def reads (l:List Oper) (o:Oper):List Nat:=c37 o++(match o.guard with | some (j,_)=>(o5 l j).toList | none=>[])
def H3 (l:List Oper):Bool:=l.zipIdx.all fun (o,i)=>o.after.toList.all fun e=>!Region.binds .any e || Nat.blt e.on i
def a5p (o:Oper):Bool:=match o.op with | .select .. => true | _=>false
def a10 (P:Program) (o:Oper) (g:Fr) (w:World) (R:Value->World->Prop):Prop :=
 (∀ w1,Sim w w1->∃ v w2 w',(execOp (ev g) o).run P w1=.ok (.value v) w2/\Sim w' w2/\R v w') ∨
 (∀ w1,Sim w w1->∃ w2 w',(execOp (ev g) o).run P w1=.ok .skip w2/\Sim w' w2/\R undef w') ∨
 (∃ K args,(∀ w1,Sim w w1->(execOp (ev g) o).run P w1=.ok (.enter K args) w1)/\D4 P K args.toList w R)
def c67 (P:Program) (l:List Oper) (o:Oper) (g:Fr) (w:World) (R:Value->World->Prop):Prop :=
 match o.guard with
 | none=>a10 P o g w R
 | some (j,want)=>∃ dj x,o5 l j=some dj/\g dj=x/\((x=.bool want/\a10 P o g w R) ∨ ((x=.bool (!want) ∨ x=undef)/\R undef w))
section
variable {P:Program} {n:Nat} {l:List Oper} {Q:Exit->Fr->World->Prop} {f0:Fr} {w0:World}
theorem Is.putO {a:Act} {f:Fr} {n:Nat} (h:Is a f n) {d:Option Nat} (hd:∀ t,d=some t->t<n) (v:Value):Is (a.put d v) (J1 f d v) n:=by
 cases d with
 | none=>exact h
 | some t=>exact h.put (hd t rfl) v
theorem c0e {ro:Option Nat} {o:Oper} {g:Fr} {w w1:World} {a:Act} {R:Value->World->Prop} {K:Act->World->Prop} {QQ:Exit->Act->World->Prop} (ha:Is a g n) (hs:Sim w w1)
  (h:a10 P o g w R) (k:∀ v w' w2,R v w'->Sim w' w2->K (a.put o.dst v) w2):o.wpIn (I8 ro) 0 P a w1 K QQ:=by
 rcases h with h | h | ⟨Kf,args,hr,hc⟩
 . obtain ⟨v,w2,w',hr,hs',r⟩:=h w1 hs
   refine b03 (by rw [ha.eval]; exact hr) (by simp_all) ?_
   rw [Oper.uponIn_value]; grind
 . obtain ⟨w2,w',hr,hs',r⟩:=h w1 hs
   refine b03 (by rw [ha.eval]; exact hr) (by simp_all) ?_
   rw [Oper.uponIn_skip]; grind
 . refine b03 (by rw [ha.eval]; exact hr w1 hs) (by simp_all) ?_
   rw [Oper.uponIn_enter]
   have:args.toList.toArray=args:=by simp
   have hc':=hc w1 hs
   rw [this] at hc'
   refine ⟨fun h=>(by cases h),a4x (Calls.mono hc' ?_)⟩
   grind
theorem c92 {ro:Option Nat} {i:Nat} {o:Oper} (ho:l[i]?=some o) {g:Fr} {w w1:World} {a:Act} {R:Value->World->Prop} {K:Act->World->Prop} {QQ:Exit->Act->World->Prop} (ha:Is a g n) (hs:Sim w w1)
  (hn:∀ (j:Nat) (t:Nat),o5 l j=some t->t<n) (h:c67 P l o g w R) (k:∀ v w' w2,R v w'->Sim w' w2->K (a.put o.dst v) w2):wpOpIn (I8 ro) 0 P l.toArray QQ i K a w1:=by
 unfold wpOpIn
 simp only [List.getElem?_toArray,ho]
 unfold c67 at h
 split at h
 . rename_i hg
   rw [if_pos (by simp [Region.wanted,hg])]
   exact c0e ha hs h k
 . rename_i j want hg
   obtain ⟨dj,x,hj,hx,h⟩:=h
   have hy:=K8 (ops:=l) ha hj (hn _ _ hj) hx
   rcases h with ⟨rfl,h⟩ | ⟨hx',r⟩
   . rw [if_pos (by simp [Region.wanted,hg,hy])]
     exact c0e ha hs h k
   . rw [if_neg (by rcases hx' with rfl | rfl <;> simp [Region.wanted,hg,hy,undef])]
     exact ⟨fun _ _=>trivial,k undef w w1 r hs⟩
structure Inv (l:List Oper) (I:World->Prop) (Φ:Nat->Value->World->Prop) (f0:Fr) (L:Array Bool) (g:Fr) (w:World):Prop where
 size:L.size=l.length
 world:I w
 done:∀ j t,L[j]?=some true->o5 l j=some t->Φ j (g t) w
 kept:∀ t,(∀ j,L[j]?=some true->o5 l j≠some t)->g t=f0 t
 closed:∀ (j:Nat) (o:Oper),L[j]?=some true->l[j]?=some o->∀ e∈o.after,Region.binds .any e=true->L[e.on]?=some true
def count (L:Array Bool):Nat:=(L.toList.filter (· = false)).length
theorem count_set {L:Array Bool} {i:Nat} (h:L[i]?=some false):count (L.setIfInBounds i true)+1=count L:=by
 obtain ⟨L⟩:=L
 simp only [List.getElem?_toArray] at h
 simp only [count,List.setIfInBounds_toArray]
 induction L generalizing i with
 | nil=>simp at h
 | cons b r ih =>
  cases i with
  | zero=>simp_all
  | succ i=>grind
theorem L4 {L:Array Bool} {i:Nat}:i∈Region.ready .any l.toArray L↔∃ o,l[i]?=some o/\L.getD i true=false/\∀ e∈o.after,Region.binds .any e=true->L.getD e.on false=true:=by
 unfold Region.ready
 rw [List.mem_filter]
 constructor
 . rintro ⟨_,h⟩
   cases ho:l[i]? with
   | none=>simp_all
   | some o =>
    simp [ho] at h
    refine ⟨o,rfl,by simp_all,fun e he hb=>?_⟩
    obtain ⟨k,hk⟩:=Array.getElem?_of_mem he
    have hlt:k<o.after.size:=by
     rcases Nat.lt_or_ge k o.after.size with h | h
     . exact h
     . simp_all
    have hk':o.after[k]=e:=by simpa [Array.getElem?_eq_getElem hlt] using hk
    have:=h.2 k hlt
    simp_all
 grind
theorem I4 {l:List Oper}:∀ {i:Nat} {o:Oper},l[i]?=some o->o5 l i=o.dst:=by
 induction l with
 | nil=>simp_all
 | cons x r ih=>intro i o h; cases i with
  | zero=>simp at h; subst h; rfl
  | succ i=>simp at h; simp [o5,ih h]
theorem T9 {l:List Oper}:∀ {i t:Nat},o5 l i=some t->∃ o,l[i]?=some o/\o.dst=some t:=by
 induction l with
 | nil=>intro i t h; simp [o5] at h
 | cons x r ih=>intro i t h; cases i with
  | zero=>exact ⟨x,rfl,h⟩
  | succ i=>obtain ⟨o,h1,h2⟩:=ih (i:=i) h; simp_all
theorem a19 {L:Array Bool} (ha:H3 l=true) (hs:L.size=l.length) (h:Region.ready .any l.toArray L=[]):∀ i,i<l.length->L[i]?=some true:=by
 intro i
 induction i using Nat.strongRecOn with
 | _ i ih =>
  intro hi
  have ho:l[i]?=some l[i]:=by simp [hi]
  cases hL:L[i]? with
  | none=>simp_all
  | some b =>
   cases b with
   | true=>rfl
   | false =>
    exfalso
    have hmem:i∈Region.ready .any l.toArray L:=by
     rw [L4]
     refine ⟨l[i],ho,by simp [hL],fun e he hb=>?_⟩
     have hlt:e.on<i:=by
      unfold H3 at ha
      rw [List.all_eq_true] at ha
      have:=ha (l[i],i) (by
       grind)
      simp only [List.all_eq_true] at this
      have:=this e (by simp_all)
      rw [hb] at this
      simpa [Nat.blt_eq] using this
     have:=ih e.on hlt (by omega)
     simp [this]
    simp_all
theorem c16 {ro:Option Nat} {ds:List Deferred} {I:World->Prop} {Φ:Nat->Value->World->Prop} (ha:H3 l=true) (hn:∀ (j:Nat) (t:Nat),o5 l j=some t->t<n)
  (hd:∀ (i j:Nat) (t:Nat),o5 l i=some t->o5 l j=some t->i=j)
  (step:∀ (i:Nat) (o:Oper) (L:Array Bool) (g:Fr) (w:World),l[i]?=some o->Inv l I Φ f0 L g w->L[i]?=some false->(∀ e∈o.after,Region.binds .any e=true->L[e.on]?=some true) ->
   c67 P l o g w (fun v w'=>I w'/\Φ i v w'/\∀ j u,Φ j u w->Φ j u w'))
  (fin:∀ g w,I w->(∀ j t,o5 l j=some t->Φ j (g t) w)->(∀ t,(∀ j,o5 l j≠some t)->g t=f0 t)->Q .normal g w) :
  ∀ (fuel:Nat) (L:Array Bool) (a:Act) (g:Fr) (w w1:World),count L=fuel->Is a g n->a.defers=ds->Sim w w1->Inv l I Φ f0 L g w->wpAnyIn (I8 ro) 0 P .any l.toArray (lift n ds Q) fuel L a w1:=by
 have finish:∀ (L:Array Bool) (a:Act) (g:Fr) (w w1:World),Is a g n->a.defers=ds->Sim w w1->Inv l I Φ f0 L g w->(∀ i,i<l.length->L[i]?=some true)->lift n ds Q .normal a w1:=by
  intro L a g w w1 hg hds hs hinv hall
  refine ⟨g,w,hg,hds,hs,fin g w hinv.world (fun j t hj=>?_) (fun t ht=>hinv.kept t fun j _=>ht j)⟩
  obtain ⟨o,ho,_⟩:=T9 hj
  have hlt:j<l.length:=by
   rcases Nat.lt_or_ge j l.length with h | h
   . exact h
   . simp_all
  exact hinv.done j t (hall j hlt) hj
 intro fuel
 induction fuel with
 | zero =>
  intro L a g w w1 hc hg hds hs hinv
  have hall:∀ i,i<l.length->L[i]?=some true:=by
   intro i hi
   cases hL:L[i]? with
   | none=>rw [Array.getElem?_eq_none_iff,hinv.size] at hL; omega
   | some b=>cases b with
    | true=>rfl
    | false=>have:=count_set hL; omega
  refine ⟨?_,finish L a g w w1 hg hds hs hinv hall⟩
  cases hr:Region.ready .any l.toArray L with
  | nil=>rfl
  | cons i r =>
   have hm:i∈Region.ready .any l.toArray L:=by rw [hr]; simp
   obtain ⟨o,ho,h1,_⟩:=L4.1 hm
   have hlt:i<l.length:=by
    rcases Nat.lt_or_ge i l.length with h | h
    . exact h
    . simp_all
   simp_all
 | succ fuel ih =>
  intro L a g w w1 hc hg hds hs hinv
  refine ⟨fun hr=>finish L a g w w1 hg hds hs hinv (a19 ha hinv.size hr),fun i hi=>?_⟩
  obtain ⟨o,ho,h1,h2⟩:=L4.1 hi
  have hlt:i<l.length:=by
   rcases Nat.lt_or_ge i l.length with h | h
   . exact h
   . simp_all
  have hLi:L[i]?=some false:=by
   have:i<L.size:=by rw [hinv.size]; exact hlt
   simp [this] at h1 ⊢
   exact h1
  have hdeps:∀ e∈o.after,Region.binds .any e=true->L[e.on]?=some true:=fun e he hb=>by
   have:=h2 e he hb
   cases hx:L[e.on]? with
   | none=>simp [hx] at this
   | some b=>simp_all
  refine c92 ho hg hs hn (step i o L g w ho hinv hLi hdeps) ?_
  rintro v w' w2 ⟨hI,hΦ,hst⟩ hs'
  have hdo:o5 l i=o.dst:=I4 ho
  refine ih _ _ (J1 g o.dst v) w' w2 (by have:=count_set hLi; omega) (hg.putO (d:=o.dst) (fun t ht=>hn i t (hdo.trans ht)) v) ((put_defers _ _ _).trans hds) hs' ?_
  have hget:∀ j,(L.setIfInBounds i true)[j]?=some true->j=i ∨ L[j]?=some true:=by
   intro j hj
   by_cases hji:j=i
   . omega
   . grind
  have hgo:∀ t,o.dst≠some t->J1 g o.dst v t=g t:=by
   intro t ht
   unfold J1
   cases hdd:o.dst with
   | none=>rfl
   | some u=>simp only; rw [H7,if_neg (fun e=>ht (by rw [hdd,e]))]
  refine ⟨by simp [hinv.size],hI,fun j t hj hjt=>?_,fun t ht=>?_,fun j p hj hp e he hb=>?_⟩
  . rcases hget j hj with rfl | hj'
    . rw [hdo] at hjt; unfold J1; simp only [hjt]; rw [H7,if_pos rfl]; exact hΦ
    . have hne:o.dst≠some t:=fun e=>by
        grind
      rw [hgo t hne]; exact hst j _ (hinv.done j t hj' hjt)
  . have hne:o.dst≠some t:=fun e=>ht i (by grind) (hdo.trans e)
    rw [hgo t hne]
    refine hinv.kept t fun j hj=>ht j ?_
    grind
  . have mark:L[e.on]?=some true->(L.setIfInBounds i true)[e.on]?=some true:=fun h=>by
      grind
    rcases hget j hj with rfl | hj'
    . rw [ho] at hp; cases hp; exact mark (hdeps e he hb)
    . exact mark (hinv.closed j p hj' hp e he hb)
theorem a1u {id:Nat} {w:World} {I:World->Prop} {Φ:Nat->Value->World->Prop} (hm:P.follows .mixedOrders=true) (ha:H3 l=true) (hn:∀ (j:Nat) (t:Nat),o5 l j=some t->t<n)
  (hd:∀ (i j:Nat) (t:Nat),o5 l i=some t->o5 l j=some t->i=j) (hI:I w)
  (step:∀ (i:Nat) (o:Oper) (L:Array Bool) (g:Fr) (w:World),l[i]?=some o->Inv l I Φ f0 L g w->L[i]?=some false->(∀ e∈o.after,Region.binds .any e=true->L[e.on]?=some true) ->
   c67 P l o g w (fun v w'=>I w'/\Φ i v w'/\∀ j u,Φ j u w->Φ j u w'))
  (fin:∀ g w,I w->(∀ j t,o5 l j=some t->Φ j (g t) w)->(∀ t,(∀ j,o5 l j≠some t)->g t=f0 t)->Q .normal g w) :
  W P n (.region id l.toArray true) Q f0 w:=fun a w1 hf hs ro=>by
 refine wpIn_region_any hm (c16 ha hn hd step fin _ _ a f0 w _ ?_ hf rfl (hs.trans (Sim.drawn _ _)) ?_)
 . simp [count]
 . have hrep:∀ j,(Array.replicate l.toArray.size false)[j]?≠some true:=fun j h=>by
     rw [Array.getElem?_replicate] at h; simp_all
   exact ⟨by simp,hI,fun j t hj=>absurd hj (hrep j),fun _ _=>rfl,fun j o hj=>absurd hj (hrep j)⟩
end
end Go.Wk
end
section
namespace Go.Wk
open Go
def b76 (acc:List Nat) (o:Oper):Nat:=o.after.toList.foldl (fun s e=>bif Region.binds .any e then (s ||| (1 <<< e.on)) ||| acc.getD e.on 0 else s) 0
def b13:List Oper->List Nat->List Nat
 | [],acc=>acc
 | o::r,acc=>b13 r (acc++[b76 acc o])
def a8p (l:List Oper):List Nat:=b13 l []
def a9r:List Oper->List Nat->Bool
 | [],_=>true
 | o::r,seen=>match o.dst with | some d=>!seen.contains d && a9r r (d::seen) | none=>false
def a6a (ms:List Nat) (i t:Nat):List Oper->Nat->Bool
 | [],_=>true
 | o::r,j=>(match o.dst with | some d=>!Nat.beq d t || (Nat.blt j i && (ms.getD i 0).testBit j) || (Nat.blt i j && (ms.getD j 0).testBit i) | none=>true) && a6a ms i t r (j+1)
def a4t (l:List Oper) (ms:List Nat):List Oper->Nat->Bool
 | [],_=>true
 | o::r,i=>(reads l o).all (fun t=>a6a ms i t l 0) && !a5p o && a4t l ms r (i+1)
def a9e (l:List Oper):Bool:=H3 l && a9r l [] && a4t l (a8p l) l 0
inductive Dep (l:List Oper):Nat->Nat->Prop
 | one {i:Nat} {o:Oper} {e:Edge}:l[i]?=some o->e∈o.after->Region.binds .any e=true->Dep l i e.on
 | trans {i k j:Nat}:Dep l i k->Dep l k j->Dep l i j
theorem c1t {l:List Oper} {i:Nat} {o:Oper} (ho:l[i]?=some o) {acc:List Nat} (hacc:∀ k j,(acc.getD k 0).testBit j=true->Dep l k j) :
  ∀ (es:List Edge) (s:Nat),(∀ e∈es,e∈o.after)->(∀ j,s.testBit j=true->Dep l i j)->∀ j,(es.foldl (fun s e=>bif Region.binds .any e then (s ||| (1 <<< e.on)) ||| acc.getD e.on 0 else s) s).testBit j=true->Dep l i j:=by
 intro es
 induction es with
 | nil=>simp_all
 | cons e r ih =>
  intro s he hs j h
  refine ih _ (fun e' h'=>he e' (by simp [h'])) ?_ j h
  intro j hj
  cases hb:Region.binds .any e with
  | false=>simp_all
  | true =>
   simp only [hb,cond_true,Nat.testBit_or,Bool.or_eq_true] at hj
   have hd:Dep l i e.on:=.one ho (he e (by simp)) hb
   rcases hj with (hj | hj) | hj
   . exact hs j hj
   . rw [Nat.one_shiftLeft,Nat.testBit_two_pow] at hj
     simp_all
   . exact .trans hd (hacc _ _ hj)
theorem b34 {l:List Oper}:∀ (r:List Oper) (acc:List Nat),(∀ k,r[k]?=l[acc.length+k]?)->(∀ k j,(acc.getD k 0).testBit j=true->Dep l k j)->∀ k j,((b13 r acc).getD k 0).testBit j=true->Dep l k j:=by
 intro r
 induction r with
 | nil=>intro acc _ h; exact h
 | cons o r ih =>
  intro acc hr hacc
  refine ih (acc++[b76 acc o]) (fun k=>?_) ?_
  . have:=hr (k+1); grind
  . intro k j h
    by_cases hk:k<acc.length
    . grind
    . by_cases hk':k=acc.length
      . subst hk'
        have ho:l[acc.length]?=some o:=by have:=hr 0; simpa using this.symm
        refine c1t ho hacc o.after.toList 0 (fun e he=>by simpa using he) (by simp) j ?_
        simpa [List.getD_eq_getElem?_getD,b76] using h
      grind
theorem U1 {l:List Oper} (k j:Nat) (h:((a8p l).getD k 0).testBit j=true):Dep l k j :=
 b34 l [] (by simp) (by simp) k j h
def a02:List Oper->List Value->Fr->Nat->Fr
 | o::l,v::vs,f,i+1=>a02 l vs (J1 f o.dst v) i
 | _,_,f,_=>f
section
variable {P:Program} {n:Nat} {Q:Exit->Fr->World->Prop}
theorem c8p {ops:List Oper} {w:World}:∀ {l:List Oper} {f:Fr},QL P n ops Q l f w->∃ vs:List Value,vs.length=l.length /\
  (∀ i o,l[i]?=some o->∃ d b v,o.dst=some d/\d<n/\vs[i]?=some v/\c5w ops n (a02 l vs f i) o.guard b/\(b=true->d4d P o (a02 l vs f i) w v)/\(b=false->v=undef))/\Q .normal (a02 l vs f l.length) w:=by
 intro l
 induction l with
 | nil=>intro f h; exact ⟨[],rfl,by simp,h⟩
 | cons o r ih =>
  intro f h
  obtain ⟨d,b,v,hd,hn,hw,hr,hu,k⟩:=h
  obtain ⟨vs,hl,hs,hq⟩:=ih k
  refine ⟨v::vs,by simp [hl],fun i o' ho'=>?_,by simpa [a02,J1,hd] using hq⟩
  cases i with
  | zero=>simp at ho'; subst ho'; exact ⟨d,b,v,hd,hn,rfl,hw,hr,hu⟩
  | succ i =>
   simp at ho'
   obtain ⟨d',b',v',h1,h2,h3,h4,h5,h6⟩:=hs i o' ho'
   exact ⟨d',b',v',h1,h2,by simpa using h3,by simpa [a02,J1,hd] using h4,by simpa [a02,J1,hd] using h5,h6⟩
theorem b4i:∀ {l:List Oper} {seen:List Nat},a9r l seen=true->(∀ (i:Nat) (o:Oper),l[i]?=some o->∃ d,o.dst=some d/\d ∉ seen)/\(∀ (i j t:Nat),o5 l i=some t->o5 l j=some t->i=j):=by
 intro l
 induction l with
 | nil=>intro seen _; exact ⟨fun i o h=>by simp at h,fun i j t h=>by simp [o5] at h⟩
 | cons o r ih =>
  intro seen h
  unfold a9r at h
  cases hd:o.dst with
  | none=>simp_all
  | some d =>
   rw [hd] at h
   simp at h
   obtain ⟨h1,h2⟩:=ih h.2
   refine ⟨fun i o' ho'=>?_,fun i j t hi hj=>?_⟩
   . grind
   . cases i with
     | zero=>cases j with
      | zero=>rfl
      | succ j =>
       exfalso
       simp only [o5,hd] at hi hj
       cases hi
       obtain ⟨o',ho',hdo⟩:=T9 hj
       grind
     | succ i=>cases j with
      | zero =>
       exfalso
       simp only [o5,hd] at hi hj
       cases hj
       obtain ⟨o',ho',hdo⟩:=T9 hi
       grind
      | succ j=>exact congrArg (· + 1) (h2 i j t hi hj)
theorem c2x:∀ {l:List Oper} {vs:List Value} {f:Fr} {i t:Nat},vs.length=l.length->(∀ i j t,o5 l i=some t->o5 l j=some t->i=j) ->
  (∀ j,o5 l j=some t->j<i->vs[j]?=some (a02 l vs f i t))/\((∀ j,o5 l j=some t->i<=j)->a02 l vs f i t=f t):=by
 intro l
 induction l with
 | nil=>intro vs f i t _ _; exact ⟨fun j h=>by simp [o5] at h,fun _=>by simp [a02]⟩
 | cons o r ih =>
  intro vs f i t hl hd
  cases vs with
  | nil=>simp at hl
  | cons v vs =>
   have hd':∀ i j t,o5 r i=some t->o5 r j=some t->i=j:=fun i j t h1 h2=>by have:=hd (i+1) (j+1) t h1 h2; omega
   cases i with
   | zero=>exact ⟨fun j _ h=>by omega,fun _=>rfl⟩
   | succ i =>
    obtain ⟨h1,h2⟩:=ih (vs:=vs) (f:=J1 f o.dst v) (i:=i) (t:=t) (by simpa using hl) hd'
    refine ⟨fun j hj hlt=>?_,fun h=>?_⟩
    . cases j with
      | zero =>
       have hn:∀ j,o5 r j=some t->i<=j:=fun j hj'=>by have:=hd 0 (j+1) t hj hj'; omega
       have ho:o.dst=some t:=hj
       simp only [a02]
       rw [h2 hn]
       simp [J1,ho,H7]
      | succ j=>simpa [a02] using h1 j hj (by omega)
    . have ho:o.dst≠some t:=fun e=>by have:=h 0 e; omega
      simp only [a02]
      rw [h2 (fun j hj=>by have:=h (j+1) hj; omega)]
      cases hdd:o.dst with
      | none=>rfl
      | some u=>simp only [J1]; rw [H7,if_neg (fun e=>ho (by rw [hdd,e]))]
theorem b31 {l:List Oper} {ms:List Nat} {i t:Nat}:∀ {r:List Oper} {k:Nat},(∀ x,r[x]?=l[k+x]?)->a6a ms i t r k=true->∀ j,k<=j->o5 l j=some t->(j<i/\(ms.getD i 0).testBit j=true) ∨ (i<j/\(ms.getD j 0).testBit i=true):=by
 intro r
 induction r with
 | nil =>
  intro k hr _ j hj hd
  obtain ⟨o,ho,_⟩:=T9 hd
  have:=hr (j-k)
  simp_all
 | cons o r ih =>
  intro k hr h j hj hd
  unfold a6a at h
  rw [Bool.and_eq_true] at h
  by_cases hjk:j=k
  . subst hjk
    have ho:l[j]?=some o:=by have:=hr 0; simpa using this.symm
    rw [I4 ho] at hd
    simp_all
  . exact ih (k:=k+1) (fun x=>by have:=hr (x+1); grind) h.2 j (by omega) hd
theorem b0r {l:List Oper} {ms:List Nat}:∀ {r:List Oper} {k:Nat},(∀ x,r[x]?=l[k+x]?)->a4t l ms r k=true->∀ i o,k<=i->l[i]?=some o->a5p o=false/\∀ t∈reads l o,a6a ms i t l 0=true:=by
 intro r
 induction r with
 | nil =>
  intro k hr _ j o hj ho
  have:=hr (j-k)
  simp_all
 | cons o r ih =>
  intro k hr h j o' hj ho'
  unfold a4t at h
  rw [Bool.and_eq_true,Bool.and_eq_true] at h
  by_cases hjk:j=k
  . subst hjk
    have ho:l[j]?=some o:=by have:=hr 0; simpa using this.symm
    simp_all
  . exact ih (k:=k+1) (fun x=>by have:=hr (x+1); grind) h.2 j o' (by omega) ho'
theorem Dep.listed {l:List Oper} {I:World->Prop} {Φ:Nat->Value->World->Prop} {f0:Fr} {L:Array Bool} {g:Fr} {w:World} (hinv:Inv l I Φ f0 L g w) {i j:Nat} (hd:Dep l i j) :
  (∀ o,l[i]?=some o->∀ e∈o.after,Region.binds .any e=true->L[e.on]?=some true)->L[j]?=some true:=by
 induction hd with
 | one ho he hb=>simp_all
 | trans _ _ ih1 ih2=>intro h; exact ih2 fun o ho e he hb=>hinv.closed _ o (ih1 h) ho e he hb
theorem a62 {id:Nat} {l:List Oper} {f:Fr} {w:World} (hm:P.follows .mixedOrders=true) (hk:a9e l=true) (h:WL P true n l Q l f w):W P n (.region id l.toArray true) Q f w:=by
 unfold a9e at hk
 rw [Bool.and_eq_true,Bool.and_eq_true] at hk
 obtain ⟨⟨ha,hd⟩,hr⟩:=hk
 obtain ⟨hdst,huniq⟩:=b4i hd
 obtain ⟨vs,hl,hs,hq⟩:=c8p (show QL P n l Q l f w from h)
 have hget:=fun i t=>c2x (l:=l) (vs:=vs) (f:=f) (i:=i) (t:=t) hl huniq
 refine a1u (I:=fun v=>v=w) (Φ:=fun i v _=>vs[i]?=some v) hm ha (fun j t hj=>?_) huniq rfl ?_ ?_
 . obtain ⟨o,ho,hdo⟩:=T9 hj
   grind
 . intro i o L g w' ho hinv hLi hdeps
   have hw':w'=w:=hinv.world
   subst hw'
   obtain ⟨d,b,v,h1,h2,h3,h4,h5,h6⟩:=hs i o ho
   obtain ⟨hsel,hro⟩:=b0r (l:=l) (ms:=a8p l) (r:=l) (k:=0) (by simp) hr i o (Nat.zero_le _) ho
   have agree:∀ t∈reads l o,g t=a02 l vs f i t:=by
    intro t ht
    have hso:=b31 (l:=l) (r:=l) (k:=0) (by simp) (hro t ht)
    by_cases hex:∃ j,o5 l j=some t
    . obtain ⟨j,hj⟩:=hex
      rcases hso j (Nat.zero_le _) hj with ⟨hlt,hb⟩ | ⟨hlt,hb⟩
      . have hL:L[j]?=some true:=(U1 i j hb).listed hinv fun o' ho'=>by rw [ho] at ho'; cases ho'; exact hdeps
        have e1:=hinv.done j t hL hj
        grind
      . have hL:∀ k,L[k]?=some true->o5 l k≠some t:=fun k hk hkt=>by
          have:=huniq j k t hj hkt
          subst this
          have:=(U1 j i hb).listed hinv fun o' ho' e he hbe=>hinv.closed j o' hk ho' e he hbe
          simp_all
        rw [hinv.kept t hL,(hget i t).2 fun k hk=>by grind]
    . rw [hinv.kept t fun k _ hk=>hex ⟨k,hk⟩,(hget i t).2 fun k hk=>absurd ⟨k,hk⟩ hex]
   have hops:∀ x∈o.op.operands,ev g x=ev (a02 l vs f i) x:=by
    intro x hx
    cases x with
    | tmp t =>
     refine agree t ?_
     unfold reads c37
     refine List.mem_append_left _ (List.mem_filterMap.2 ⟨.tmp t,by simpa using hx,rfl⟩)
    | _=>rfl
   have hrun:b=true->a10 P o g w' (fun u w''=>w''=w'/\vs[i]?=some u/\∀ (j:Nat) (u':Value),vs[j]?=some u'->vs[j]?=some u'):=fun hb =>
    .inl fun w1 hw1=>⟨v,w1,w',by
     rw [execOp_congr o (fun cs bb e=>by simp [a5p,e] at hsel) hops]
     exact h5 hb w1 hw1,hw1,rfl,h3,fun _ _ h=>h⟩
   unfold c67
   cases hg:o.guard with
   | none=>rw [hg] at h4; exact hrun h4
   | some jw =>
    obtain ⟨j,want⟩:=jw
    rw [hg] at h4
    obtain ⟨dj,hj,hdn,hcase⟩:=h4
    have hgd:g dj=a02 l vs f i dj:=agree dj (by
     unfold reads
     rw [hg]
     refine List.mem_append_right _ ?_
     simp [hj])
    grind
 . intro g w' hw' hdone hkept
   subst hw'
   have:g=a02 l vs f l.length:=by
    funext t
    by_cases hex:∃ j,o5 l j=some t
    . grind
    . rw [hkept t fun j hj=>hex ⟨j,hj⟩,(hget l.length t).2 fun j hj=>absurd ⟨j,hj⟩ hex]
   rw [this]; exact hq
end
end Go.Wk
end
section
namespace Go.Wk
open Go
def Own (w:World) (b:Nat) (T:TypeId) (cs:List Value):Prop:=w.heap[b]?=some (.cells cs.toArray T (0,0))
theorem Own.lt {w:World} {b:Nat} {T:TypeId} {cs:List Value} (h:Own w b T cs):b<w.heap.size:=V1 h
theorem Own.ext {B:List Nat} {w w':World} {b:Nat} {T:TypeId} {cs:List Value} (h:Own w b T cs) (e:Ext B w w') (hb:b ∉ B):Own w' b T cs:=e.get hb h
theorem Own.cells {w:World} {b:Nat} {T:TypeId} {cs:List Value} (h:Own w b T cs) (o:Nat) (c r:List Value) (e:cs.drop o=c++r):Cells w b o c :=
 ⟨_,_,_,h,fun j hj=>by
  have:(cs.drop o)[j]?=c[j]? := by rw [e,List.getElem?_append_left hj]
  grind⟩
theorem Own.all {w:World} {b:Nat} {T:TypeId} {cs:List Value} (h:Own w b T cs):Cells w b 0 cs:=h.cells 0 cs [] (by simp)
theorem Ext.push (w:World) (o:Obj):Ext [] w { w with heap:=w.heap.push o } :=
 ⟨rfl,rfl,rfl,by simp,fun b hb _=>by grind⟩
theorem Own.push (w:World) (T:TypeId) (cs:Array Value):Own { w with heap:=w.heap.push (.cells cs T) } w.heap.size T cs.toList:=by
 simp [Own]
def v7 (cs:List Value) (o:Nat):List Value->List Value
 | []=>cs
 | v::r=>v7 (cs.set o v) (o+1) r
theorem B8 (c:List Value):∀ (cs:List Value) (o:Nat),(v7 cs o c).length=cs.length:=by
 induction c with
 | nil=>intro cs o; rfl
 | cons v r ih=>intro cs o; simp [v7,ih]
theorem Own.setCell {w:World} {b:Nat} {T:TypeId} {cs:List Value} (h:Own w b T cs) (o:Nat) (v:Value) :
  Own (w.setCell ⟨b,o,none⟩ v) b T (cs.set o v)/\Ext [b] w (w.setCell ⟨b,o,none⟩ v)/\(w.setCell ⟨b,o,none⟩ v).heap.size=w.heap.size:=by
 refine ⟨?_,⟨rfl,rfl,rfl,by simp_all,fun k hk hb=>?_⟩,by simp_all⟩
 . unfold Own at h ⊢
   simp [World.setCell,Array.getElem?_modify,h]
 . simp [World.setCell,Array.getElem?_modify]
   grind
theorem a84 {P:Program} {w:World} {b o:Nat} {T:TypeId} {cs:List Value} {v:Value} (h:Own w b T cs) (ho:o<cs.length) (hv:w5 v=true) :
  (store ⟨b,o,none⟩ v).run P w=.ok () (w.setCell ⟨b,o,none⟩ v):=by
 have hc:w.cell? ⟨b,o,none⟩=some cs[o]:=by unfold Own at h; simp [World.cell?,h,ho]
 have hf:w.frozen? ⟨b,o,none⟩=false:=by unfold Own at h; simp [World.frozen?,h]
 unfold store
 cases v <;> first | (simp [w5] at hv; done) | simp [Sem.run,hc,hf]
theorem Z7 {P:Program} {b:Nat} {T:TypeId}:∀ (c:List Value) (o i:Nat) (cs:List Value) (w:World),Own w b T cs->o+i+c.length<=cs.length->(∀ v∈c,w5 v=true) ->
  ∃ w',(storeCells ⟨b,o,none⟩ c i).run P w=.ok () w'/\Own w' b T (v7 cs (o+i) c)/\Ext [b] w w'/\w'.heap.size=w.heap.size/\(∀ k,(storeCells ⟨b,o,none⟩ c i).run P { w with drawn:=k }=.ok () { w' with drawn:=k }):=by
 intro c
 induction c with
 | nil=>intro o i cs w h _ _; exact ⟨w,rfl,h,Ext.refl _ _,rfl,fun _=>rfl⟩
 | cons v r ih =>
  intro o i cs w h hl hv
  have e:(Addr.add ⟨b,o,none⟩ i)=⟨b,o+i,none⟩:=by
   unfold Addr.add; split
   . simp_all
   . rfl
  simp at hl
  obtain ⟨h1,h2,h3⟩:=h.setCell (o+i) v
  have hrun:=a84 (P:=P) h (o:=o+i) (v:=v) (by omega) (hv v (by simp))
  obtain ⟨w',hr,ho,he,hs,hk⟩:=ih o (i+1) _ _ h1 (by simp; omega) (fun u hu=>hv u (by simp [hu]))
  refine ⟨w',?_,by simpa [v7,Nat.add_assoc] using ho,h2.trB he,by rw [hs,h3],fun k=>?_⟩
  . simp only [storeCells,e,Sem.run_bind,hrun,Result.andThen_ok,hr]
  . have hrun':=a84 (P:=P) (w:={ w with drawn:=k }) h (o:=o+i) (v:=v) (by omega) (hv v (by simp))
    simp only [storeCells,e,Sem.run_bind,hrun',Result.andThen_ok]
    exact hk k
section
variable {P:Program} {n:Nat} {ops:List Oper} {Q:Exit->Fr->World->Prop} {rest:List Oper} {f:Fr} {w:World} {d:Nat} {v:Value} {M:List Nat}
variable {ty T T' T2 E:TypeId} {pos:String} {after:Array Edge} {x y z:Operand} {k:IntKind} {a b c:Int} {p q:Bool}
theorem b9k {o:Oper} {e:TypeId} {cs:Array Value} {mk:Nat->Value} (hg:o.guard=none) (hd:o.dst=some d) (hn:Nat.blt d n=true)
  (hr:∀ w1,(execOp (ev f) o).run P w1=.ok (.value (mk w1.heap.size)) { w1 with heap:=w1.heap.push (.cells cs e) })
  (K:∀ b w',Ext [] w w'->w.heap.size=b->w'.heap.size=b+1->Own w' b e cs.toList->WL P false n ops Q rest (upd f d (mk b)) w'):WL P false n ops Q (o::rest) f w :=
 a2f hg hd hn fun w1 hs=>by
  obtain ⟨k,rfl⟩:=hs
  exact ⟨_,_,{ w with heap:=w.heap.push (.cells cs e) },hr _,⟨k,rfl⟩,K w.heap.size _ (Ext.push w _) rfl (by simp) (Own.push w e cs)⟩
theorem c9x {zv:Value} (hz:∀ w,(zeroValue T).run P w=.ok zv w) (hn:Nat.blt d n=true)
  (K:∀ b w',Ext [] w w'->w.heap.size=b->w'.heap.size=b+1->Own w' b T zv.cells.toList->WL P false n ops Q rest (upd f d (.pointer (some ⟨b,0,none⟩))) w') :
  WL P false n ops Q (⟨some d,.alloc T,ty,pos,after,none⟩::rest) f w :=
 b9k (mk:=fun b=>.pointer (some ⟨b,0,none⟩)) rfl rfl hn (fun w1=>by simp [execOp,Instr.alloc,hz,newVar,newRow,newObj,Sem.run,go_sem]) K
theorem d8j (hn:Nat.blt d n=true)
  (K:∀ b w',Ext [] w w'->w.heap.size=b->w'.heap.size=b+1->Own w' b T (ev f x).cells.toList->WL P false n ops Q rest (upd f d (.pointer (some ⟨b,0,none⟩))) w') :
  WL P false n ops Q (⟨some d,.box T x,ty,pos,after,none⟩::rest) f w :=
 b9k (mk:=fun b=>.pointer (some ⟨b,0,none⟩)) rfl rfl hn (fun w1=>by simp [execOp,Instr.box,newVar,newRow,newObj,Sem.run,go_sem]) K
theorem c8n {b o mm:Nat} {cs c:List Value} (hz:∀ w,(sizeOf T).run P w=.ok mm w) (hx:ev f x=.pointer (some ⟨b,o,none⟩)) (hc:(ev f y).cells.toList=c) (hm:c.length=mm) (ho:Own w b E cs) (hl:o+mm<=cs.length) (hp:c.all w5=true)
  (K:∀ w',Ext [b] w w'->w'.heap.size=w.heap.size->Own w' b E (v7 cs o c)->WL P false n ops Q rest f w') :
  WL P false n ops Q (⟨none,.store T x y,ty,pos,after,none⟩::rest) f w :=
 c0f rfl rfl fun w1 hs=>by
  obtain ⟨k,rfl⟩:=hs
  obtain ⟨w',hr,ho',he,hsz,hk⟩:=Z7 (P:=P) c o 0 cs w ho (by omega) (fun v hv=>by simp_all)
  refine ⟨_,w',?_,⟨k,rfl⟩,K w' he hsz (by omega)⟩
  have hsize:(ev f y).cells.size=mm:=by rw [<- Array.length_toList,hc,hm]
  have hrun:(storeVar T ⟨b,o,none⟩ (ev f y)).run P { w with drawn:=k }=.ok () { w' with drawn:=k }:=by
   unfold storeVar
   simp only [Sem.run_bind,hz,Result.andThen_ok]
   rw [if_neg (by omega),hc]
   exact hk k
  simp only [execOp,hx,Instr.storeAt,Instr.sureAddr,Sem.run_bind,Sem.run_pure,Result.andThen_ok,hrun]
theorem b26 {b o mm cap sz:Nat} {i:Int} {m:Bool} (hT:∀ w,(underlying T).run P w=.ok (.slice E) w) (hE:∀ w,(sizeOf E).run P w=.ok sz w) (hx:ev f x=.slice (some ⟨b,o,none⟩) mm cap) (hy:ev f y=.int k i)
  (h0:0<=i) (h1:i<mm) (hn:Nat.blt d n=true) (K:WL P m n ops Q rest (upd f d (.pointer (some ⟨b,o+i.toNat * sz,none⟩))) w) :
  WL P m n ops Q (⟨some d,.indexAddr T x y,ty,pos,after,none⟩::rest) f w :=
 n6 rfl rfl hn (v:=.pointer (some ⟨b,o+i.toNat * sz,none⟩)) (fun w1 _=>by
  simp only [execOp,hx,hy,Sem.run_bind,T4 hT hE h0 h1]
  rfl) K
end
theorem c23 {v:Value} (h:w5 v=true):v.cells=#[v]:=by cases v <;> first | rfl | (simp [w5] at h)
theorem a8n {cs:Array Value}:∀ (c:List Value) (k off:Nat) (acc:Array Value),((c.zipIdx k).foldl (fun cs (c,j)=>cs.setIfInBounds (off+j) c) acc).toList=v7 acc.toList (off+k) c:=by
 intro c
 induction c with
 | nil=>intro k off acc; rfl
 | cons v r ih =>
  intro k off acc
  simp only [List.zipIdx_cons,List.foldl_cons,v7]
  rw [ih (k+1) off]
  grind
theorem a7t:∀ (c:List Value) (u x r:List Value),x.length=c.length->v7 (u++x++r) u.length c=u++c++r:=by
 intro c
 induction c with
 | nil=>intro u x r h; simp at h; subst h; simp [v7]
 | cons v c ih =>
  intro u x r h
  match x,h with
  | y::x,h =>
   simp only [v7]
   have:(u++y::x++r).set u.length v=(u++[v])++x++r:=by simp [List.set_append]
   grind
def Q9 {α:Type}:Nat->List (Nat×α)->Bool
 | _,[]=>true
 | i,(j,_)::r=>Nat.beq j i && Q9 (i+1) r
theorem c32 {sz:Nat}:∀ (ps:List (Nat×Value)) (u x:List Value) (i:Nat),Q9 i ps=true->u.length=i * sz->x.length=ps.length * sz->(∀ p∈ps,p.2.cells.size=sz) ->
  Instr.fill (fun i=>some (i * sz,sz)) (u++x).toArray ps=some (u++ps.flatMap fun p=>p.2.cells.toList).toArray:=by
 intro ps
 induction ps with
 | nil=>intro u x i _ hu hx _; simp at hx; subst hx; simp [Instr.fill]
 | cons p r ih =>
  intro u x i ho hu hx hs
  obtain ⟨j,v⟩:=p
  simp only [Q9,Bool.and_eq_true] at ho
  have hj:j=i:=Nat.eq_of_beq_eq_true ho.1
  subst hj
  have hv:v.cells.size=sz:=hs (j,v) (by simp)
  have hx':x.length=sz+r.length * sz:=by rw [hx,List.length_cons,Nat.add_mul]; omega
  obtain ⟨x1,x2,rfl,h1,h2⟩:∃ x1 x2,x=x1++x2/\x1.length=sz/\x2.length=r.length * sz:=⟨x.take sz,x.drop sz,by simp,by simp; omega,by simp; omega⟩
  have hif:((v.cells.size≠sz:Bool) || (j * sz+v.cells.size > (u++(x1++x2)).toArray.size:Bool))=false:=by
   simp [hv,hu,h1]
  simp only [Instr.fill]
  rw [if_neg (by simp_all)]
  have hfold:(v.cells.zipIdx.foldl (fun cs (c,k)=>cs.setIfInBounds (j * sz+k) c) (u++(x1++x2)).toArray)=(u++v.cells.toList++x2).toArray:=by
   apply Array.ext'
   rw [<- Array.foldl_toList,Array.toList_zipIdx]
   have:=a8n (cs:=#[]) v.cells.toList 0 (j * sz) (u++(x1++x2)).toArray
   rw [this]
   simp only [List.toList_toArray,Nat.add_zero]
   rw [<- hu,<- List.append_assoc]
   exact a7t _ _ _ _ (by simp [h1,hv])
  rw [hfold,ih (u++v.cells.toList) x2 (j+1) ho.2 (by simp [hu,hv,Nat.add_mul]) h2 (fun p hp=>hs p (by simp [hp]))]
  simp
section
variable {P:Program} {n:Nat} {ops:List Oper} {Q:Exit->Fr->World->Prop} {rest:List Oper} {f:Fr} {w:World} {d:Nat} {v:Value} {M:List Nat}
variable {ty T T' T2 E:TypeId} {pos:String} {after:Array Edge} {x y z:Operand}
theorem a2k {len sz:Nat} {ps:Array (Nat×Operand)} {vs:List (Nat×Value)} {zv:Value} {cs:List Value} (hT:∀ w,(underlying T).run P w=.ok (.slice E) w) (hE:∀ w,(sizeOf E).run P w=.ok sz w) (hz:∀ w,(zeroValue E).run P w=.ok zv w)
  (hv:ps.toList.map (fun p=>(p.1,ev f p.2))=vs) (hlen:vs.length=len) (hord:Q9 0 vs=true) (hsz:vs.all (fun p=>Nat.beq p.2.cells.size sz)=true) (hcs:(vs.flatMap fun p=>p.2.cells.toList)=cs) (hsmall:Nat.ble (len * sz) 16777216=true) (hn:Nat.blt d n=true)
  (K:∀ b w',Ext [] w w'->w.heap.size=b->w'.heap.size=b+1->Own w' b E cs->WL P false n ops Q rest (upd f d (.slice (some ⟨b,0,none⟩) len len)) w') :
  WL P false n ops Q (⟨some d,.buildSlice T len ps,ty,pos,after,none⟩::rest) f w:=by
 subst hcs
 refine b9k (mk:=fun b=>.slice (some ⟨b,0,none⟩) len len) (e:=E) (cs:=(vs.flatMap fun p=>p.2.cells.toList).toArray) rfl rfl hn (fun w1=>?_) (fun b w' h1 h2 h3 h4=>K b w' h1 h2 h3 (by omega))
 have hmap:(ps.map fun p=>(p.1,ev f p.2)).toList=vs:=by rw [<- hv]; simp
 have hall:∀ p∈vs,p.2.cells.size=sz:=fun p hp=>by rw [List.all_eq_true] at hsz; exact Nat.eq_of_beq_eq_true (hsz p hp)
 have hle:len * sz<=16777216:=Nat.le_of_ble_eq_true hsmall
 have key:∀ z:Array Value,Instr.fill (fun i=>some (i * sz,sz)) ((Array.range (len * sz)).map (fun i=>z[i % z.size]!)) (ps.map fun p=>(p.1,ev f p.2)).toList=some (vs.flatMap fun p=>p.2.cells.toList).toArray:=by
  intro z
  have hf:=c32 (sz:=sz) vs [] ((Array.range (len * sz)).map (fun i=>z[i % z.size]!)).toList 0 hord (by simp) (by simp [hlen]) hall
  rw [hmap]
  simp only [List.nil_append,Array.toArray_toList] at hf
  exact hf
 simp only [execOp,Instr.buildSlice,Sem.run_bind,hT,hE,Result.andThen_ok]
 rw [if_neg (by omega)]
 by_cases h0:len * sz=0
 . have hf:=key #[]
   simp only [h0,if_true,Sem.run_bind,Sem.run_pure,Result.andThen_ok]
   rw [h0] at hf
   simp only [hf,newRow,newObj,Sem.run_bind,Sem.run_pure,Result.andThen_ok,Sem.run]
 . have hf:=key zv.cells
   simp only [h0,if_false,Sem.run_bind,hz,Sem.run_pure,Result.andThen_ok]
   simp only [hf,newRow,newObj,Sem.run_bind,Sem.run_pure,Result.andThen_ok,Sem.run]
end
end Go.Wk
end
section
namespace Go.Wk
open Go
theorem P4:∀ (c cs:List Value) (o k:Nat),o+c.length<=cs.length->(v7 cs o c)[k]?=if o<=k/\k<o+c.length then c[k-o]? else cs[k]? := by
 intro c
 induction c with
 | nil=>intro cs o k _; simp [v7]; omega
 | cons v r ih =>
  intro cs o k h
  simp at h
  simp only [v7]
  grind
theorem c2e (newLen:Nat):∀ (rounds c:Nat),c<newLen->256<=c->Builtin.growBy newLen rounds c<=2 * newLen:=by
 intro rounds
 induction rounds with
 | zero=>intro c h _; simp [Builtin.growBy]; omega
 | succ r ih =>
  intro c h h2
  simp only [Builtin.growBy]
  rw [if_neg (by omega)]
  by_cases h3:c+(c+768) / 4<newLen
  . grind
  . cases r with
    | zero=>simp [Builtin.growBy]; omega
    | succ r=>simp only [Builtin.growBy]; grind
theorem nextslicecap_le {need cap:Nat} (h:cap<need):Builtin.nextslicecap need cap<=2 * need:=by
 unfold Builtin.nextslicecap
 split
 . omega
 . split
   . omega
   . exact c2e _ _ _ h (by omega)
def Acc {α:Type} (r:Rep α) (M:List Nat) (w:World) (v:Value) (l:List α) (bs:List Nat):Prop :=
 (v=.slice none 0 0/\l=[]/\bs=[]) ∨
 ∃ b cap C T,v=.slice (some ⟨b,0,none⟩) l.length cap/\bs=[b]/\Own w b T C/\C.length=cap * r.sz/\l.length<=cap/\b ∉ M /\
  ∀ i (h:i<l.length),∃ c,c.length=r.sz/\(∀ j,j<r.sz->C[i * r.sz+j]?=c[j]?)/\r.rd (b::M) w c l[i]
section
variable {α:Type} {r:Rep α} {M M' B bs:List Nat} {w w':World} {v:Value} {l:List α}
theorem Acc.val (h:Acc r M w v l bs):∃ A cap,v=.slice A l.length cap:=by
 rcases h with ⟨rfl,rfl,rfl⟩ | ⟨b,cap,C,T,rfl,_⟩
 all_goals simp_all
theorem Acc.ext (h:Acc r M w v l bs) (e:Ext B w w') (hB:∀ b∈B,b∈M ∨ w.heap.size<=b):Acc r M w' v l bs:=by
 rcases h with h | ⟨b,cap,C,T,hv,hb,ho,hC,hl,hM,hc⟩
 . exact .inl h
 . have hlt:=ho.lt
   refine .inr ⟨b,cap,C,T,hv,hb,ho.ext e (fun hm=>by grind),hC,hl,hM,fun i hi=>?_⟩
   obtain ⟨c,h1,h2,h3⟩:=hc i hi
   exact ⟨c,h1,h2,r.mono h3 e (fun x hx=>by grind) (fun x hx=>.inl hx)⟩
theorem Acc.weak (h:Acc r M w v l bs) (hM:∀ b∈M',b∈M ∨ w.heap.size<=b):Acc r M' w v l bs:=by
 rcases h with h | ⟨b,cap,C,T,hv,hb,ho,hC,hl,hn,hc⟩
 . exact .inl h
 . have hlt:=ho.lt
   refine .inr ⟨b,cap,C,T,hv,hb,ho,hC,hl,fun hm=>(by grind),fun i hi=>?_⟩
   obtain ⟨c,h1,h2,h3⟩:=hc i hi
   exact ⟨c,h1,h2,r.mono h3 (Ext.refl [] w) (by simp) (fun x hx=>by
    grind)⟩
theorem Acc.rd (h:Acc r M w v l bs) (hl:l.length<=9223372036854775807):(c40 r).rd M w [v] l:=by
 rcases h with ⟨rfl,rfl,rfl⟩ | ⟨b,cap,C,T,rfl,rfl,ho,hC,hcap,hb,hc⟩
 . exact b7w
 . refine ⟨hl,_,_,rfl,(fun h=>by cases h),fun i hi=>?_⟩
   obtain ⟨c,h1,h2,h3⟩:=hc i hi
   exact ⟨b,0,c,rfl,hb,⟨_,_,_,ho,fun j hj=>by
    simp_all⟩,r.mono h3 (Ext.refl [] w) (by simp) (fun x hx=>.inl (by simp [hx]))⟩
end
theorem C5 {cs:List (List Value)} {sz:Nat} (h:∀ c∈cs,c.length=sz):∀ i j,j<sz->cs.flatten[i * sz+j]?=(cs[i]?).bind (·[j]?):=by
 induction cs with
 | nil=>simp_all
 | cons c cs ih =>
  intro i j hj
  have hc:c.length=sz:=h c (by simp)
  cases i with
  | zero=>grind
  | succ i =>
   rw [List.flatten_cons,List.getElem?_append_right (by grind),hc]
   rw [show (i+1) * sz+j-sz=i * sz+j by grind]
   simp_all
theorem E4 {cs:List (List Value)} {sz:Nat} (h:∀ c∈cs,c.length=sz):cs.flatten.length=cs.length * sz:=by
 induction cs with
 | nil=>simp
 | cons c cs ih=>grind
theorem R4 {β:Type} {p:Nat->β->Prop}:∀ n,(∀ i,i<n->∃ b,p i b)->∃ bs:List β,bs.length=n/\∀ i (hi:i<bs.length),p i bs[i]:=by
 intro n
 induction n with
 | zero=>simp_all
 | succ n ih =>
  intro h
  obtain ⟨bs,h1,h2⟩:=ih (fun i hi=>h i (by omega))
  obtain ⟨b,hb⟩:=h n (by omega)
  refine ⟨bs++[b],by simp [h1],fun i hi=>?_⟩
  grind
section
variable {α:Type} {r:Rep α} {M:List Nat} {w:World} {v:Value} {l:List α}
end
section
variable {P:Program} {α:Type} {r:Rep α} {M bs:List Nat} {w:World} {v:Value} {l:List α} {T E:TypeId} {info:TypeInfo} {zv:Value}
theorem a0y {b o:Nat} {cs:List Value} (hc:Cells w b o cs):(loadCells ⟨b,o,none⟩ cs.length).run P w=.ok cs.toArray w:=by
 have h:=J2 (P:=P) hc cs.length 0 #[] (by omega)
 simpa [loadCells] using h
theorem a0z (z:Array Value) (n:Nat):(Builtin.zeroCells z n).size=n * z.size:=by simp [Builtin.zeroCells]
variable {n:Nat} {ops:List Oper} {Q:Exit->Fr->World->Prop} {rest:List Oper} {f:Fr} {d:Nat} {ty:TypeId} {pos:String} {after:Array Edge} {x y:Operand}
end
end Go.Wk
end
section
namespace Go.Wk
open Go
structure Key (κ:Type) where
 enc:κ->Value
 kind:TypeDesc
 same:∀ a,Instr.sameNow kind (enc a) (enc a)=some true
 diff:∀ a b,a≠b->Instr.sameNow kind (enc a) (enc b)=some false
 check:∀ (P:Program) (T:TypeId) (emp:Bool) (a:κ) (w:World),(∀ w,(underlying T).run P w=.ok kind w)->(Instr.checkKey emp 10000 T (enc a)).run P w=.ok () w
 bits:∀ a,Instr.sameBits 10000 (enc a) (enc a)=true
section
section
variable {κ:Type}
def d1m (es:List MapEntry):List (Value×Value):=es.map fun e=>(e.key,e.val)
structure Good (ky:Key κ) (es:List MapEntry) (clk:Nat) (L:List (κ×Value)):Prop where
 same:d1m es=L.map fun p=>(ky.enc p.1,p.2)
 keys:(L.map (·.1)).Nodup
 borns:(es.map (·.born)).Nodup
 young:∀ e∈es,e.born<clk
def a90 (ky:Key κ) (w:World) (b:Nat) (L:List (κ×Value)):Prop:=∃ es clk,w.heap[b]?=some (.map es clk)/\Good ky es.toList clk L
theorem a90.lt {ky:Key κ} {w:World} {b:Nat} {L:List (κ×Value)} (h:a90 ky w b L):b<w.heap.size:=let ⟨_,_,h,_⟩:=h; V1 h
theorem a90.ext {ky:Key κ} {w w':World} {b:Nat} {L:List (κ×Value)} {B:List Nat} (h:a90 ky w b L) (e:Ext B w w') (hb:b ∉ B):a90 ky w' b L :=
 let ⟨es,clk,h,g⟩:=h; ⟨es,clk,e.get hb h,g⟩
end
end
end Go.Wk
end
section
namespace Go.Wk
open Go
section
variable {κ:Type} {ky:Key κ}
variable {P:Program} {m:Bool} {n:Nat} {ops:List Oper} {Q:Exit->Fr->World->Prop} {rest:List Oper} {f:Fr} {w:World} {d b:Nat} {v zv:Value} {L:List (κ×Value)} {k:κ}
variable {ty T Kt E:TypeId} {pos:String} {after:Array Edge} {x y z:Operand}
def Iter (ky:Key κ) (w:World) (it b:Nat) (L D:List (κ×Value)):Prop:=∃ es clk,∃ De:List MapEntry,w.heap[b]?=some (.map es clk)/\Good ky es.toList clk L/\w.heap[it]?=some (.mapIter (some b) clk (De.map (·.born)).toArray clk) /\
 (∀ e∈De,e∈es.toList)/\(De.map (·.born)).Nodup/\d1m De=D.map fun p=>(ky.enc p.1,p.2)
theorem Iter.ext {w w':World} {it:Nat} {D:List (κ×Value)} {B:List Nat} (h:Iter ky w it b L D) (e:Ext B w w') (hb:b ∉ B) (hi:it ∉ B):Iter ky w' it b L D :=
 let ⟨es,clk,De,h1,g,h2,r⟩:=h; ⟨es,clk,De,e.get hb h1,g,e.get hi h2,r⟩
theorem Iter.map {w:World} {it:Nat} {D:List (κ×Value)} (h:Iter ky w it b L D):a90 ky w b L:=let ⟨es,clk,_,h1,g,_⟩:=h; ⟨es,clk,h1,g⟩
theorem Iter.lt {w:World} {it:Nat} {D:List (κ×Value)} (h:Iter ky w it b L D):it<w.heap.size:=let ⟨_,_,_,_,_,h2,_⟩:=h; V1 h2
end
end Go.Wk
end
section
namespace Go.Wk
open Go
def c75 (f:Fr):List (Nat×Value)->Prop
 | []=>True
 | (d,v)::r=>f d=v/\c75 f r
def a39 (g:Fr):List (Nat×Value)->Fr
 | []=>g
 | (d,v)::r=>upd (a39 g r) d v
theorem c75.eq {f:Fr}:∀ {L:List (Nat×Value)},c75 f L->a39 f L=f:=by
 intro L
 induction L with
 | nil=>intro _; rfl
 | cons p r ih =>
  obtain ⟨d,v⟩:=p
  rintro ⟨h1,h2⟩
  simp only [a39,ih h2]
  funext t
  rw [H7]
  simp_all
theorem Ext.own {b:Nat} {w0 w w':World} (E:Ext [] w0 w) (e:Ext [b] w w') (hb:w0.heap.size<=b):Ext [] w0 w':=E.trans e (by simp) (fun x hx=>by simp_all)
section
variable {P:Program} {m:Bool} {n:Nat} {c:Code} {ops:List Oper} {Q:Exit->Fr->World->Prop} {rest:List Oper} {f:Fr} {w:World}
end
theorem nF {p:Bool} (h:p=false):Value.bool (!p)=.bool true:=by rw [h]; rfl
section
variable {P:Program} {n:Nat} {c:Code} {Q:Exit->Fr->World->Prop} {f:Fr} {w:World}
end
section
variable {P:Program} {n:Nat} {ops:List Oper} {Q:Exit->Fr->World->Prop} {rest:List Oper} {f:Fr} {w:World} {d:Nat} {v zv:Value} {T E ty:TypeId} {info:TypeInfo} {pos:String} {after:Array Edge} {x y:Operand} {a:Int}
end
def a6e (pl:List (Nat×Nat)) (cs:List Value):List (Nat×Value)->List Value
 | []=>cs
 | (i,v)::r=>a6e pl (v7 cs (pl.getD i (0,0)).1 v.cells.toList) r
def a2y (pl:List (Nat×Nat)) (n:Nat):List (Nat×Value)->Bool
 | []=>true
 | (i,v)::r=>Nat.blt i pl.length && Nat.beq v.cells.size (pl.getD i (0,0)).2 && Nat.ble ((pl.getD i (0,0)).1+v.cells.size) n && a2y pl n r
theorem b48 {pl:Array (Nat×Nat)}:∀ (ps:List (Nat×Value)) (cs:Array Value),a2y pl.toList cs.size ps=true->Instr.fill (pl[·]?) cs ps=some (a6e pl.toList cs.toList ps).toArray:=by
 intro ps
 induction ps with
 | nil=>intro cs _; simp [Instr.fill,a6e]
 | cons p r ih =>
  obtain ⟨i,v⟩:=p
  intro cs h
  simp only [a2y,Bool.and_eq_true] at h
  obtain ⟨⟨⟨h1,h2⟩,h3⟩,h4⟩:=h
  have hi:i<pl.size:=by have:=A1 h1; simpa using this
  have hp:pl[i]?=some pl[i]:=by simp [hi]
  have hd:pl.toList.getD i (0,0)=pl[i]:=by simp [List.getD_eq_getElem?_getD,hi]
  rw [hd] at h2 h3
  have h2':=Nat.eq_of_beq_eq_true h2
  have h3':=Nat.le_of_ble_eq_true h3
  simp only [Instr.fill,hp]
  rw [if_neg (by simp_all)]
  have hf:(v.cells.zipIdx.foldl (fun cs (c,j)=>cs.setIfInBounds (pl[i].1+j) c) cs)=(v7 cs.toList pl[i].1 v.cells.toList).toArray:=by
   apply Array.ext'
   rw [<- Array.foldl_toList,Array.toList_zipIdx]
   have:=a8n (cs:=#[]) v.cells.toList 0 pl[i].1 cs
   rw [this]; simp
  rw [hf,ih _ (by simpa [B8] using h4)]
  simp only [a6e,hd]
section
variable {P:Program} {m:Bool} {n:Nat} {ops:List Oper} {Q:Exit->Fr->World->Prop} {rest:List Oper} {f:Fr} {w:World} {d:Nat} {zv:Value} {T ty:TypeId} {pos:String} {after:Array Edge} {fs:Array Field}
theorem c9c {ps:Array (Nat×Operand)} {pl:Array (Nat×Nat)} {cs:List Value} (hT:∀ w,(underlying T).run P w=.ok (.struct fs) w) (hz:∀ w,(zeroValue T).run P w=.ok zv w)
  (hpl:∀ w,(fs.mapM fun (fd:Field)=>do pure (fd.offset,<- sizeOf fd.type)).run P w=.ok pl w) (hok:a2y pl.toList zv.cells.size (ps.toList.map fun p=>(p.1,ev f p.2))=true) (hcs:a6e pl.toList zv.cells.toList (ps.toList.map fun p=>(p.1,ev f p.2))=cs) (hn:Nat.blt d n=true)
  (K:WL P m n ops Q rest (upd f d (.agg cs.toArray)) w):WL P m n ops Q (⟨some d,.build T ps,ty,pos,after,none⟩::rest) f w :=
 n6 rfl rfl hn (v:=.agg cs.toArray) (fun w1 _=>by
  subst hcs
  have hmap:(ps.map fun p=>(p.1,ev f p.2)).toList=ps.toList.map fun p=>(p.1,ev f p.2):=by simp
  have hf:=b48 _ _ hok
  simp only [execOp,Instr.build,Sem.run_bind,hz,hT,Result.andThen_ok]
  simp_all) K
end
section
variable {P:Program} {m:Bool} {n:Nat} {ops:List Oper} {Q:Exit->Fr->World->Prop} {rest:List Oper} {f:Fr} {w:World} {d:Nat} {T E T' ty:TypeId} {pos:String} {after:Array Edge} {x y:Operand} {α:Type} {enc:α->Value} {b:Nat} {L:List α} {k:IntKind}
end
end Go.Wk
end
section
namespace Go.Wk
open Go
section
variable {P:Program} {n:Nat} {l:List Oper} {Q:Exit->Fr->World->Prop} {f0:Fr}
theorem b9j {ro:Option Nat} {ds:List Deferred} {i:Nat} {o:Oper} (ho:l[i]?=some o) {g:Fr} {w w1:World} {a:Act} {S:Fr->World->Prop} {K:Act->World->Prop} {QQ:Exit->Act->World->Prop} (ha:Is a g n) (hds:a.defers=ds) (hs:Sim w w1)
  (h:WL P false n l (fun e g' w'=>e=.normal/\S g' w') [o] g w) (k:∀ g' w' a' w2,S g' w'->Is a' g' n->a'.defers=ds->Sim w' w2->K a' w2):wpOpIn (I8 ro) 0 P l.toArray QQ i K a w1:=by
 unfold wpOpIn
 simp only [List.getElem?_toArray,ho]
 have h:=h a w1 ha hs ro
 rw [hds] at h
 unfold wpListIn at h
 have kk:∀ a' w2,lift n ds (fun e g' w'=>e=.normal/\S g' w') .normal a' w2->K a' w2:=by
  rintro a' w2 ⟨g',w',hg,hd,hv,_,q⟩
  exact k g' w' a' w2 q hg hd hv
 have no:∀ e a' w2,lift n ds (fun e g' w'=>e=.normal/\S g' w') e a' w2->e=.normal:=by
  rintro e a' w2 ⟨g',w',hg,hd,hv,q,_⟩; exact q
 split
 . rename_i hw
   rw [if_pos hw] at h
   unfold Oper.wpIn at h ⊢
   refine ⟨h.1,?_⟩
   have h:=h.2
   generalize (o.semAt (I8 ro).round a.eval).run P w1=r at h ⊢
   unfold Oper.uponIn at h ⊢
   split at h
   . exact kk _ _ h
   . exact kk _ _ h
   . exact kk _ _ h
   . refine ⟨h.1,CallsIn.mono h.2 ?_⟩
     intro e w2 q
     cases e with
     | returned v=>exact kk _ _ q
     | panicked c=>grind
     | outgrown=>obtain ⟨a',w3,q⟩:=q; grind
   . exact ⟨h.1,RowsIn.mono h.2 fun v w2 q=>kk _ _ q⟩
   . refine ⟨h.1,RoundIn.mono h.2 ?_⟩
     intro e w2 q
     cases e with
     | returned v=>exact kk _ _ q
     | panicked c=>grind
     | outgrown=>obtain ⟨a',w3,q⟩:=q; grind
   all_goals grind
 . rename_i hw
   rw [if_neg hw] at h
   exact ⟨fun _ _=>trivial,kk _ _ h.2⟩
def P0 (ms:List Nat) (i t:Nat):List Oper->Nat->Bool
 | [],_=>true
 | o::r,j=>(match o.dst with | some d=>!Nat.beq d t || Nat.beq j i || (ms.getD j 0).testBit i | none=>true) && P0 ms i t r (j+1)
theorem b1r {ms:List Nat} {i t:Nat}:∀ {r:List Oper} {k:Nat},(∀ x,r[x]?=l[k+x]?)->P0 ms i t r k=true->∀ j,k<=j->o5 l j=some t->j=i ∨ (ms.getD j 0).testBit i=true:=by
 intro r
 induction r with
 | nil =>
  intro k hr _ j hkj hj
  obtain ⟨o,ho,_⟩:=T9 hj
  have:=hr (j-k)
  simp_all
 | cons o r ih =>
  intro k hr h j hkj hj
  unfold P0 at h
  rw [Bool.and_eq_true] at h
  by_cases e:j=k
  . subst e
    have h0:=hr 0
    simp at h0
    have:o.dst=some t:=by rw [<- I4 h0.symm]; exact hj
    simp_all
  . exact ih (k:=k+1) (fun x=>by have:=hr (x+1); grind) h.2 j (by omega) hj
def a5h:List Oper->List Nat->Bool
 | [],_=>true
 | o::r,seen=>match o.dst with | some d=>!seen.elem d && a5h r (d::seen) | none=>a5h r seen
theorem c2d:∀ {l:List Oper} {seen:List Nat},a5h l seen=true->(∀ (j t:Nat),o5 l j=some t->t ∉ seen)/\(∀ (i j t:Nat),o5 l i=some t->o5 l j=some t->i=j):=by
 intro l
 induction l with
 | nil=>intro seen _; exact ⟨fun j t h=>by simp [o5] at h,fun i j t h=>by simp [o5] at h⟩
 | cons o r ih =>
  intro seen h
  unfold a5h at h
  cases hd:o.dst with
  | none =>
   rw [hd] at h
   have ⟨h1,h2⟩:=ih h
   refine ⟨fun j t hj=>?_,fun i j t hi hj=>?_⟩
   . cases j with
     | zero=>simp [o5,hd] at hj
     | succ j=>exact h1 j t hj
   . cases i with
     | zero=>simp [o5,hd] at hi
     | succ i=>cases j with
      | zero=>simp [o5,hd] at hj
      | succ j=>rw [h2 i j t hi hj]
  | some d =>
   rw [hd] at h
   simp only [Bool.and_eq_true] at h
   have hns:d ∉ seen:=by have:=h.1; simp at this; exact this
   have ⟨h1,h2⟩:=ih h.2
   refine ⟨fun j t hj=>?_,fun i j t hi hj=>?_⟩
   . cases j with
     | zero=>simp [o5,hd] at hj; simp_all
     | succ j=>have:=h1 j t hj; simp_all
   . cases i with
     | zero =>
      cases j with
      | zero=>rfl
      | succ j=>simp [o5,hd] at hi; subst hi; have:=h1 j _ hj; simp at this
     | succ i=>cases j with
      | zero=>simp [o5,hd] at hj; subst hj; have:=h1 i _ hi; simp at this
      | succ j=>rw [h2 i j t hi hj]
def a8w (S:List Nat) (n:Nat):List Oper->Bool
 | []=>true
 | o::r=>(match o.dst with | some d=>S.elem d && Nat.blt d n | none=>true) && a8w S n r
theorem c0p {S:List Nat}:∀ {l:List Oper},a8w S n l=true->∀ j t,o5 l j=some t->S.elem t=true/\t<n:=by
 intro l
 induction l with
 | nil=>intro _ j t h; simp [o5] at h
 | cons o r ih =>
  intro h j t hj
  unfold a8w at h
  rw [Bool.and_eq_true] at h
  cases j with
  | zero =>
   have hj:o.dst=some t:=hj
   simp_all
  | succ j=>exact ih h.2 j t hj
def c3d:List (Value->World->Prop)->Nat->Value->World->Prop
 | [],_,_,_=>True
 | p::_,0,v,w=>p v w
 | _::r,j+1,v,w=>c3d r j v w
inductive Stab:List (Value->World->Prop)->Prop
 | nil:Stab []
 | cons {p:Value->World->Prop} {r:List (Value->World->Prop)}:(∀ v w w',p v w->Ext [] w w'->p v w')->Stab r->Stab (p::r)
theorem Stab.get {ps:List (Value->World->Prop)} (h:Stab ps):∀ j v w w',c3d ps j v w->Ext [] w w'->c3d ps j v w':=by
 induction h with
 | nil=>intro j v w w' h _; trivial
 | cons h _ ih=>intro j v w w' hp e; cases j with
  | zero=>exact h v w w' hp e
  | succ j=>exact ih j v w w' hp e
def e0f (P:Program) (n:Nat) (l:List Oper) (ms:List Nat) (ps:List (Value->World->Prop)) (f0:Fr) (w0:World) (i:Nat) (o:Oper):Prop :=
 ∀ g w,Ext [] w0 w->(∀ j t,(ms.getD i 0).testBit j=true->o5 l j=some t->c3d ps j (g t) w)->(∀ t,P0 ms i t l 0=true->g t=f0 t) ->
  WL P false n l (fun e g' w'=>e=.normal/\∃ v,g'=J1 g o.dst v/\Ext [] w w'/\c3d ps i v w') [o] g w
inductive a6n (P:Program) (n:Nat) (l:List Oper) (ms:List Nat) (ps:List (Value->World->Prop)) (f0:Fr) (w0:World):Nat->List Oper->Prop
 | nil {i:Nat}:a6n P n l ms ps f0 w0 i []
 | cons {i:Nat} {o:Oper} {r:List Oper}:e0f P n l ms ps f0 w0 i o->a6n P n l ms ps f0 w0 (i+1) r->a6n P n l ms ps f0 w0 i (o::r)
theorem a6n.get {ms:List Nat} {ps:List (Value->World->Prop)} {w0:World} {k:Nat} {r:List Oper} (h:a6n P n l ms ps f0 w0 k r):∀ x o,r[x]?=some o->e0f P n l ms ps f0 w0 (k+x) o:=by
 induction h with
 | nil=>simp_all
 | @cons i o r h _ ih=>grind
end
end Go.Wk
end
section
namespace Go.Wk
open Go Go.ChangeShapes Go.WideShapes Go.RowKit
section
variable {P:Program} {t e:TypeId}
theorem d4k {n:Int} (h:(Lit.int .i64 n).wf=true):InI n:=by
 simp [Lit.wf,IntKind.min,IntKind.max,IntKind.signed,IntKind.bits] at h
 exact ⟨by omega,by omega⟩
theorem b33 {w:World} {a:Addr} {n:Nat} {cs:List Value} (hn:0<n) (h:w.cells? 0 a n=some cs):a.spot=none/\cs.length=n/\Cells w a.block a.off cs:=by
 unfold World.cells? at h
 rw [if_pos (Nat.zero_le _)] at h
 have hlen:cs.length=n:=by simpa using mapM_some_length h
 have hget:∀ i,i<n->w.cell? (a.add i)=cs[i]? := fun i hi=>mapM_some_get h i i (by simp [hi])
 have h0:=hget 0 hn
 rw [List.getElem?_eq_getElem (by omega)] at h0
 have hspot:a.spot=none:=by simpa [Addr.add] using World.cell?_spot h0
 refine ⟨hspot,hlen,?_⟩
 obtain ⟨b,o,s⟩:=a
 simp only at hspot
 subst hspot
 simp only [Addr.add,if_true] at h0
 unfold World.cell? at h0
 cases hh:w.heap[b]? with
 | none=>simp_all
 | some ob =>
  cases ob with
  | cells C T z =>
   refine ⟨C,T,z,hh,fun j hj=>?_⟩
   have:=hget j (by omega)
   unfold World.cell? Addr.add at this
   grind
  | _=>simp [hh] at h0
end
theorem J6 {α:Type} {cs:List α} {o a b:Nat}:(cs.drop o).take (a+b)=(cs.drop o).take a++(cs.drop (o+a)).take b:=by
 rw [List.take_add,List.drop_drop]
theorem b06 {α:Type} {cs:List α} {n:Nat} (h:cs.length=n):cs=(cs.drop 0).take n:=by grind
theorem a16 {P:Program} {H:Type} {enc:TypeId×Value->H} {W W':World} {sp:Nat->Bool} (hl:laidOutB P=true):∀ {ts:List TypeId} {vs:List Value} {ds:List (DataW H)} {ps:List MemPlace},(∀ t∈ts,P.readableRec t=true/\t<P.types.size) ->
  DataW.TrodAll enc P W 0 (fun _=>true) true ts vs ds ps->(∀ p∈ps,W.sameAt W' p)->(∀ p∈ps,sp p.block=true)->DataW.TrodAll enc P W' 0 sp true ts vs ds ps
 | [],[],[],_,_,h,_,_=>h
 | t::ts,v::vs,d::ds,ps,ht,⟨p,q,h1,h2,e⟩,hs,hsp=>⟨p,q,WideElems.Trod_stays hl (ht t (by simp)).1 (ht t (by simp)).2 h1 (fun x hx=>hs x (by simp_all)) (fun x hx=>hsp x (by simp_all)),
   a16 hl (fun u hu=>ht u (by simp [hu])) h2 (fun x hx=>hs x (by simp_all)) (fun x hx=>hsp x (by simp_all)),e⟩
theorem b65 {W W':World} (e:Ext [] W W') {b o:Nat} (hb:b<W.heap.size):W'.frozen? ⟨b,o,none⟩=W.frozen? ⟨b,o,none⟩:=by
 unfold World.frozen?
 rw [e.block b hb (by simp)]
theorem c3y {P:Program} {f:Func} {s:ChangeSpec} {tb:TypeId} {H:Type} {enc:TypeId×Value->H} {apart fresh handsOn again:Bool} {W W' W2:World} {args:Array Value} {ds gs:List (DataW H)} {before:List MemPlace}
  (hl:laidOutB P=true) (hr:∀ t∈f.params.toList,P.readableRec t=true/\t<P.types.size) (hrt:f.resultTypes=#[tb]) (htb:P.underlying tb=some .bool) (hvs:s.vars=[])
  (hfn:s.fn H (ds++gs)={ results:=[.lit (.bool true)],args:=ds }) (hW:DataW.Whole enc P f.params.toList s.vars apart W args.toList ds gs before) (e:Ext [] W W') (hs:Sim W' W2) :
  s.post enc P f apart fresh handsOn again W args (.bool true) W2:=by
 have e2:Ext [] W W2:=e.sim hs
 have hlt:=hW.lt
 have hold:∀ p∈before,(fun b=>decide (b<W.heap.size)) p.block=true:=fun p hp=>by simp_all
 obtain ⟨pa,pv,hA,hV,hps,hz,hn⟩:=hW
 have hV':=hV
 rw [hvs] at hV'
 obtain ⟨hg,hpv⟩:=trodVars_none hV'
 subst hg; subst hpv
 rw [List.append_nil] at hps
 subst hps
 have hsame:∀ p∈before,W.sameAt W2 p:=fun p hp=>by
  cases p with
  | cell b off =>
   show W2.cell? _=W.cell? _
   unfold World.cell?
   rw [e2.block b (hlt _ hp) (by simp)]
  | map b=>exact e2.block b (hlt _ hp) (by simp)
 have hargs:∀ sp:Nat->Bool,(∀ p∈before,sp p.block=true)->DataW.TrodAll enc P W2 0 sp true f.params.toList args.toList ds before:=fun sp hsp=>a16 hl hr hA hsame hsp
 have hres:∀ (b:Nat) (sp:Nat->Bool) (hd:Bool),DataW.TrodAll enc P W2 b sp hd f.resultTypes.toList ((Value.bool true).resultList f.resultTypes.size) [.lit (.bool true)] []:=fun b sp hd=>by
  rw [hrt]; exact trodAll_mk1 (shut_bool htb _)
 have hvars:∀ sp:Nat->Bool,DataW.TrodVars enc P W2 sp s.vars [] []:=fun sp=>by rw [hvs]; rfl
 have hok:∀ (j:Nat) (t:TypeId) (r:Value),f.resultTypes[j]?=some t->((Value.bool true).resultList f.resultTypes.size)[j]?=some r->Value.okWide P W2 .any 0 t r:=ok_one hrt rfl (okWide_bool_mk htb _)
 refine ⟨ds,[],before,[],before,[],⟨before,[],hA,hV,by simp,hz,hn⟩,by grind,by simp_all,by simp_all,e2.below.frame _,fun _=>?_⟩
 refine ⟨hok,_,_,([]++before)++[],⟨[]++before,[],trodAll_append (hargs _ (fun _ _=>rfl)) (hres _ _ _),hvars _,rfl,?_,?_⟩,?_⟩
 . intro b off hp
   have hp':MemPlace.cell b off∈before:=by simpa using hp
   rw [b65 e2 (show b<W.heap.size from hlt _ hp')]
   exact hz b off hp'
 all_goals simp_all
theorem c1s {P:Program} {K:FuncId} {f:Func} {s:ChangeSpec} {tb:TypeId} {H:Type} {enc:TypeId×Value->H} {apart fresh handsOn again:Bool} {W:World} {args:Array Value} {ds gs:List (DataW H)} {before:List MemPlace}
  (hl:laidOutB P=true) (hr:∀ t∈f.params.toList,P.readableRec t=true/\t<P.types.size) (hrt:f.resultTypes=#[tb]) (htb:P.underlying tb=some .bool) (hvs:s.vars=[])
  (hfn:s.fn H (ds++gs)={ results:=[.lit (.bool true)],args:=ds }) (hW:DataW.Whole enc P f.params.toList s.vars apart W args.toList ds gs before)
  (h:D4 P K args.toList W fun v w'=>v=.bool true/\Ext [] W w') :
  Calls P K args W fun e W'=>∃ v,e=.returned v/\s.post enc P f apart fresh handsOn again W args v W':=by
 have hc:=h W (Sim.refl W)
 simp only [Array.toArray_toList] at hc
 refine Calls.mono hc ?_
 rintro e W2 ⟨_,w',rfl,hs,rfl,hx⟩
 exact ⟨_,rfl,c3y hl hr hrt htb hvs hfn hW hx hs⟩
end Go.Wk
end
section
namespace Go.Wk
open Go
theorem a89 (s:Str):(⟨s.toArray⟩:ByteArray).toList=s:=by
 simp_all
theorem Q7 (s:Str):(⟨s.toArray⟩:ByteArray).size=s.length:=by simp [ByteArray.size]
theorem c2g (s t:Str):(⟨s.toArray⟩:ByteArray)++⟨t.toArray⟩=⟨(s++t).toArray⟩:=by
 apply ByteArray.ext
 simp
section
variable {P:Program} {m:Bool} {n:Nat} {ops:List Oper} {Q:Exit->Fr->World->Prop} {rest:List Oper} {f:Fr} {w:World} {d:Nat} {T T' ty:TypeId} {pos:String} {after:Array Edge} {x y:Operand} {s t:Str}
theorem d5w (hx:ev f x=sv s) (hy:ev f y=sv t) (hn:Nat.blt d n=true) (K:WL P m n ops Q rest (upd f d (.bool (decide (s=t)))) w) :
  WL P m n ops Q (⟨some d,.binOp .eql T x y T',ty,pos,after,none⟩::rest) f w :=
 n6 rfl rfl hn (v:=.bool (decide (s=t))) (fun _ _=>by
  simp only [sv] at hx hy
  simp [execOp,hx,hy,eqGuard,binOp,go_sem,Op.stringOp,a89]
  grind) K
theorem d6n (hx:ev f x=sv s) (hy:ev f y=sv t) (hn:Nat.blt d n=true) (K:WL P m n ops Q rest (upd f d (.bool (decide (s≠t)))) w) :
  WL P m n ops Q (⟨some d,.binOp .neq T x y T',ty,pos,after,none⟩::rest) f w :=
 n6 rfl rfl hn (v:=.bool (decide (s≠t))) (fun _ _=>by
  simp only [sv] at hx hy
  simp [execOp,hx,hy,eqGuard,binOp,go_sem,Op.stringOp,a89]
  grind) K
theorem d6j (hx:ev f x=sv s) (hy:ev f y=sv t) (hl:s.length+t.length<=9223372036854775807) (hn:Nat.blt d n=true) (K:WL P m n ops Q rest (upd f d (sv (s++t))) w) :
  WL P m n ops Q (⟨some d,.binOp .add T x y T',ty,pos,after,none⟩::rest) f w :=
 n6 rfl rfl hn (v:=sv (s++t)) (fun _ _=>by
  simp only [sv] at hx hy ⊢
  have h1:¬ (((⟨s.toArray⟩:ByteArray).size+(⟨t.toArray⟩:ByteArray).size:Nat):Int) > IntKind.i64.max:=by
   rw [Q7,Q7]
   have:IntKind.i64.max=9223372036854775807:=by decide
   omega
  simp only [execOp,hx,hy,binOp,Op.stringOp,if_neg h1,c2g]
  simp [eqGuard,go_sem]) K
end
end Go.Wk
end
section
namespace Go.Wk
open Go
section
variable {P:Program} {n:Nat} {ops:List Oper} {Q:Exit->Fr->World->Prop} {rest:List Oper} {f:Fr} {w:World} {d:Nat} {T T' ty A:TypeId} {pos:String} {after:Array Edge} {x y:Operand} {t t':TypeId} {u v zv:Value} {k:IntKind} {a b:Int} {m:Bool} {info:TypeInfo} {ms want:Array (String×TypeId)}
theorem a2x {X:TypeDesc} (hT:∀ w,(underlying T).run P w=.ok X w) (hX:(match X with | .interface _=>false | _=>true)=true) (hv:ev f x=v) (hn:Nat.blt d n=true) (K:WL P m n ops Q rest (upd f d (.iface T v)) w) :
  WL P m n ops Q (⟨some d,.makeInterface T x,ty,pos,after,none⟩::rest) f w :=
 n6 rfl rfl hn (v:=.iface T v) (fun w1 _=>by
  subst hv
  simp only [execOp,Instr.makeInterface,Sem.run_bind,hT,Result.andThen_ok]
  cases X <;> first | rfl | (simp at hX)) K
theorem b2c (hT:∀ w,(underlying T).run P w=.ok (.interface ms) w) (w:World):(Op.equal T .nilIface .nilIface).run P w=.ok true w:=by
 have h:∀ d,(Op.equalIn (d+1) T .nilIface .nilIface).run P w=.ok true w:=fun d=>by
  unfold Op.equalIn; rw [Sem.run_bind,hT,Result.andThen_ok]; rfl
 exact h 9999
theorem M0 (hT:∀ w,(underlying T).run P w=.ok (.interface ms) w) (w:World):(Op.equal T (.iface t v) .nilIface).run P w=.ok false w:=by
 have h:∀ d,(Op.equalIn (d+1) T (.iface t v) .nilIface).run P w=.ok false w:=fun d=>by
  unfold Op.equalIn; rw [Sem.run_bind,hT,Result.andThen_ok]; rfl
 exact h 9999
theorem eqI_nil2 (hT:∀ w,(underlying T).run P w=.ok (.interface ms) w) (w:World):(Op.equal T .nilIface (.iface t v)).run P w=.ok false w:=by
 have h:∀ d,(Op.equalIn (d+1) T .nilIface (.iface t v)).run P w=.ok false w:=fun d=>by
  unfold Op.equalIn; rw [Sem.run_bind,hT,Result.andThen_ok]; rfl
 exact h 9999
theorem eqI_int (hT:∀ w,(underlying T).run P w=.ok (.interface ms) w) (hI:∀ w,(typeInfo t).run P w=.ok info w) (hc:info.comparable=true) (hU:∀ w,(underlying t).run P w=.ok (.int k) w) (w:World) :
  (Op.equal T (.iface t (.int k a)) (.iface t (.int k b))).run P w=.ok (decide (a=b)) w:=by
 have h:∀ d,(Op.equalIn (d+2) T (.iface t (.int k a)) (.iface t (.int k b))).run P w=.ok (decide (a=b)) w:=fun d=>by
  unfold Op.equalIn; rw [Sem.run_bind,hT,Result.andThen_ok]
  simp only [ne_eq,not_true_eq_false,if_false,Sem.run_bind,hI,Result.andThen_ok,hc,Bool.not_true,Bool.false_eq_true]
  unfold Op.equalIn; rw [Sem.run_bind,hU,Result.andThen_ok]
  simp only [if_true,Sem.run_pure]
  congr 1
 exact h 9998
end
end Go.Wk
end
section
namespace Go.Wl
open Go Go.Wk
structure Rd (α:Type) where
 sz:Nat
 rd:(Nat->Prop)->World->List Value->α->Prop
 len:∀ {D w cs x},rd D w cs x->cs.length=sz
 mono:∀ {D D' B w w' cs x},rd D w cs x->Ext B w w'->(∀ b∈B,D b->w.heap.size<=b)->(∀ b,D b->b<w.heap.size->D' b)->rd D' w' cs x
 plain:∀ {D w cs x},rd D w cs x->cs.all w5=true
section
variable {α β:Type} {D D':Nat->Prop} {B:List Nat} {w w':World} {cs:List Value}
theorem Rd.ext (r:Rd α) {x:α} (h:r.rd D w cs x) (e:Ext [] w w'):r.rd D w' cs x:=r.mono h e (fun _ hb=>by cases hb) (fun _ h _=>h)
theorem Rd.weak (r:Rd α) {x:α} (h:r.rd D w cs x) (hD:∀ b,D b->b<w.heap.size->D' b):r.rd D' w cs x:=r.mono h (Ext.refl [] w) (fun _ hb=>by cases hb) hD
end
def B4:Rd Int where
 sz:=1
 rd:=fun _ _ cs x=>cs=[.int .i64 x]/\InI x
 len:=fun h=>by rw [h.1]; rfl
 mono:=fun h _ _ _=>h
 plain:=fun h=>by rw [h.1]; rfl
def a2h:Rd Bool where
 sz:=1
 rd:=fun _ _ cs x=>cs=[.bool x]
 len:=fun h=>by rw [h]; rfl
 mono:=fun h _ _ _=>h
 plain:=fun h=>by rw [h]; rfl
def bv (c:UInt8):Value:=.int .u8 c.toNat
def n5:Rd UInt8 where
 sz:=1
 rd:=fun _ _ cs x=>cs=[bv x]
 len:=fun h=>by rw [h]; rfl
 mono:=fun h _ _ _=>h
 plain:=fun h=>by rw [h]; rfl
def v8 {α:Type} (r:Rd α):Rd (List α) where
 sz:=1
 rd:=fun D w cs l=>l.length<=9223372036854775807/\∃ A cap,cs=[.slice A l.length cap]/\((A=none->cap=0)/\l.length<=cap)/\∀ i (h:i<l.length),∃ b o c,A=some ⟨b,o,none⟩/\D b/\Cells w b (o+i * r.sz) c/\r.rd D w c l[i]
 len:=fun ⟨_,A,cap,e,_⟩=>by rw [e]; rfl
 mono:=fun ⟨hl,A,cap,e,h0,h⟩ hx hB hD=>⟨hl,A,cap,e,h0,fun i hi=>by
  obtain ⟨b,o,c,e1,hb,hc,hr⟩:=h i hi
  have hlt:=hc.lt
  exact ⟨b,o,c,e1,hD b hb hlt,hc.ext hx (fun hm=>by grind),r.mono hr hx hB hD⟩⟩
 plain:=fun ⟨_,A,cap,e,_⟩=>by rw [e]; rfl
def Sub {α β:Type} (r:Rd α) (o:Nat) (s:Rd β) (g:α->β):Prop:=o+s.sz<=r.sz/\∀ {D w cs x},r.rd D w cs x->s.rd D w ((cs.drop o).take s.sz) (g x)
theorem Sub.self {α:Type} (r:Rd α):Sub r 0 r (fun x=>x):=⟨by omega,fun h=>by
 have:=r.len h
 grind⟩
section
variable {α:Type} {r:Rd α} {D:Nat->Prop} {w:World}
theorem a6m {v:Value} {l:List α} (h:(v8 r).rd D w [v] l):l.length<=9223372036854775807:=h.1
theorem P5 {v:Value} {l:List α} (h:(v8 r).rd D w [v] l):∃ A cap,v=.slice A l.length cap:=by
 obtain ⟨_,A,cap,e,_⟩:=h; simp_all
theorem W5:(v8 r).rd D w [.slice none 0 0] []:=⟨by simp,none,0,rfl,⟨fun _=>rfl,by simp⟩,fun i hi=>by simp at hi⟩
theorem a0u {A:Option Addr} {cap:Nat} {l:List α} (h:(v8 r).rd D w [.slice A l.length cap] l) {i:Nat} (hi:i<l.length):∃ b o c,A=some ⟨b,o,none⟩/\D b/\Cells w b (o+i * r.sz) c/\r.rd D w c l[i]:=by
 obtain ⟨_,A',cap',e,_,h⟩:=h
 simp_all
end
def ix {α:Type} [Inhabited α] (l:List α) (i:Int):α:=l.getD i.toNat default
theorem A8 {α:Type} [Inhabited α] {l:List α} {i:Int} (h:i.toNat<l.length):ix l i=l[i.toNat]:=by simp [ix,List.getD_eq_getElem?_getD,h]
def eA:Option Addr->Nat->Addr
 | some ⟨b,o,_⟩,k=>⟨b,o+k,none⟩
 | none,k=>⟨0,k,none⟩
theorem d5p (A:Option Addr) (k j:Nat):(eA A k).add j=eA A (k+j):=by
 unfold Addr.add
 split
 . simp_all
 . cases A with
   | none=>simp [eA]
   | some a=>obtain ⟨b,o,s⟩:=a; simp [eA,Nat.add_assoc]
structure It where
 F:List Nat
 O:List Nat
 P:(Nat->Prop)->World->Prop
def It.Stab (t:It):Prop:=∀ (Z Z':Nat->Prop) (B:List Nat) (w w':World),t.P Z w->Ext B w w'->(∀ b∈B,(b∈t.F ∨ Z b)->w.heap.size<=b)->(∀ b,Z b->Z' b)->t.P Z' w'
structure It.Ok (B0:List Nat) (w0:World) (Z:Nat->Prop) (w:World) (t:It):Prop where
 holds:t.P Z w
 stab:t.Stab
 lt:∀ b∈t.F,b<w.heap.size
 notZ:∀ b∈t.F,¬ Z b
 org:∀ b∈t.F,b∈t.O ∨ w0.heap.size<=b
 org0:∀ b∈t.O,b∈B0
structure Sep (B0:List Nat) (w0:World) (Z:Nat->Prop) (w:World) (l:List It):Prop where
 ext:Ext B0 w0 w
 zlt:∀ b,Z b->b<w.heap.size
 ok:∀ (k:Nat) (t:It),l[k]?=some t->t.Ok B0 w0 Z w
 apart:∀ (j k:Nat) (s t:It),l[j]?=some s->l[k]?=some t->j≠k->∀ b∈s.F,b ∉ t.F
section
variable {B0:List Nat} {w0 w w':World} {Z Z':Nat->Prop} {l:List It} {t t' s s':It} {k j:Nat}
theorem Sep.nil (zlt:∀ b,Z b->b<w0.heap.size):Sep B0 w0 Z w0 []:=⟨Ext.refl _ _,zlt,fun k t h=>by simp at h,fun j k s t h=>by simp at h⟩
theorem Sep.at (hs:Sep B0 w0 Z w l) (k:Nat) (hk:l[k]?=some t):t.P Z w:=(hs.ok k t hk).holds
theorem Sep.nz (hs:Sep B0 w0 Z w l) (k:Nat) (hk:l[k]?=some t):∀ b∈t.F,¬ Z b:=(hs.ok k t hk).notZ
theorem Sep.lt (hs:Sep B0 w0 Z w l) (k:Nat) (hk:l[k]?=some t):∀ b∈t.F,b<w.heap.size:=(hs.ok k t hk).lt
theorem Sep.org (hs:Sep B0 w0 Z w l) (k:Nat) (hk:l[k]?=some t):∀ b∈t.F,b∈t.O ∨ w0.heap.size<=b:=(hs.ok k t hk).org
theorem Sep.ap (hs:Sep B0 w0 Z w l) (j k:Nat) (hj:l[j]?=some s) (hk:l[k]?=some t) (h:Nat.beq j k=false):∀ b∈s.F,b ∉ t.F:=hs.apart j k s t hj hk (fun e=>by simp_all)
theorem Sep.give (hs:Sep B0 w0 Z w0 l) (h:t.P Z w0) (st:t.Stab) (hlt:∀ b∈t.F,b<w0.heap.size) (hZ:∀ b∈t.F,¬ Z b) (hO:t.O=t.F) (hB:∀ b∈t.F,b∈B0) (ha:∀ (k:Nat) (s:It),l[k]?=some s->∀ b∈t.F,b ∉ s.F):Sep B0 w0 Z w0 (t::l) :=
 ⟨hs.ext,hs.zlt,fun k s hk=>by
  cases k with
  | zero=>simp at hk; subst hk; exact ⟨h,st,hlt,hZ,fun b hb=>.inl (by simp_all),fun b hb=>hB b (by simp_all)⟩
  | succ k=>exact hs.ok k s (by simp_all),fun j k s u hj hk hne=>by
  cases j with
  | zero =>
   grind
  | succ j =>
   cases k with
   | zero=>grind
   | succ k=>exact hs.apart j k s u (by simp_all) (by simp_all) (by omega)⟩
theorem Sep.updZ (hs:Sep B0 w0 Z w l) (k:Nat) (hk:l[k]?=some t) (e:Ext t.F w w') (h:t'.P Z' w') (st:t'.Stab) (hF:∀ b∈t'.F,(b∈t.F ∨ w.heap.size<=b)/\b<w'.heap.size/\¬ Z' b) (hZ:∀ b,Z b->Z' b) (hZ':∀ b,Z' b->Z b ∨ (w.heap.size<=b/\b<w'.heap.size)) (hO:t'.O=t.O) :
  Sep B0 w0 Z' w' (l.set k t'):=by
 have ok:=hs.ok k t hk
 have hsz:=hs.ext.size
 have hkl:k<l.length:=by
  rcases Nat.lt_or_ge k l.length with h | h
  . exact h
  . simp_all
 have old:∀ (j:Nat) (s:It),l[j]?=some s->∀ b∈s.F,b<w.heap.size:=fun j s hj=>(hs.ok j s hj).lt
 refine ⟨hs.ext.trans e (fun x hx=>.inl hx) (fun x hx=>?_),fun b hb=>?_,fun j s hj=>?_,fun i j s u hi hj hne=>?_⟩
 . rcases ok.org x hx with h | h
   . exact .inl (ok.org0 x h)
   omega
 . rcases hZ' b hb with h | h
   . have:=hs.zlt b h; have:=e.size; omega
   . exact h.2
 . by_cases hjk:j=k
   . subst hjk
     rw [List.getElem?_set_self hkl] at hj; cases hj
     refine ⟨h,st,fun b hb=>(hF b hb).2.1,fun b hb=>(hF b hb).2.2,fun b hb=>?_,fun b hb=>ok.org0 b (by simp_all)⟩
     rw [hO]
     rcases (hF b hb).1 with h | h
     . exact ok.org b h
     omega
   . rw [List.getElem?_set_ne (Ne.symm hjk)] at hj
     have o:=hs.ok j s hj
     refine ⟨o.stab Z Z' t.F w w' o.holds e (fun b hb hb'=>?_) hZ,o.stab,fun b hb=>by have:=o.lt b hb; have:=e.size; omega,fun b hb hz=>?_,o.org,o.org0⟩
     . rcases hb' with h | h
       . exact absurd h (hs.apart k j t s hk hj (Ne.symm hjk) b hb)
       . exact absurd h (ok.notZ b hb)
     . rcases hZ' b hz with h | h
       . exact o.notZ b hb h
       grind
 . by_cases hik:i=k
   . subst hik
     rw [List.getElem?_set_self hkl] at hi; cases hi
     rw [List.getElem?_set_ne hne] at hj
     intro b hb hb'
     rcases (hF b hb).1 with h | h
     . exact hs.apart i j t u hk hj hne b h hb'
     grind
   . rw [List.getElem?_set_ne (Ne.symm hik)] at hi
     by_cases hjk:j=k
     . subst hjk
       rw [List.getElem?_set_self hkl] at hj; cases hj
       intro b hb hb'
       rcases (hF b hb').1 with h | h
       . exact hs.apart i j s t hi hk hne b hb h
       grind
     . rw [List.getElem?_set_ne (Ne.symm hjk)] at hj
       exact hs.apart i j s u hi hj hne
theorem Sep.upd (hs:Sep B0 w0 Z w l) (k:Nat) (hk:l[k]?=some t) (e:Ext t.F w w') (h:t'.P Z w') (st:t'.Stab) (hF:∀ b∈t'.F,(b∈t.F ∨ w.heap.size<=b)/\b<w'.heap.size) (hO:t'.O=t.O):Sep B0 w0 Z w' (l.set k t') :=
 hs.updZ k hk e h st (fun b hb=>⟨(hF b hb).1,(hF b hb).2,fun hz=>by
  rcases (hF b hb).1 with h | h
  . exact (hs.ok k t hk).notZ b h hz
  . have:=hs.zlt b hz; omega⟩) (fun _ h=>h) (fun _ h=>.inl h) hO
theorem Sep.stepZ (hs:Sep B0 w0 Z w l) (e:Ext [] w w') (hZ:∀ b,Z b->Z' b) (hZ':∀ b,Z' b->Z b ∨ (w.heap.size<=b/\b<w'.heap.size)):Sep B0 w0 Z' w' l :=
 ⟨hs.ext.trans e (fun x hx=>.inl hx) (fun x hx=>by cases hx),fun b hb=>by
  rcases hZ' b hb with h | h
  . have:=hs.zlt b h; have:=e.size; omega
  . exact h.2,fun j s hj=>by
  have o:=hs.ok j s hj
  refine ⟨o.stab Z Z' [] w w' o.holds e (fun b hb=>by cases hb) hZ,o.stab,fun b hb=>by have:=o.lt b hb; have:=e.size; omega,fun b hb hz=>?_,o.org,o.org0⟩
  rcases hZ' b hz with h | h
  . exact o.notZ b hb h
  . have:=o.lt b hb; omega,hs.apart⟩
theorem Sep.step (hs:Sep B0 w0 Z w l) (e:Ext [] w w'):Sep B0 w0 Z w' l:=hs.stepZ e (fun _ h=>h) (fun _ h=>.inl h)
theorem Sep.add (hs:Sep B0 w0 Z w l) (e:Ext [] w w') (h:t.P Z w') (st:t.Stab) (hF:∀ b∈t.F,w.heap.size<=b/\b<w'.heap.size) (hO:t.O=[]):Sep B0 w0 Z w' (t::l):=by
 have h1:=hs.step e
 have hsz:=hs.ext.size
 refine ⟨h1.ext,h1.zlt,fun k s hk=>?_,fun j k s u hj hk hne=>?_⟩
 . cases k with
   | zero =>
    simp at hk; subst hk
    exact ⟨h,st,fun b hb=>(hF b hb).2,fun b hb hz=>by have:=hs.zlt b hz; grind,fun b hb=>.inr (by grind),fun b hb=>(by simp_all)⟩
   | succ k=>exact h1.ok k s (by simp_all)
 . cases j with
   | zero =>
    cases k with
    | zero=>omega
    | succ k =>
     simp at hj hk; subst hj
     intro b hb hb'
     have:=(hs.ok k u hk).lt b hb'; grind
   | succ j =>
    cases k with
    | zero =>
     simp at hj hk; subst hk
     intro b hb hb'
     have:=(hs.ok j s hj).lt b hb; grind
    | succ k=>exact hs.apart j k s u (by simp_all) (by simp_all) (by omega)
theorem Sep.fact (hs:Sep B0 w0 Z w l) (h:t.P Z w) (st:t.Stab) (hF:t.F=[]) (hO:t.O=[]):Sep B0 w0 Z w (t::l) :=
 hs.add (Ext.refl [] w) h st (fun b hb=>by simp_all) hO
theorem Sep.drop (hs:Sep B0 w0 Z w (t::l)):Sep B0 w0 Z w l :=
 ⟨hs.ext,hs.zlt,fun k s hk=>hs.ok (k+1) s (by simp_all),fun j k s u hj hk hne=>hs.apart (j+1) (k+1) s u (by simp_all) (by simp_all) (by omega)⟩
theorem Sep.pick (hs:Sep B0 w0 Z w l) (ks:List Nat) (hn:(ks.all fun k=>Nat.blt k l.length)=true) (hu:ks.Nodup) {l':List It} (e:ks.map (fun k=>l.getD k ⟨[],[],fun _ _=>True⟩)=l'):Sep B0 w0 Z w l':=by
 subst e
 have get:∀ (j:Nat) (t:It),(ks.map (fun k=>l.getD k ⟨[],[],fun _ _=>True⟩))[j]?=some t->∃ k,ks[j]?=some k/\l[k]?=some t:=by
  intro j t h
  rw [List.getElem?_map] at h
  cases hk:ks[j]? with
  | none=>simp_all
  | some k =>
   rw [hk] at h; simp only [Option.map_some,Option.some.injEq] at h
   have hlt:k<l.length:=by
    rw [List.all_eq_true] at hn
    exact A1 (hn k (List.mem_of_getElem? hk))
   simp_all
 refine ⟨hs.ext,hs.zlt,fun j t h=>?_,fun i j s t hi hj hne=>?_⟩
 . obtain ⟨k,_,h⟩:=get j t h; exact hs.ok k t h
 . obtain ⟨k1,a1,b1⟩:=get i s hi
   obtain ⟨k2,a2,b2⟩:=get j t hj
   refine hs.apart k1 k2 s t b1 b2 fun e=>hne ?_
   subst e
   have hi':i<ks.length:=by rcases Nat.lt_or_ge i ks.length with h | h; exact h; rw [List.getElem?_eq_none h] at a1; cases a1
   have hj':j<ks.length:=by rcases Nat.lt_or_ge j ks.length with h | h; exact h; rw [List.getElem?_eq_none h] at a2; cases a2
   rw [List.getElem?_eq_getElem hi'] at a1
   rw [List.getElem?_eq_getElem hj'] at a2
   exact (List.getElem_inj hu).1 ((Option.some.inj a1).trans (Option.some.inj a2).symm)
theorem Sep.freeze (hs:Sep B0 w0 Z w l) (k:Nat) (hk:l[k]?=some t) (h:t'.P (fun b=>Z b ∨ b∈t.F) w) (st:t'.Stab) (hF:t'.F=[]) (hO:t'.O=[]):Sep B0 w0 (fun b=>Z b ∨ b∈t.F) w (l.set k t'):=by
 have hkl:k<l.length:=by
  rcases Nat.lt_or_ge k l.length with h | h
  . exact h
  . simp_all
 refine ⟨hs.ext,fun b hb=>?_,fun j s hj=>?_,fun i j s u hi hj hne=>?_⟩
 . rcases hb with h | h
   . exact hs.zlt b h
   . exact (hs.ok k t hk).lt b h
 . by_cases hjk:j=k
   . subst hjk
     rw [List.getElem?_set_self hkl] at hj; cases hj
     exact ⟨h,st,fun b hb=>(by simp_all),fun b hb=>(by simp_all),fun b hb=>(by simp_all),fun b hb=>(by simp_all)⟩
   . rw [List.getElem?_set_ne (Ne.symm hjk)] at hj
     have o:=hs.ok j s hj
     refine ⟨o.stab Z _ [] w w o.holds (Ext.refl _ _) (fun b hb=>(by cases hb)) (fun b hb=>.inl hb),o.stab,o.lt,fun b hb hz=>?_,o.org,o.org0⟩
     rcases hz with h | h
     . exact o.notZ b hb h
     . exact hs.apart j k s t hj hk hjk b hb h
 . by_cases hik:i=k
   . simp_all
   . rw [List.getElem?_set_ne (Ne.symm hik)] at hi
     by_cases hjk:j=k
     . simp_all
     . rw [List.getElem?_set_ne (Ne.symm hjk)] at hj
       exact hs.apart i j s u hi hj hne
end
end Go.Wl
end
section
namespace Go.Wl
open Go Go.Wk
def M2 (w:World) (b:Nat) (T:TypeId) (cs:List Value):Prop:=∃ z:Nat×Nat,(z=(0,0) ∨ cs.length<=z.1)/\w.heap[b]?=some (.cells cs.toArray T z)
section
variable {w w':World} {b:Nat} {T:TypeId} {cs:List Value} {B:List Nat}
theorem _root_.Go.Wk.Own.z (h:Own w b T cs):M2 w b T cs:=⟨(0,0),.inl rfl,h⟩
theorem M2.lt (h:M2 w b T cs):b<w.heap.size:=by obtain ⟨z,_,h⟩:=h; exact V1 h
theorem M2.ext (h:M2 w b T cs) (e:Ext B w w') (hb:b ∉ B):M2 w' b T cs:=by obtain ⟨z,hz,h⟩:=h; exact ⟨z,hz,e.get hb h⟩
theorem M2.sim (h:M2 w b T cs) (e:Sim w w'):M2 w' b T cs:=by obtain ⟨k,rfl⟩:=e; exact h
theorem M2.cellsAt (h:M2 w b T cs) {o:Nat} {c:List Value} (hc:∀ j,j<c.length->cs[o+j]?=c[j]?):Cells w b o c:=by
 obtain ⟨z,_,h⟩:=h
 exact ⟨_,_,_,h,fun j hj=>by simpa using hc j hj⟩
theorem M2.setCell (h:M2 w b T cs) (o:Nat) (v:Value) :
  M2 (w.setCell ⟨b,o,none⟩ v) b T (cs.set o v)/\Ext [b] w (w.setCell ⟨b,o,none⟩ v)/\(w.setCell ⟨b,o,none⟩ v).heap.size=w.heap.size:=by
 obtain ⟨z,hz,h⟩:=h
 refine ⟨⟨z,by simpa using hz,?_⟩,⟨rfl,rfl,rfl,by simp [World.setCell],fun k hk hb=>?_⟩,by simp [World.setCell]⟩
 . simp [World.setCell,Array.getElem?_modify,h]
 . simp [World.setCell,Array.getElem?_modify]
   intro e; subst e; simp at hb
theorem a6q {P:Program} {o:Nat} {v:Value} (h:M2 w b T cs) (ho:o<cs.length) (hv:w5 v=true) :
  (store ⟨b,o,none⟩ v).run P w=.ok () (w.setCell ⟨b,o,none⟩ v):=by
 obtain ⟨z,hz,h⟩:=h
 have hc:w.cell? ⟨b,o,none⟩=some cs[o]:=by simp [World.cell?,h,ho]
 have hf:w.frozen? ⟨b,o,none⟩=false:=by
  rcases hz with rfl | hz
  . simp [World.frozen?,h]
  . simp [World.frozen?,h]; omega
 unfold store
 cases v <;> first | (simp [w5] at hv; done) | simp [Sem.run,hc,hf]
theorem I2 {P:Program}:∀ (c:List Value) (o i:Nat) (cs:List Value) (w:World),M2 w b T cs->o+i+c.length<=cs.length->(∀ v∈c,w5 v=true) ->
  ∃ w',(storeCells ⟨b,o,none⟩ c i).run P w=.ok () w'/\M2 w' b T (v7 cs (o+i) c)/\Ext [b] w w'/\w'.heap.size=w.heap.size/\(∀ k,(storeCells ⟨b,o,none⟩ c i).run P { w with drawn:=k }=.ok () { w' with drawn:=k }):=by
 intro c
 induction c with
 | nil=>intro o i cs w h _ _; exact ⟨w,rfl,h,Ext.refl _ _,rfl,fun _=>rfl⟩
 | cons v r ih =>
  intro o i cs w h hl hv
  have e:(Addr.add ⟨b,o,none⟩ i)=⟨b,o+i,none⟩:=by
   unfold Addr.add; split
   . rename_i h; rw [h]; rfl
   . rfl
  simp at hl
  obtain ⟨h1,h2,h3⟩:=h.setCell (o+i) v
  have hrun:=a6q (P:=P) h (o:=o+i) (v:=v) (by omega) (hv v (by simp))
  obtain ⟨w',hr,ho,he,hs,hk⟩:=ih o (i+1) _ _ h1 (by simp; omega) (fun u hu=>hv u (by simp [hu]))
  refine ⟨w',?_,by simpa [v7,Nat.add_assoc] using ho,h2.trB he,by rw [hs,h3],fun k=>?_⟩
  . simp only [storeCells,e,Sem.run_bind,hrun,Result.andThen_ok,hr]
  . have hrun':=a6q (P:=P) (w:={ w with drawn:=k }) h (o:=o+i) (v:=v) (by omega) (hv v (by simp))
    simp only [storeCells,e,Sem.run_bind,hrun',Result.andThen_ok]
    exact hk k
end
section
variable {P:Program} {n:Nat} {ops:List Oper} {Q:Exit->Fr->World->Prop} {rest:List Oper} {f:Fr} {w:World} {ty T E:TypeId} {pos:String} {after:Array Edge} {x y:Operand}
theorem b3y {b o mm:Nat} {cs c:List Value} (hz:∀ w,(sizeOf T).run P w=.ok mm w) (hx:ev f x=.pointer (some ⟨b,o,none⟩)) (hc:(ev f y).cells.toList=c) (hm:c.length=mm) (ho:M2 w b E cs) (hl:o+mm<=cs.length) (hp:c.all w5=true)
  (K:∀ w',Ext [b] w w'->w'.heap.size=w.heap.size->M2 w' b E (v7 cs o c)->WL P false n ops Q rest f w') :
  WL P false n ops Q (⟨none,.store T x y,ty,pos,after,none⟩::rest) f w :=
 c0f rfl rfl fun w1 hs=>by
  obtain ⟨k,rfl⟩:=hs
  obtain ⟨w',hr,ho',he,hsz,hk⟩:=I2 (P:=P) c o 0 cs w ho (by omega) (fun v hv=>by rw [List.all_eq_true] at hp; exact hp v hv)
  refine ⟨_,w',?_,⟨k,rfl⟩,K w' he hsz (by simpa using ho')⟩
  have hsize:(ev f y).cells.size=mm:=by rw [<- Array.length_toList,hc,hm]
  have hrun:(storeVar T ⟨b,o,none⟩ (ev f y)).run P { w with drawn:=k }=.ok () { w' with drawn:=k }:=by
   unfold storeVar
   simp only [Sem.run_bind,hz,Result.andThen_ok]
   rw [if_neg (by simp only [hsize,ne_eq,not_true_eq_false,not_false_eq_true]),hc]
   exact hk k
  simp only [execOp,hx,Instr.storeAt,Instr.sureAddr,Sem.run_bind,Sem.run_pure,Result.andThen_ok,hrun]
end
end Go.Wl
end
section
namespace Go.Wl
open Go Go.Wk
def Ac {α:Type} (r:Rd α) (Z:Nat->Prop) (w:World) (v:Value) (l:List α) (bs:List Nat):Prop :=
 (v=.slice none 0 0/\l=[]/\bs=[]) ∨
 ∃ b cap C T,v=.slice (some ⟨b,0,none⟩) l.length cap/\bs=[b]/\M2 w b T C/\C.length=cap * r.sz/\l.length<=cap /\
  ∀ i (h:i<l.length),∃ c,c.length=r.sz/\(∀ j,j<r.sz->C[i * r.sz+j]?=c[j]?)/\r.rd Z w c l[i]
def Src {α:Type} (r:Rd α) (Z:Nat->Prop) (w:World) (v:Value) (xs:List α):Prop :=
 ∃ A cap,v=.slice A xs.length cap/\∃ cs:List (List Value),cs.length=xs.length/\(∀ i (h:i<xs.length) (h':i<cs.length),r.rd Z w cs[i] xs[i])/\(xs=[] ∨ ∃ b o,A=some ⟨b,o,none⟩/\Cells w b o cs.flatten)
section
variable {α:Type} {r:Rd α} {Z Z':Nat->Prop} {B bs:List Nat} {w w':World} {v:Value} {l:List α}
theorem Ac.nil:Ac r Z w (.slice none 0 0) [] []:=.inl ⟨rfl,rfl,rfl⟩
theorem Ac.val (h:Ac r Z w v l bs):∃ A cap,v=.slice A l.length cap:=by
 rcases h with ⟨rfl,rfl,rfl⟩ | ⟨b,cap,C,T,rfl,_⟩
 all_goals simp_all
theorem Ac.lt (h:Ac r Z w v l bs):∀ b∈bs,b<w.heap.size:=by
 rcases h with ⟨rfl,rfl,rfl⟩ | ⟨b,cap,C,T,rfl,rfl,ho,_⟩
 . simp
 . intro x hx; simp at hx; subst hx; exact ho.lt
theorem Ac.stab (h:Ac r Z w v l bs) (e:Ext B w w') (hB:∀ b∈B,(b∈bs ∨ Z b)->w.heap.size<=b) (hZ:∀ b,Z b->Z' b):Ac r Z' w' v l bs:=by
 rcases h with h | ⟨b,cap,C,T,hv,hb,ho,hC,hl,hc⟩
 . exact .inl h
 . have hlt:=ho.lt
   refine .inr ⟨b,cap,C,T,hv,hb,ho.ext e (fun hm=>by grind),hC,hl,fun i hi=>?_⟩
   obtain ⟨c,h1,h2,h3⟩:=hc i hi
   exact ⟨c,h1,h2,r.mono h3 e (fun x hx hz=>hB x hx (.inr hz)) (fun x hx _=>hZ x hx)⟩
theorem Ac.rd (h:Ac r Z w v l bs) (hl:l.length<=9223372036854775807):(v8 r).rd (fun b=>Z b ∨ b∈bs) w [v] l:=by
 rcases h with ⟨rfl,rfl,rfl⟩ | ⟨b,cap,C,T,rfl,rfl,ho,hC,hcap,hc⟩
 . exact W5
 . refine ⟨hl,_,_,rfl,⟨(fun h=>by cases h),hcap⟩,fun i hi=>?_⟩
   obtain ⟨c,h1,h2,h3⟩:=hc i hi
   exact ⟨b,0,c,rfl,.inr (by simp),ho.cellsAt fun j hj=>by
    simp_all,r.weak h3 (fun x hx _=>.inl hx)⟩
end
section
variable {α:Type} {r:Rd α} {Z:Nat->Prop} {w:World} {v:Value} {xs:List α}
theorem Src.data (h:(v8 r).rd Z w [v] xs):Src r Z w v xs:=by
 obtain ⟨A,cap,rfl⟩:=P5 h
 refine ⟨A,cap,rfl,?_⟩
 by_cases hne:xs=[]
 . simp_all
 . have hpos:0<xs.length:=List.length_pos_iff.2 hne
   obtain ⟨b,o,c0,hA,_,_,_⟩:=a0u h hpos
   have h':∀ i,i<xs.length->∃ c,Cells w b (o+i * r.sz) c/\∃ hi:i<xs.length,r.rd Z w c xs[i]:=fun i hi=>by
    obtain ⟨b',o',c,hA',_,hc,hr⟩:=a0u h hi
    grind
   obtain ⟨cs,hcl,hcs⟩:=R4 xs.length h'
   have hsz:∀ c∈cs,c.length=r.sz:=fun c hc=>by
    obtain ⟨i,hi,rfl⟩:=List.getElem_of_mem hc
    obtain ⟨_,_,hr⟩:=hcs i hi
    exact r.len hr
   refine ⟨cs,hcl,fun i hi hi'=>?_,.inr ⟨b,o,hA,?_⟩⟩
   . simp_all
   . obtain ⟨⟨C,T,z,hh,_⟩,_⟩:=hcs 0 (by omega)
     refine ⟨C,T,z,hh,fun j hj=>?_⟩
     rw [E4 hsz] at hj
     have hsz0:0<r.sz:=by rcases Nat.eq_zero_or_pos r.sz with h | h; rw [h] at hj; simp at hj; exact h
     have hjq:j / r.sz<cs.length:=Nat.div_lt_of_lt_mul (by grind)
     have hjr:j % r.sz<r.sz:=Nat.mod_lt _ hsz0
     have hjd:j / r.sz * r.sz+j % r.sz=j:=by rw [Nat.mul_comm]; exact Nat.div_add_mod j r.sz
     obtain ⟨⟨C',T',z',hh',hc'⟩,_,hr⟩:=hcs (j / r.sz) hjq
     rw [hh] at hh'; cases hh'
     have e1:=hc' (j % r.sz) (by simp_all)
     have e2:=C5 hsz (j / r.sz) (j % r.sz) hjr
     grind
theorem Ac.rows {bs:List Nat} {b cap:Nat} {C:List Value} {T:TypeId} (ho:M2 w b T C) (hc:∀ i (h:i<xs.length),∃ c,c.length=r.sz/\(∀ j,j<r.sz->C[i * r.sz+j]?=c[j]?)/\r.rd Z w c xs[i]) :
  ∃ cs:List (List Value),cs.length=xs.length/\(∀ i (h:i<xs.length) (h':i<cs.length),r.rd Z w cs[i] xs[i])/\Cells w b 0 cs.flatten:=by
 have h':∀ i,i<xs.length->∃ c:List Value,c.length=r.sz/\(∀ j,j<r.sz->C[i * r.sz+j]?=c[j]?)/\∃ hi:i<xs.length,r.rd Z w c xs[i]:=fun i hi=>by
  simp_all
 obtain ⟨os,hol,hos⟩:=R4 xs.length h'
 have hsz:∀ c∈os,c.length=r.sz:=fun c hc=>by
  obtain ⟨i,hi,rfl⟩:=List.getElem_of_mem hc
  grind
 refine ⟨os,hol,fun i hi hi'=>(hos i hi').2.2.2,ho.cellsAt fun j hj=>?_⟩
 rw [E4 hsz] at hj
 have hsz0:0<r.sz:=by rcases Nat.eq_zero_or_pos r.sz with h | h; rw [h] at hj; simp at hj; exact h
 have hjq:j / r.sz<os.length:=Nat.div_lt_of_lt_mul (by grind)
 have hjr:j % r.sz<r.sz:=Nat.mod_lt _ hsz0
 have hjd:j / r.sz * r.sz+j % r.sz=j:=by rw [Nat.mul_comm]; exact Nat.div_add_mod j r.sz
 have e1:=(hos (j / r.sz) hjq).2.1 (j % r.sz) hjr
 have e2:=C5 hsz (j / r.sz) (j % r.sz) hjr
 grind
theorem Src.ac {bs:List Nat} (h:Ac r Z w v xs bs):Src r Z w v xs:=by
 rcases h with ⟨rfl,rfl,rfl⟩ | ⟨b,cap,C,T,rfl,rfl,ho,hC,hcap,hc⟩
 . exact ⟨none,0,rfl,[],rfl,by simp,.inl rfl⟩
 . obtain ⟨cs,h1,h2,h3⟩:=Ac.rows (bs:=[b]) (cap:=cap) ho hc
   exact ⟨_,_,rfl,cs,h1,h2,.inr ⟨b,0,rfl,h3⟩⟩
end
def H2 {α:Type} (r:Rd α) (Z:Nat->Prop) (w:World):List (List Value)->List α->Prop
 | [],[]=>True
 | c::cs,x::xs=>r.rd Z w c x/\H2 r Z w cs xs
 | _,_=>False
theorem H2.get {α:Type} {r:Rd α} {Z:Nat->Prop} {w:World}:∀ {cs:List (List Value)} {xs:List α},H2 r Z w cs xs->cs.length=xs.length/\∀ i (h:i<xs.length) (h':i<cs.length),r.rd Z w cs[i] xs[i]
 | [],[],_=>⟨rfl,fun i h=>by simp at h⟩
 | c::cs,x::xs,⟨h1,h2⟩=>by
  obtain ⟨a,b⟩:=H2.get h2
  grind
theorem H2.rep {α:Type} {r:Rd α} {Z:Nat->Prop} {w:World} {c:List Value} {x:α} (h:r.rd Z w c x):∀ n,H2 r Z w (List.replicate n c) (List.replicate n x)
 | 0=>trivial
 | n+1=>⟨h,H2.rep h n⟩
theorem Ac.lit {α:Type} {r:Rd α} {Z:Nat->Prop} {w:World} {cs:List (List Value)} {l:List α} {b:Nat} {T:TypeId} {C:List Value} (ho:Own w b T C) (hC:C=cs.flatten) (h:H2 r Z w cs l):Ac r Z w (.slice (some ⟨b,0,none⟩) l.length l.length) l [b]:=by
 subst hC
 obtain ⟨h1,h2⟩:=h.get
 have hsz:∀ c∈cs,c.length=r.sz:=fun c hc=>by
  obtain ⟨i,hi,rfl⟩:=List.getElem_of_mem hc
  exact r.len (h2 i (by omega) hi)
 refine .inr ⟨b,l.length,_,T,rfl,rfl,ho.z,by rw [E4 hsz,h1],Nat.le_refl _,fun i hi=>?_⟩
 have hi':i<cs.length:=by omega
 refine ⟨cs[i],hsz _ (List.getElem_mem _),fun j hj=>?_,h2 i hi hi'⟩
 rw [C5 hsz i j hj,List.getElem?_eq_getElem hi']; rfl
abbrev a61 (b:Nat) (T:TypeId) (cs:List Value) (O:List Nat):It:=⟨[b],O,fun _ w=>Own w b T cs⟩
abbrev iAc {α:Type} (r:Rd α) (v:Value) (l:List α) (bs O:List Nat):It:=⟨bs,O,fun Z w=>Ac r Z w v l bs⟩
structure Ob (α:Type) where
 is:(Nat->Prop)->World->α->List Nat->Prop
 stab:∀ {x F},It.Stab ⟨F,[],fun Z w=>is Z w x F⟩
 lt:∀ {Z w x F},is Z w x F->∀ b∈F,b<w.heap.size
section
variable {b it:Nat} {T:TypeId} {cs:List Value} {O bs:List Nat} {v:Value} {α κ:Type} {r:Rd α} {l:List α} {x:α} {ky:Key κ} {L D:List (κ×Value)}
theorem c7f:(a61 b T cs O).Stab:=fun Z Z' B w w' h e hB _=>h.ext e (fun hm=>by have:=hB b hm (.inl (by simp)); have:=Own.lt h; omega)
theorem sAc:(iAc r v l bs O).Stab:=fun Z Z' B w w' h e hB hZ=>Ac.stab h e hB hZ
end
section
variable {P:Program} {α:Type} {r:Rd α} {Z:Nat->Prop} {bs:List Nat} {w:World} {v:Value} {l:List α} {T E:TypeId} {info:TypeInfo} {zv:Value}
theorem K2 {sz:Nat} {A:Option Addr} {cap k:Nat} {cs:List (List Value)} (hl:cs.length=k) (hs:∀ c∈cs,c.length=sz) (h:k=0 ∨ ∃ b o,A=some ⟨b,o,none⟩/\Cells w b o cs.flatten) :
  (Builtin.firstCells sz k (.slice A k cap)).run P w=.ok cs.flatten.toArray w:=by
 cases A with
 | none =>
  rcases h with h | ⟨b,o,h,_⟩
  . subst h; have:cs=[]:=List.eq_nil_of_length_eq_zero hl; subst this; simp [Builtin.firstCells,Sem.run,pure]
  . cases h
 | some a =>
  rcases h with h | ⟨b,o,h,hc⟩
  . subst h; have:cs=[]:=List.eq_nil_of_length_eq_zero hl; subst this; simp [Builtin.firstCells,loadCells,loadCellsFrom,Sem.run,pure]
  . cases h
    have:=a0y (P:=P) hc
    rw [E4 hs,hl] at this
    simpa [Builtin.firstCells] using this
theorem b66 {xs:List α} {xv:Value} (hT:∀ w,(underlying T).run P w=.ok (.slice E) w) (hI:∀ w,(typeInfo E).run P w=.ok info w) (hE:∀ w,(sizeOf E).run P w=.ok r.sz w) (hz:∀ w,(zeroValue E).run P w=.ok zv w) (hzs:zv.cells.size=r.sz)
  (ha:Ac r Z w v l bs) (hx:Src r Z w xv xs) (hnz:∀ b∈bs,¬ Z b) (hb:(l.length+xs.length) * info.bytes<=140737488355328) (hb1:1<=info.bytes) :
  ∀ w1,Sim w w1->∃ v' w2 w',(Builtin.append_ #[T,T] T #[v,xv]).run P w1=.ok v' w2/\Sim w' w2/\∃ bs',Ac r Z w' v' (l++xs) bs'/\Ext bs w w'/\(∀ b∈bs',b∈bs ∨ w.heap.size<=b):=by
 intro w1 hs
 obtain ⟨kk,rfl⟩:=hs
 obtain ⟨A,cap,rfl⟩:=ha.val
 obtain ⟨B,xcap,rfl,cs,hcl,hcr0,hrow⟩:=hx
 have hcr:∀ i (h:i<xs.length) (h':i<cs.length),r.rd Z w cs[i] xs[i]:=hcr0
 have hcs:∀ c∈cs,c.length=r.sz:=fun c hc=>by
  obtain ⟨i,hi,rfl⟩:=List.getElem_of_mem hc
  exact r.len (hcr i (by omega) hi)
 have hrow':xs.length=0 ∨ ∃ b o,B=some ⟨b,o,none⟩/\Cells { w with drawn:=kk } b o cs.flatten:=by
  rcases hrow with h | ⟨b,o,h1,h2⟩
  . simp_all
  . exact .inr ⟨b,o,h1,h2.sim ⟨kk,rfl⟩⟩
 have hnew:(Builtin.firstCells r.sz xs.length (.slice B xs.length xcap)).run P { w with drawn:=kk }=.ok cs.flatten.toArray { w with drawn:=kk }:=K2 hcl hcs hrow'
 by_cases hfit:l.length+xs.length<=cap
 . -- there is room
   rcases ha with ⟨hv,rfl,rfl⟩ | ⟨b,cap',C,T',hv,rfl,ho,hC,hcap,hc⟩
   . simp at hv
     obtain ⟨rfl,rfl⟩:=hv
     have hx0:xs=[]:=List.eq_nil_of_length_eq_zero (by omega)
     subst hx0
     refine ⟨.slice none 0 0,{ w with drawn:=kk },w,?_,⟨kk,rfl⟩,[],Ac.nil,Ext.refl _ _,by simp⟩
     simp only [Builtin.append_,hT,hE,Builtin.lenOf,Sem.run_bind,Result.andThen_ok,Sem.run_pure,List.getElem?_toArray,List.getElem?_cons_zero,List.getElem?_cons_succ,Bool.false_eq_true,if_false,Bool.not_false,if_true]
     simp_all
   . simp at hv
     obtain ⟨rfl,rfl⟩:=hv
     have hfl:=E4 hcs
     have hpl:∀ u∈cs.flatten,w5 u=true:=by
      intro u hu
      obtain ⟨c,hc1,hc2⟩:=List.mem_flatten.1 hu
      obtain ⟨i,hi,rfl⟩:=List.getElem_of_mem hc1
      have:=r.plain (hcr i (by omega) hi)
      rw [List.all_eq_true] at this
      exact this u hc2
     have hroom:l.length * r.sz+0+cs.flatten.length<=C.length:=by
      rw [hfl,hC,hcl,Nat.add_zero,<- Nat.add_mul]; exact Nat.mul_le_mul_right _ hfit
     obtain ⟨w',hr,ho',he,hsz,hk⟩:=I2 (P:=P) cs.flatten (l.length * r.sz) 0 C w ho hroom hpl
     refine ⟨.slice (some ⟨b,0,none⟩) (l.length+xs.length) cap,{ w' with drawn:=kk },w',?_,⟨kk,rfl⟩,[b],?_,he,by simp⟩
     . have e:(Addr.add ⟨b,0,none⟩ (l.length * r.sz))=⟨b,l.length * r.sz,none⟩:=by
         unfold Addr.add; split
         . simp_all
         . simp
       simp only [Builtin.append_,hT,hE,Builtin.lenOf,Sem.run_bind,Result.andThen_ok,Sem.run_pure,List.getElem?_toArray,List.getElem?_cons_zero,List.getElem?_cons_succ,Bool.false_eq_true,if_false,Bool.not_false,if_true]
       simp_all
     . refine .inr ⟨b,cap,v7 C (l.length * r.sz+0) cs.flatten,T',by simp,rfl,ho',by rw [B8,hC],by simp_all,fun i hi=>?_⟩
       have hget:=fun k=>P4 cs.flatten C (l.length * r.sz+0) k hroom
       by_cases hil:i<l.length
       . obtain ⟨c,h1,h2,h3⟩:=hc i hil
         refine ⟨c,h1,fun j hj=>?_,?_⟩
         . have hlt:i * r.sz+j<l.length * r.sz:=by
             have:(i+1) * r.sz<=l.length * r.sz:=Nat.mul_le_mul_right _ hil
             rw [Nat.add_mul] at this; omega
           grind
         . rw [List.getElem_append_left hil]
           exact r.mono h3 he (fun x hx hz=>absurd hz (hnz x hx)) (fun x hx _=>hx)
       . have hix:i-l.length<xs.length:=by simp at hi; omega
         have hic:i-l.length<cs.length:=by omega
         refine ⟨cs[i-l.length],hcs _ (List.getElem_mem _),fun j hj=>?_,?_⟩
         . have e1:i * r.sz+j-(l.length * r.sz+0)=(i-l.length) * r.sz+j:=by
             rw [Nat.sub_mul]; have:l.length * r.sz<=i * r.sz:=Nat.mul_le_mul_right _ (by omega); omega
           have hlt:(i-l.length) * r.sz+j<cs.flatten.length:=by
            rw [hfl]
            have:(i-l.length+1) * r.sz<=cs.length * r.sz:=Nat.mul_le_mul_right _ hic
            rw [Nat.add_mul] at this; omega
           have hge:l.length * r.sz<=i * r.sz:=Nat.mul_le_mul_right _ (by omega)
           rw [hget,if_pos (by omega),e1,C5 hcs _ _ hj,List.getElem?_eq_getElem hic]; rfl
         . rw [List.getElem_append_right (by omega)]
           exact r.mono (hcr _ hix hic) he (fun x hx hz=>absurd hz (hnz x hx)) (fun x hx _=>hx)
 . -- there is none
   have hneed:¬ l.length+xs.length<=cap:=hfit
   have hns:=Wk.nextslicecap_le (need:=l.length+xs.length) (cap:=cap) (by omega)
   have hns':¬ (Builtin.nextslicecap (l.length+xs.length) cap * info.bytes > 2 ^ 48):=by
    have:=Nat.mul_le_mul_right info.bytes hns
    have e:(2:Nat) ^ 48=281474976710656:=by decide
    rw [Nat.mul_assoc] at this; omega
   have hlen:l.length+xs.length<=140737488355328:=by
    have:=Nat.mul_le_mul_left (l.length+xs.length) hb1; omega
   have hold:∃ os:List (List Value),os.length=l.length/\(∀ c∈os,c.length=r.sz)/\(∀ i (h:i<l.length) (h':i<os.length),r.rd Z w os[i] l[i])/\(Builtin.firstCells r.sz l.length (.slice A l.length cap)).run P { w with drawn:=kk+1 }=.ok os.flatten.toArray { w with drawn:=kk+1 }:=by
    rcases ha with ⟨hv,rfl,rfl⟩ | ⟨b,cap',C,T',hv,rfl,ho,hC,hcap,hc⟩
    . simp at hv
      obtain ⟨rfl,rfl⟩:=hv
      exact ⟨[],rfl,by simp,by simp,by simp [Builtin.firstCells,Sem.run,pure]⟩
    . simp at hv
      obtain ⟨rfl,rfl⟩:=hv
      have h':∀ i,i<l.length->∃ c:List Value,c.length=r.sz/\(∀ j,j<r.sz->C[i * r.sz+j]?=c[j]?)/\∃ hi:i<l.length,r.rd Z w c l[i]:=fun i hi=>by
       simp_all
      obtain ⟨os,hol,hos⟩:=R4 l.length h'
      have hsz:∀ c∈os,c.length=r.sz:=fun c hc=>by
       obtain ⟨i,hi,rfl⟩:=List.getElem_of_mem hc
       grind
      refine ⟨os,hol,hsz,fun i hi hi'=>(hos i hi').2.2.2,K2 hol hsz (.inr ⟨b,0,rfl,(ho.sim ⟨kk+1,rfl⟩).cellsAt fun j hj=>?_⟩)⟩
      rw [E4 hsz] at hj
      have hsz0:0<r.sz:=by rcases Nat.eq_zero_or_pos r.sz with h | h; rw [h] at hj; simp at hj; exact h
      have hjq:j / r.sz<os.length:=Nat.div_lt_of_lt_mul (by grind)
      have hjr:j % r.sz<r.sz:=Nat.mod_lt _ hsz0
      have hjd:j / r.sz * r.sz+j % r.sz=j:=by rw [Nat.mul_comm]; exact Nat.div_add_mod j r.sz
      have e1:=(hos (j / r.sz) hjq).2.1 (j % r.sz) hjr
      have e2:=C5 hsz (j / r.sz) (j % r.sz) hjr
      grind
   obtain ⟨os,hol,hos,hor,holdr⟩:=hold
   have hnew1:(Builtin.firstCells r.sz xs.length (.slice B xs.length xcap)).run P { w with drawn:=kk+1 }=.ok cs.flatten.toArray { w with drawn:=kk+1 }:=K2 hcl hcs (by
    rcases hrow with h | ⟨b,o,h1,h2⟩
    . simp_all
    . exact .inr ⟨b,o,h1,h2.sim ⟨kk+1,rfl⟩⟩)
   let nc:=(Question.appendCap (l.length+xs.length) cap E).cut (w.tape kk (Question.appendCap (l.length+xs.length) cap E))
   have hnc:l.length+xs.length<=nc:=by show _<=_+_ % _; omega
   let row:=os.flatten.toArray++cs.flatten.toArray++Builtin.zeroCells zv.cells (nc-(l.length+xs.length))
   refine ⟨.slice (some ⟨w.heap.size,0,none⟩) (l.length+xs.length) nc,{ w with drawn:=kk+1,heap:=w.heap.push (.cells row E) },{ w with heap:=w.heap.push (.cells row E) },?_,⟨kk+1,rfl⟩,[w.heap.size],?_,(Ext.push w _).mono (by simp),by simp⟩
   . have hch:(choose (.appendCap (l.length+xs.length) cap E)).run P { w with drawn:=kk }=.ok nc { w with drawn:=kk+1 }:=by
       simp [choose,Sem.run,Question.forced,nc]
     have hroom:∀ m (w:World),(askRoom m).run P w=.ok () w:=fun m w=>by simp_all
     have hnl:¬ ((l.length:Int)+(xs.length:Int) > 9223372036854775807/\(false=true ∨ info.bytes=0)):=by omega
     simp only [Builtin.append_,hT,hE,Builtin.lenOf,Sem.run_bind,Result.andThen_ok,Sem.run_pure,List.getElem?_toArray,List.getElem?_cons_zero,List.getElem?_cons_succ,Bool.false_eq_true,if_false,Bool.not_false,if_true]
     rw [if_neg hfit]
     simp only [Bool.false_eq_true,if_false,Sem.run_bind,hI,Result.andThen_ok,false_or]
     rw [if_neg (by omega)]
     simp only [Sem.run_bind,hI,Result.andThen_ok]
     rw [if_neg hns']
     simp only [Sem.run_bind,Sem.run_pure,hch,hI,hroom,holdr,hnew1,hz,Result.andThen_ok,newRow,newObj,Sem.run]
     rfl
   . have hlo:=E4 hos
     have hlc:=E4 hcs
     refine .inr ⟨w.heap.size,nc,row.toList,E,by simp,rfl,Own.z (by simp [Own]),?_,by simp_all,fun i hi=>?_⟩
     . simp only [row,Array.toList_append,List.length_append,Array.length_toList,List.size_toArray,hlo,hlc,a0z,hzs,hol,hcl]
       rw [<- Nat.add_mul,<- Nat.add_mul]; simp_all
     . have hrow:row.toList=os.flatten++(cs.flatten++(Builtin.zeroCells zv.cells (nc-(l.length+xs.length))).toList):=by simp [row]
       rw [hrow]
       by_cases hil:i<l.length
       . have hio:i<os.length:=by omega
         refine ⟨os[i],hos _ (List.getElem_mem _),fun j hj=>?_,?_⟩
         . have hlt:i * r.sz+j<os.flatten.length:=by
             rw [hlo]; have:(i+1) * r.sz<=os.length * r.sz:=Nat.mul_le_mul_right _ hio
             rw [Nat.add_mul] at this; omega
           rw [List.getElem?_append_left hlt,C5 hos _ _ hj,List.getElem?_eq_getElem hio]; rfl
         . rw [List.getElem_append_left hil]
           exact r.mono (hor i hil hio) (Ext.push w _) (fun x hx=>by cases hx) (fun x hx _=>hx)
       . have hix:i-l.length<xs.length:=by simp at hi; omega
         have hic:i-l.length<cs.length:=by omega
         refine ⟨cs[i-l.length],hcs _ (List.getElem_mem _),fun j hj=>?_,?_⟩
         . have hge:l.length * r.sz<=i * r.sz:=Nat.mul_le_mul_right _ (by omega)
           have e1:i * r.sz+j-os.flatten.length=(i-l.length) * r.sz+j:=by rw [hlo,hol,Nat.sub_mul]; omega
           have hlt:(i-l.length) * r.sz+j<cs.flatten.length:=by
            rw [hlc]; have:(i-l.length+1) * r.sz<=cs.length * r.sz:=Nat.mul_le_mul_right _ hic
            rw [Nat.add_mul] at this; omega
           rw [List.getElem?_append_right (by grind),e1,List.getElem?_append_left hlt,C5 hcs _ _ hj,List.getElem?_eq_getElem hic]; rfl
         . rw [List.getElem_append_right (by omega)]
           exact r.mono (hcr _ hix hic) (Ext.push w _) (fun x hx=>by cases hx) (fun x hx _=>hx)
end
end Go.Wl
end
section
namespace Go.Wl
open Go Go.Wk
def a9g (w:World) (a:Addr) (cs:List Value):Prop:=a.spot=none/\Cells w a.block a.off cs
section
variable {α β:Type} {r:Rd α} {s:Rd β} {D:Nat->Prop} {w:World} {A:Option Addr} {nn cap:Nat} {l:List α}
theorem b3x (h:(v8 r).rd D w [.slice A nn cap] l):l.length=nn:=by
 obtain ⟨_,A',cap',e,_⟩:=h
 simp_all
theorem c88 [Inhabited α] {o q sz:Nat} {i:Int} {g:α->β} (h:(v8 r).rd D w [.slice A nn cap] l) (sub:Sub r o s g) (hsz:r.sz=sz) (hq:q=i.toNat * sz+o) (h0:0<=i) (h1:i<nn) :
  ∃ c,a9g w (eA A q) c/\s.rd D w c (g (ix l i)):=by
 subst hsz; subst hq
 have hn:=b3x h
 subst hn
 have hi:i.toNat<l.length:=by omega
 obtain ⟨b,o',c,rfl,_,hc,hr⟩:=a0u h hi
 have hl:=r.len hr
 have hs:=sub.1
 refine ⟨(c.drop o).take s.sz,⟨rfl,?_⟩,by rw [A8 hi]; exact sub.2 hr⟩
 obtain ⟨C,T,z,hh,hcc⟩:=hc
 refine ⟨C,T,z,hh,fun j hj=>?_⟩
 simp only [List.length_take,List.length_drop] at hj
 have:=hcc (o+j) (by omega)
 rw [List.getElem?_take,if_pos (by omega),List.getElem?_drop,<- this]
 show C[o'+(i.toNat * r.sz+o)+j]?=_
 grind
end
section
variable {P:Program} {m:Bool} {n:Nat} {ops:List Oper} {Q:Exit->Fr->World->Prop} {rest:List Oper} {f:Fr} {w w0:World} {d:Nat} {Z D:Nat->Prop} {B0:List Nat} {L:List It}
variable {ty T T' T2 E:TypeId} {pos:String} {after:Array Edge} {x y z:Operand} {k:IntKind} {v zv:Value} {i:Int} {p:Bool}
variable {α β:Type} {r:Rd α} {s:Rd β} {A:Option Addr} {nn cap q sz b:Nat} {l:List α} {cs O bs:List Nat}
theorem d0b (h:(v8 r).rd D w [.slice A nn cap] l) (hT:∀ w,(underlying T).run P w=.ok (.slice E) w) (hE:∀ w,(sizeOf E).run P w=.ok sz w) (hsz:r.sz=sz) (hx:ev f x=.slice A nn cap) (hy:ev f y=.int k i)
  (h0:0<=i) (h1:i<nn) (hn:Nat.blt d n=true) (K:WL P m n ops Q rest (upd f d (.pointer (some (eA A (i.toNat * sz))))) w) :
  WL P m n ops Q (⟨some d,.indexAddr T x y,ty,pos,after,none⟩::rest) f w:=by
 have hl:=b3x h
 subst hl
 obtain ⟨b,o,c,rfl,_,_,_⟩:=a0u h (show i.toNat<l.length by omega)
 refine n6 rfl rfl hn (v:=.pointer (some ⟨b,o+i.toNat * sz,none⟩)) (fun w1 hs=>?_) K
 simp only [execOp,hx,hy,Sem.run_bind,T4 hT hE h0 h1]
 rfl
theorem b9w {fi:Nat} {fs:Array Field} {fd:Field} {mm:Nat} (hT:∀ w,(underlying T).run P w=.ok (.struct fs) w) (hf:fs[fi]?=some fd) (hz:∀ w,(sizeOf fd.type).run P w=.ok (mm+1) w) (hx:ev f x=.pointer (some (eA A q))) (hn:Nat.blt d n=true)
  (K:WL P m n ops Q rest (upd f d (.pointer (some (eA A (q+fd.offset))))) w):WL P m n ops Q (⟨some d,.fieldAddr T x fi,ty,pos,after,none⟩::rest) f w :=
 n6 rfl rfl hn (v:=.pointer (some (eA A (q+fd.offset)))) (fun w1 hs=>by
  simp [execOp,hx,Instr.fieldAt,Instr.sureAddr,fieldPlace,hT,hf,hz,go_sem,d5p]) K
theorem c03 (hs:Sep B0 w0 Z w L) (hz:∀ w,(zeroValue T).run P w=.ok zv w) (hn:Nat.blt d n=true) (K:∀ b w',Sep B0 w0 Z w' (a61 b T zv.cells.toList []::L)->WL P false n ops Q rest (upd f d (.pointer (some ⟨b,0,none⟩))) w') :
  WL P false n ops Q (⟨some d,.alloc T,ty,pos,after,none⟩::rest) f w :=
 c9x hz hn fun b w' e h1 h2 ho=>K b w' (hs.add e ho c7f (fun x hx=>by simp_all) rfl)
theorem e1g (hs:Sep B0 w0 Z w L) (hn:Nat.blt d n=true) (K:∀ b w',Sep B0 w0 Z w' (a61 b T (ev f x).cells.toList []::L)->WL P false n ops Q rest (upd f d (.pointer (some ⟨b,0,none⟩))) w') :
  WL P false n ops Q (⟨some d,.box T x,ty,pos,after,none⟩::rest) f w :=
 d8j hn fun b w' e h1 h2 ho=>K b w' (hs.add e ho c7f (fun x hx=>by simp_all) rfl)
theorem d03 {o mm:Nat} {cs c:List Value} (hs:Sep B0 w0 Z w L) (j:Nat) (hj:L[j]?=some (a61 b E cs O)) (hz:∀ w,(sizeOf T).run P w=.ok mm w) (hx:ev f x=.pointer (some ⟨b,o,none⟩)) (hc:(ev f y).cells.toList=c) (hm:c.length=mm) (hl:o+mm<=cs.length) (hp:c.all w5=true)
  (K:∀ w',Sep B0 w0 Z w' (L.set j (a61 b E (v7 cs o c) O))->WL P false n ops Q rest f w') :
  WL P false n ops Q (⟨none,.store T x y,ty,pos,after,none⟩::rest) f w :=
 c8n hz hx hc hm (hs.at j hj) hl hp fun w' e h1 ho=>K w' (hs.upd j hj e ho c7f (fun x hx=>⟨.inl hx,by have:=hs.lt j hj x hx; omega⟩) rfl)
theorem b39 {xs al:List α} {info:TypeInfo} (hs:Sep B0 w0 Z w L) (j:Nat) (hj:L[j]?=some (iAc r (ev f x) al bs O)) (hx:Src r Z w (ev f y) xs)
  (hT:∀ w,(underlying T).run P w=.ok (.slice E) w) (hI:∀ w,(typeInfo E).run P w=.ok info w) (hE:∀ w,(sizeOf E).run P w=.ok r.sz w) (hz:∀ w,(zeroValue E).run P w=.ok zv w) (hzs:zv.cells.size=r.sz)
  (hb:(al.length+xs.length) * info.bytes<=140737488355328) (hb1:1<=info.bytes) (hn:Nat.blt d n=true)
  (K:∀ A cap bs' w',Sep B0 w0 Z w' (L.set j (iAc r (.slice A (al++xs).length cap) (al++xs) bs' O))->WL P false n ops Q rest (upd f d (.slice A (al++xs).length cap)) w') :
  WL P false n ops Q (⟨some d,.call ⟨.builtin .append,#[x,y],#[T,T]⟩,T,pos,after,none⟩::rest) f w :=
 a2f rfl rfl hn fun w1 hw=>by
  obtain ⟨v',w2,w',hr,hs',bs',h1,h2,h3⟩:=b66 hT hI hE hz hzs (hs.at j hj) hx (hs.nz j hj) hb hb1 w1 hw
  obtain ⟨A,cap,rfl⟩:=h1.val
  refine ⟨_,w2,w',?_,hs',K A cap bs' w' (hs.upd j hj h2 h1 sAc (fun b hb=>⟨h3 b hb,h1.lt b hb⟩) rfl)⟩
  simp only [execOp,resolve,invoke,builtin,Sem.run_bind,Sem.run_pure,Result.andThen_ok]
  simp_all
theorem a9u {len:Nat} {ps:Array (Nat×Operand)} {vs:List (Nat×Value)} {css:List (List Value)} {al:List α} (hs:Sep B0 w0 Z w L) (hT:∀ w,(underlying T).run P w=.ok (.slice E) w) (hE:∀ w,(sizeOf E).run P w=.ok sz w) (hz:∀ w,(zeroValue E).run P w=.ok zv w)
  (hv:ps.toList.map (fun p=>(p.1,ev f p.2))=vs) (hlen:vs.length=len) (hord:Q9 0 vs=true) (hsz:vs.all (fun p=>Nat.beq p.2.cells.size sz)=true) (hcs:(vs.flatMap fun p=>p.2.cells.toList)=css.flatten) (hsmall:Nat.ble (len * sz) 16777216=true) (hal:al.length=len) (hr:H2 r Z w css al) (hn:Nat.blt d n=true)
  (K:∀ b w',Sep B0 w0 Z w' (iAc r (.slice (some ⟨b,0,none⟩) len len) al [b] []::L)->WL P false n ops Q rest (upd f d (.slice (some ⟨b,0,none⟩) len len)) w') :
  WL P false n ops Q (⟨some d,.buildSlice T len ps,ty,pos,after,none⟩::rest) f w :=
 a2k hT hE hz hv hlen hord hsz hcs hsmall hn fun b w' e h1 h2 ho=>by
  have all:∀ {cs:List (List Value)} {xs:List α},H2 r Z w cs xs->H2 r Z w' cs xs:=by
   intro cs
   induction cs with
   | nil=>intro xs h; cases xs <;> exact h
   | cons c cs ih=>intro xs h; cases xs with
    | nil=>exact h
    | cons x xs=>exact ⟨r.ext h.1 e,ih h.2⟩
  have ha:=Ac.lit ho rfl (all hr)
  rw [hal] at ha
  exact K b w' (hs.add e ha sAc (fun x hx=>by simp_all) rfl)
theorem c6r {c:List Value} {k sz:Nat} (h:c.length=sz) (hp:0<sz):(List.replicate k c).flatten=(List.range (k * sz)).map (fun i=>c.getD (i % sz) default):=by
 apply List.ext_getElem?
 intro i
 have hsz:∀ x∈List.replicate k c,x.length=sz:=fun x hx=>by simp_all
 by_cases hi:i<k * sz
 . have e:=C5 hsz (i / sz) (i % sz) (Nat.mod_lt _ hp)
   rw [Nat.mul_comm (i / sz),Nat.div_add_mod] at e
   have hq:i / sz<k:=Nat.div_lt_of_lt_mul (by grind)
   have hm:i % sz<c.length:=by rw [h]; exact Nat.mod_lt _ hp
   simp_all
 simp_all
theorem b1m {a:Int} {info:TypeInfo} {zc:List Value} {zx:α} (hs:Sep B0 w0 Z w L) (hT:∀ w,(underlying T).run P w=.ok (.slice E) w) (hI:∀ w,(typeInfo E).run P w=.ok info w) (hE:∀ w,(sizeOf E).run P w=.ok sz w) (hz:∀ w,(zeroValue E).run P w=.ok zv w)
  (hzc:zv.cells=zc.toArray) (hsz:r.sz=sz) (hpos:0<sz) (hzr:∀ Z w,r.rd Z w zc zx)
  (hx:ev f x=.int .i64 a) (hy:ev f y=.int .i64 a) (h0:0<=a) (h1:info.bytes * a<=140737488355328) (h2:a<=9223372036854775807) (hn:Nat.blt d n=true)
  (K:∀ b w',Sep B0 w0 Z w' (iAc r (.slice (some ⟨b,0,none⟩) a.toNat a.toNat) (List.replicate a.toNat zx) [b] []::L)->WL P false n ops Q rest (upd f d (.slice (some ⟨b,0,none⟩) a.toNat a.toNat)) w') :
  WL P false n ops Q (⟨some d,.makeSlice T x y,ty,pos,after,none⟩::rest) f w:=by
 have hzl:zc.length=sz:=by have:=r.len (hzr Z w); omega
 refine b9k (mk:=fun b=>.slice (some ⟨b,0,none⟩) a.toNat a.toNat) (e:=E) (cs:=(List.replicate a.toNat zc).flatten.toArray) rfl rfl hn (fun w1=>?_) (fun b w' e h1 h2 ho=>?_)
 . have hw:IntKind.i64.wrap a=a:=U3 ⟨by omega,h2⟩
   have hpow:(2:Int) ^ 48=281474976710656:=by decide
   have hroom:∀ m (w:World),(askRoom m).run P w=.ok () w:=fun m w=>by simp_all
   simp only [execOp,Instr.makeSlice,hx,hy,asInt,asIntOf,Sem.run_bind,Sem.run_pure,hT,hI,Result.andThen_ok,hw]
   rw [if_neg (by grind)]
   simp only [Sem.run_bind,hroom,Result.andThen_ok,hE]
   by_cases hz0:a.toNat=0
   . simp only [hz0,Nat.zero_mul,if_true,Sem.run_bind,Sem.run_pure,Result.andThen_ok,newRow,newObj,Sem.run]
     grind
   . have hne:¬ a.toNat * sz=0:=by
       intro h; rcases Nat.mul_eq_zero.1 h with h | h <;> omega
     simp only [hne,if_false,Sem.run_bind,Sem.run_pure,hz,Result.andThen_ok,newRow,newObj,Sem.run]
     have:(Array.range (a.toNat * sz)).map (fun i=>zv.cells[i % zv.cells.size]!)=(List.replicate a.toNat zc).flatten.toArray:=by
      rw [hzc,c6r hzl hpos]
      apply Array.ext'
      simp only [Array.toList_map,Array.toList_range,List.size_toArray,hzl]
      apply List.map_congr_left
      intro i _
      simp [List.getD_eq_getElem?_getD]
     rw [this]
 . have ho':Own w' b E (List.replicate a.toNat zc).flatten:=by simpa using ho
   have ha:=Ac.lit ho' rfl (H2.rep (hzr Z w') a.toNat)
   rw [List.length_replicate] at ha
   exact K b w' (hs.add e ha sAc (fun x hx=>by simp_all) rfl)
theorem Ac.put {o:Nat} {al:List α} {c:List Value} {e:α} {w1:World} (h:Ac r Z w (.slice A nn cap) al bs) (hi:0<=i/\i<nn) (hcs:∀ c0,r.rd Z w c0 (al.getD i.toNat e)->c0.length=r.sz->o+c.length<=r.sz/\r.rd Z w (v7 c0 o c) e) (hp:c.all w5=true) (hnz:∀ b∈bs,¬ Z b) :
  ∃ b T C,A=some ⟨b,0,none⟩/\bs=[b]/\M2 w b T C/\i.toNat * r.sz+o+c.length<=C.length/\∀ w',Ext [b] w w'->M2 w' b T (v7 C (i.toNat * r.sz+o) c)->Ac r Z w' (.slice A nn cap) (al.set i.toNat e) bs:=by
 rcases h with ⟨h1,rfl,rfl⟩ | ⟨b,cap',C,T,hv,rfl,ho,hC,hle,hc⟩
 . grind
 . simp at hv
   obtain ⟨rfl,rfl,rfl⟩:=hv
   have hil:i.toNat<al.length:=by omega
   obtain ⟨c0,g1,g2,g3⟩:=hc i.toNat hil
   obtain ⟨k1,k2⟩:=hcs c0 (by simp_all) g1
   have hroom:i.toNat * r.sz+o+c.length<=C.length:=by
    have:(i.toNat+1) * r.sz<=cap * r.sz:=Nat.mul_le_mul_right _ (by omega)
    rw [Nat.add_mul] at this; omega
   refine ⟨b,T,C,rfl,rfl,ho,hroom,fun w' e' ho'=>.inr ⟨b,cap,_,T,by simp,rfl,ho',by rw [B8,hC],by simp_all,fun j hj=>?_⟩⟩
   have hget:=fun q=>P4 c C (i.toNat * r.sz+o) q hroom
   by_cases hji:j=i.toNat
   . subst hji
     refine ⟨v7 c0 o c,by rw [B8,g1],fun q hq=>?_,?_⟩
     . rw [hget,P4 c c0 o q (by omega)]
       grind
     . rw [List.getElem_set_self]; exact r.mono k2 e' (fun x hx hz=>absurd hz (hnz x hx)) (fun x hx _=>hx)
   . have hj':j<al.length:=by simpa using hj
     obtain ⟨c1,f1,f2,f3⟩:=hc j hj'
     refine ⟨c1,f1,fun q hq=>?_,?_⟩
     . rw [hget,if_neg]
       . exact f2 q hq
       . rintro ⟨a1,a2⟩
         rcases Nat.lt_or_gt_of_ne hji with h | h
         . have:(j+1) * r.sz<=i.toNat * r.sz:=Nat.mul_le_mul_right _ h
           grind
         . have:(i.toNat+1) * r.sz<=j * r.sz:=Nat.mul_le_mul_right _ h
           grind
     . rw [List.getElem_set_ne (Ne.symm hji)]; exact r.mono f3 e' (fun x hx hz=>absurd hz (hnz x hx)) (fun x hx _=>hx)
theorem c2i {o mm:Nat} {al:List α} {c:List Value} {e:α} (hs:Sep B0 w0 Z w L) (j:Nat) (hj:L[j]?=some (iAc r (.slice A nn cap) al bs O)) (hz:∀ w,(sizeOf T).run P w=.ok mm w) (hx:ev f x=.pointer (some (eA A q))) (hsz:r.sz=sz) (hq:q=i.toNat * sz+o)
  (hc:(ev f y).cells.toList=c) (hm:c.length=mm) (h0:0<=i) (h1:i<nn) (hcs:∀ c0,r.rd Z w c0 (al.getD i.toNat e)->c0.length=r.sz->o+c.length<=r.sz/\r.rd Z w (v7 c0 o c) e) (hp:c.all w5=true)
  (K:∀ w',Sep B0 w0 Z w' (L.set j (iAc r (.slice A nn cap) (al.set i.toNat e) bs O))->WL P false n ops Q rest f w') :
  WL P false n ops Q (⟨none,.store T x y,ty,pos,after,none⟩::rest) f w:=by
 subst hsz; subst hq
 obtain ⟨b,T1,C,rfl,rfl,ho,hroom,hk⟩:=Ac.put (w1:=w) (hs.at j hj) ⟨h0,h1⟩ hcs hp (hs.nz j hj)
 refine b3y hz (o:=i.toNat * r.sz+o) (by rw [hx]; simp [eA]) hc hm ho (by omega) hp fun w' e' _ ho'=>K w' (hs.upd j hj e' (hk w' e' ho') sAc (fun x hx=>⟨.inl hx,by have:=hs.lt j hj x hx; omega⟩) rfl)
theorem a6d {a:Addr} (hx:ev f x=.pointer (some a)) (hn:Nat.blt d n=true) (K:WL P m n ops Q rest (upd f d (.pointer (some a))) w):WL P m n ops Q (⟨some d,.nilCheck x,ty,pos,after,none⟩::rest) f w :=
 n6 rfl rfl hn (v:=.pointer (some a)) (fun _ _=>by simp [execOp,hx,go_sem]) K
theorem b30 {e:TypeId} (hT:∀ w,(underlying T).run P w=.ok (.pointer e) w) {a:Addr} (w:World):(Op.equal T (.pointer (some a)) (.pointer none)).run P w=.ok false w:=by
 have h:∀ d,(Op.equalIn (d+1) T (.pointer (some a)) (.pointer none)).run P w=.ok false w:=fun d=>by
  unfold Op.equalIn; rw [Sem.run_bind,hT,Result.andThen_ok]; rfl
 exact h 9999
theorem b2b {e:TypeId} (hT:∀ w,(underlying T).run P w=.ok (.pointer e) w) (w:World):(Op.equal T (.pointer none) (.pointer none)).run P w=.ok true w:=by
 have h:∀ d,(Op.equalIn (d+1) T (.pointer none) (.pointer none)).run P w=.ok true w:=fun d=>by
  unfold Op.equalIn; rw [Sem.run_bind,hT,Result.andThen_ok]; rfl
 exact h 9999
end
end Go.Wl
end
section
namespace Go.Wl
open Go Go.Wk
def a03 (D:Nat->Bool) (i:Nat):Nat->Bool:=fun j=>bif Nat.beq j i then true else D j
def O6 (V:Nat->Value) (i:Nat) (v:Value):Nat->Value:=fun j=>bif Nat.beq j i then v else V j
theorem a0e {D:Nat->Bool} {i:Nat}:a03 D i i=true:=by unfold a03; rw [Nat.beq_refl]; rfl
theorem J5 {D:Nat->Bool} {i j:Nat} (h:j≠i):a03 D i j=D j:=by unfold a03; rw [O1 h]; rfl
theorem O0 {V:Nat->Value} {i:Nat} {v:Value}:O6 V i v i=v:=by unfold O6; rw [Nat.beq_refl]; rfl
theorem a0k {V:Nat->Value} {i j:Nat} {v:Value} (h:j≠i):O6 V i v j=V j:=by unfold O6; rw [O1 h]; rfl
abbrev JP:=(Nat->Bool)->(Nat->Value)->World->Prop
section
variable {P:Program} {n:Nat} {l:List Oper} {Q:Exit->Fr->World->Prop} {f0:Fr}
def c5r (P:Program) (n:Nat) (l:List Oper) (ms:List Nat) (J:JP) (f0:Fr) (i:Nat) (o:Oper):Prop :=
 ∀ D V g w,J D V w->D i=false->(∀ j,(ms.getD i 0).testBit j=true->D j=true)->(∀ j,(ms.getD j 0).testBit i=true->D j=false)->(∀ j t,D j=true->o5 l j=some t->g t=V j)->(∀ t,P0 ms i t l 0=true->g t=f0 t) ->
  WL P false n l (fun e g' w'=>e=.normal/\∃ v,g'=J1 g o.dst v/\J (a03 D i) (O6 V i v) w') [o] g w
inductive a1i (P:Program) (n:Nat) (l:List Oper) (ms:List Nat) (J:JP) (f0:Fr):Nat->List Oper->Prop
 | nil {i:Nat}:a1i P n l ms J f0 i []
 | cons {i:Nat} {o:Oper} {r:List Oper}:c5r P n l ms J f0 i o->a1i P n l ms J f0 (i+1) r->a1i P n l ms J f0 i (o::r)
theorem a1i.get {ms:List Nat} {J:JP} {k:Nat} {r:List Oper} (h:a1i P n l ms J f0 k r):∀ x o,r[x]?=some o->c5r P n l ms J f0 (k+x) o:=by
 induction h with
 | nil=>intro x o h; simp at h
 | @cons i o r h _ ih=>intro x o' ho; cases x with
  | zero=>simp at ho; subst ho; exact h
  | succ x =>
   have:=ih x o' (by simpa using ho)
   rwa [show i+1+x=i+(x+1) by omega] at this
structure c85 (l:List Oper) (J:JP) (f0:Fr) (L:Array Bool) (V:Nat->Value) (g:Fr) (w:World):Prop where
 size:L.size=l.length
 inv:J (fun j=>L.getD j false) V w
 done:∀ j t,L[j]?=some true->o5 l j=some t->g t=V j
 kept:∀ t,(∀ j,L[j]?=some true->o5 l j≠some t)->g t=f0 t
 closed:∀ (j:Nat) (o:Oper),L[j]?=some true->l[j]?=some o->∀ e∈o.after,Region.binds .any e=true->L[e.on]?=some true
theorem c85.old {J:JP} {L:Array Bool} {V:Nat->Value} {g:Fr} {w:World} (h:c85 l J f0 L V g w):Inv l (fun _=>True) (fun _ _ _=>True) f0 L g w :=
 ⟨h.size,trivial,fun _ _ _ _=>trivial,h.kept,h.closed⟩
theorem a0i {L:Array Bool} {j:Nat} (h:L.getD j false=true):L[j]?=some true:=by
 rw [Array.getD_eq_getD_getElem?] at h
 cases hL:L[j]? with
 | none=>rw [hL] at h; cases h
 | some b=>rw [hL] at h; simp at h; rw [h]
theorem b4q {id:Nat} {w:World} (J:JP) (S:List Nat) (hm:P.follows .mixedOrders=true) (ha:(H3 l && a5h l [] && a8w S n l)=true)
  (ms:List Nat) (hms:a8p l=ms) (h0:∀ V,J (fun _=>false) V w) (step:a1i P n l ms J f0 0 l)
  (fin:∀ D V g w',(∀ j,Nat.blt j l.length=true->D j=true)->J D V w'->(∀ j t,Nat.blt j l.length=true->o5 l j=some t->g t=V j)->(∀ t,S.elem t=false->g t=f0 t)->∃ L,c75 g L/\∀ g',Q .normal (a39 g' L) w') :
  W P n (.region id l.toArray true) Q f0 w:=by
 subst hms
 rw [Bool.and_eq_true,Bool.and_eq_true] at ha
 obtain ⟨⟨ha,hu⟩,hin⟩:=ha
 obtain ⟨_,huniq⟩:=c2d hu
 have hlt:=c0p hin
 have main:∀ (ro:Option Nat) (ds:List Deferred) (fuel:Nat) (L:Array Bool) (a:Act) (V:Nat->Value) (g:Fr) (w' w1:World),count L=fuel->Is a g n->a.defers=ds->Sim w' w1->c85 l J f0 L V g w'->wpAnyIn (I8 ro) 0 P .any l.toArray (lift n ds Q) fuel L a w1:=by
  intro ro ds
  have finish:∀ (L:Array Bool) (a:Act) (V:Nat->Value) (g:Fr) (w' w1:World),Is a g n->a.defers=ds->Sim w' w1->c85 l J f0 L V g w'->(∀ i,i<l.length->L[i]?=some true)->lift n ds Q .normal a w1:=by
   intro L a V g w' w1 hg hds hs hinv hall
   have ⟨L',h1,h2⟩:=fin _ V g w' (fun j hj=>by rw [Array.getD_eq_getD_getElem?,hall j (A1 hj)]; rfl) hinv.inv (fun j t hj hjt=>hinv.done j t (hall j (A1 hj)) hjt) (fun t ht=>hinv.kept t fun j _ hj=>by have:=(hlt j t hj).1; rw [this] at ht; cases ht)
   have h3:=h2 g
   rw [h1.eq] at h3
   exact ⟨g,w',hg,hds,hs,h3⟩
  intro fuel
  induction fuel with
  | zero =>
   intro L a V g w' w1 hc hg hds hs hinv
   have hall:∀ i,i<l.length->L[i]?=some true:=by
    intro i hi
    cases hL:L[i]? with
    | none=>rw [Array.getElem?_eq_none_iff,hinv.size] at hL; omega
    | some b=>cases b with
     | true=>rfl
     | false=>have:=count_set hL; omega
   refine ⟨?_,finish L a V g w' w1 hg hds hs hinv hall⟩
   cases hr:Region.ready .any l.toArray L with
   | nil=>rfl
   | cons i r =>
    have hm:i∈Region.ready .any l.toArray L:=by rw [hr]; simp
    obtain ⟨o,ho,h1,_⟩:=L4.1 hm
    have hlt:i<l.length:=by
     rcases Nat.lt_or_ge i l.length with h | h
     . exact h
     . rw [List.getElem?_eq_none h] at ho; cases ho
    simp [hall i hlt] at h1
  | succ fuel ih =>
   intro L a V g w' w1 hc hg hds hs hinv
   refine ⟨fun hr=>finish L a V g w' w1 hg hds hs hinv (a19 ha hinv.size hr),fun i hi=>?_⟩
   obtain ⟨o,ho,h1,h2⟩:=L4.1 hi
   have hil:i<l.length:=by
    rcases Nat.lt_or_ge i l.length with h | h
    . exact h
    . rw [List.getElem?_eq_none h] at ho; cases ho
   have hiL:i<L.size:=by rw [hinv.size]; exact hil
   have hLi:L[i]?=some false:=by
    simp [hiL] at h1 ⊢
    exact h1
   have hdeps:∀ e∈o.after,Region.binds .any e=true->L[e.on]?=some true:=fun e he hb=>by
    have:=h2 e he hb
    cases hx:L[e.on]? with
    | none=>simp [hx] at this
    | some b=>simp [hx] at this; rw [this]
   have hone:=step.get i o ho
   rw [Nat.zero_add] at hone
   have hone:=hone (fun j=>L.getD j false) V g w' hinv.inv (by rw [Array.getD_eq_getD_getElem?,hLi]; rfl)
    (fun j hb=>by
     have:=(U1 i j hb).listed hinv.old fun o' ho'=>by rw [ho] at ho'; cases ho'; exact hdeps
     rw [Array.getD_eq_getD_getElem?,this]; rfl)
    (fun j hb=>by
     cases hx:L.getD j false with
     | false=>rfl
     | true =>
      exfalso
      have hj:=a0i hx
      have:=(U1 j i hb).listed hinv.old fun o' ho' e he hbe=>hinv.closed j o' hj ho' e he hbe
      rw [hLi] at this; cases this)
    (fun j t hj hjt=>hinv.done j t (a0i hj) hjt)
    (fun t hk=>hinv.kept t fun j hj hjt=>by
     rcases b1r (l:=l) (k:=0) (by simp) hk j (Nat.zero_le _) hjt with e | hb
     . subst e; rw [hLi] at hj; cases hj
     . have:=(U1 j i hb).listed hinv.old fun o' ho' e he hbe=>hinv.closed j o' hj ho' e he hbe
       rw [hLi] at this; cases this)
   refine b9j ho hg hds hs (S:=fun g' w2=>∃ v,g'=J1 g o.dst v/\J (a03 (fun j=>L.getD j false) i) (O6 V i v) w2) hone ?_
   rintro g' w2 a' w3 ⟨v,rfl,hv⟩ hg' hds' hs'
   have hdo:o5 l i=o.dst:=I4 ho
   have hget:∀ j,(L.setIfInBounds i true)[j]?=some true->j=i ∨ L[j]?=some true:=by
    intro j hj
    by_cases hji:j=i
    . exact .inl hji
    . rw [Array.getElem?_setIfInBounds_ne (Ne.symm hji)] at hj; exact .inr hj
   have hgo:∀ t,o.dst≠some t->J1 g o.dst v t=g t:=by
    intro t ht
    unfold J1
    cases hdd:o.dst with
    | none=>rfl
    | some u=>simp only; rw [H7,if_neg (fun e=>ht (by rw [hdd,e]))]
   have hDD:a03 (fun j=>L.getD j false) i=fun j=>(L.setIfInBounds i true).getD j false:=by
    funext j
    by_cases hji:j=i
    . subst hji; rw [a0e,Array.getD_eq_getD_getElem?,Array.getElem?_setIfInBounds_self_of_lt hiL]; rfl
    . rw [J5 hji,Array.getD_eq_getD_getElem?,Array.getD_eq_getD_getElem?,Array.getElem?_setIfInBounds_ne (Ne.symm hji)]
   rw [hDD] at hv
   refine ih _ a' (O6 V i v) (J1 g o.dst v) w2 w3 (by have:=count_set hLi; omega) hg' hds' hs' ⟨by simp [hinv.size],hv,fun j t hj hjt=>?_,fun t ht=>?_,fun j p hj hp e he hb=>?_⟩
   . rcases hget j hj with e | hj'
     . rw [e] at hjt ⊢
       rw [O0]; rw [hdo] at hjt; unfold J1; simp only [hjt]; rw [H7,if_pos rfl]
     . have hji:j≠i:=fun e=>by rw [e,hLi] at hj'; cases hj'
       have hne:o.dst≠some t:=fun e=>hji (huniq j i t hjt (hdo.trans e))
       rw [hgo t hne,a0k hji]; exact hinv.done j t hj' hjt
   . have hne:o.dst≠some t:=fun e=>ht i (by rw [Array.getElem?_setIfInBounds_self_of_lt hiL]) (hdo.trans e)
     rw [hgo t hne]
     refine hinv.kept t fun j hj=>ht j ?_
     by_cases hji:j=i
     . subst hji; rw [hLi] at hj; cases hj
     . rw [Array.getElem?_setIfInBounds_ne (Ne.symm hji)]; exact hj
   . have mark:L[e.on]?=some true->(L.setIfInBounds i true)[e.on]?=some true:=fun h=>by
       by_cases hei:e.on=i
       . rw [hei,Array.getElem?_setIfInBounds_self_of_lt hiL]
       . rw [Array.getElem?_setIfInBounds_ne (Ne.symm hei)]; exact h
     rcases hget j hj with rfl | hj'
     . rw [ho] at hp; cases hp; exact mark (hdeps e he hb)
     . exact mark (hinv.closed j p hj' hp e he hb)
 intro a w1 hf hs ro
 have hrep:∀ j,(Array.replicate l.toArray.size false)[j]?≠some true:=fun j h=>by
  rw [Array.getElem?_replicate] at h; split at h <;> cases h
 refine wpIn_region_any hm (main ro a.defers _ _ a (fun _=>undef) f0 w _ ?_ hf rfl (hs.trans (Sim.drawn _ _)) ⟨by simp,?_,fun j t hj=>absurd hj (hrep j),fun _ _=>rfl,fun j o hj=>absurd hj (hrep j)⟩)
 . simp [count]
 . have:(fun j=>(Array.replicate l.toArray.size false).getD j false)=fun _=>false:=by
     funext j
     cases h:(Array.replicate l.toArray.size false).getD j false with
     | false=>rfl
     | true=>exact absurd (a0i h) (hrep j)
   rw [this]; exact h0 _
end
end Go.Wl
namespace Go.Wl
open Go Go.Wk
section
variable {α β:Type} {r:Rd α} {s:Rd β} {Z:Nat->Prop} {w:World} {A:Option Addr} {nn cap:Nat} {l:List α} {bs:List Nat}
theorem d0h [Inhabited α] {o q sz:Nat} {i:Int} {g:α->β} (h:Ac r Z w (.slice A nn cap) l bs) (sub:Sub r o s g) (hsz:r.sz=sz) (hq:q=i.toNat * sz+o) (h0:0<=i) (h1:i<nn) :
  ∃ c,a9g w (eA A q) c/\s.rd Z w c (g (ix l i)):=by
 subst hsz; subst hq
 rcases h with ⟨e,rfl,rfl⟩ | ⟨b,cap',C,T,hv,rfl,ho,hC,hle,hc⟩
 . simp at e; omega
 . simp at hv
   obtain ⟨rfl,rfl,rfl⟩:=hv
   have hi:i.toNat<l.length:=by omega
   obtain ⟨c,g1,g2,g3⟩:=hc i.toNat hi
   have hs:=sub.1
   obtain ⟨z,_,ho⟩:=ho
   refine ⟨(c.drop o).take s.sz,⟨rfl,_,_,_,ho,fun j hj=>?_⟩,by rw [A8 hi]; exact sub.2 g3⟩
   simp only [List.length_take,List.length_drop] at hj
   have:=g2 (o+j) (by omega)
   rw [List.getElem?_take,if_pos (by omega),List.getElem?_drop,<- this]
   show C.toArray[0+(i.toNat * r.sz+o)+j]?=_
   simp only [List.getElem?_toArray]
   congr 1; omega
theorem Ac.len (h:Ac r Z w (.slice A nn cap) l bs):l.length=nn:=by
 obtain ⟨A',cap',e⟩:=h.val
 simp at e; exact e.2.1.symm
section
variable {P:Program} {m:Bool} {n:Nat} {ops:List Oper} {Q:Exit->Fr->World->Prop} {rest:List Oper} {f:Fr} {d sz:Nat} {ty T E:TypeId} {pos:String} {after:Array Edge} {x y:Operand} {k:IntKind} {i:Int}
theorem c1h (h:Ac r Z w (.slice A nn cap) l bs) (hT:∀ w,(underlying T).run P w=.ok (.slice E) w) (hE:∀ w,(sizeOf E).run P w=.ok sz w) (hx:ev f x=.slice A nn cap) (hy:ev f y=.int k i)
  (h0:0<=i) (h1:i<nn) (hn:Nat.blt d n=true) (K:WL P m n ops Q rest (upd f d (.pointer (some (eA A (i.toNat * sz))))) w) :
  WL P m n ops Q (⟨some d,.indexAddr T x y,ty,pos,after,none⟩::rest) f w:=by
 rcases h with ⟨e,rfl,rfl⟩ | ⟨b,cap',C,T,hv,rfl,ho,hC,hle,hc⟩
 . simp at e; omega
 . simp at hv
   obtain ⟨rfl,rfl,rfl⟩:=hv
   refine n6 rfl rfl hn (v:=.pointer (some ⟨b,0+i.toNat * sz,none⟩)) (fun w1 hs=>?_) K
   simp only [execOp,hx,hy,Sem.run_bind,T4 hT hE h0 h1]
   rfl
end
end
def c2f (w w':World) (F F':List Nat):Prop:=Ext F w w'/\∀ b∈F',b∈F ∨ w.heap.size<=b
theorem b01 {P:Program} {n:Nat} {c:Code} {Q:Exit->Fr->World->Prop} {f:Fr} {w:World} (I:Nat->Fr->World->Prop) (h0:∃ m,I m f w)
  (round:∀ m f w,I m f w->W P n c (c0j (fun f' w'=>∃ m',m'<m/\I m' f' w') Q) f w):W P n (.loop c) Q f w:=by
 obtain ⟨m,h0⟩:=h0
 exact d6s I m h0 round
end Go.Wl
end
section
namespace Go.Rx
open Go Go.Wk Go.Wl
section
variable {P:Program} {n:Nat} {l:List Oper} {Q:Exit->Fr->World->Prop} {f0:Fr}
theorem b0e {id:Nat} {w:World} (hm:P.follows .mixedOrders=true) (ha:H3 l=true) (G:(Nat->Bool)->Fr->World->Prop) (h0:G (fun _=>false) f0 w)
  (step:∀ D g w',G D g w'->∀ i o,l[i]?=some o->D i=false->(∀ e∈o.after,Region.binds .any e=true->D e.on=true)->WL P false n l (fun e g2 w2=>e=.normal/\G (a03 D i) g2 w2) [o] g w')
  (fin:∀ D g w',G D g w'->(∀ j,j<l.length->D j=true)->Q .normal g w'):W P n (.region id l.toArray true) Q f0 w:=by
 have main:∀ (ro:Option Nat) (ds:List Deferred) (fuel:Nat) (L:Array Bool) (a:Act) (g:Fr) (w' w1:World),count L=fuel->Is a g n->a.defers=ds->Sim w' w1->L.size=l.length->G (fun j=>L.getD j false) g w'->wpAnyIn (I8 ro) 0 P .any l.toArray (lift n ds Q) fuel L a w1:=by
  intro ro ds
  have finish:∀ (L:Array Bool) (a:Act) (g:Fr) (w' w1:World),Is a g n->a.defers=ds->Sim w' w1->G (fun j=>L.getD j false) g w'->(∀ i,i<l.length->L[i]?=some true)->lift n ds Q .normal a w1:=fun L a g w' w1 hg hds hs hG hall =>
   ⟨g,w',hg,hds,hs,fin _ g w' hG fun j hj=>by simp_all⟩
  intro fuel
  induction fuel with
  | zero =>
   intro L a g w' w1 hc hg hds hs hsz hG
   have hall:∀ i,i<l.length->L[i]?=some true:=by
    intro i hi
    cases hL:L[i]? with
    | none=>simp_all
    | some b=>cases b with
     | true=>rfl
     | false=>have:=count_set hL; omega
   refine ⟨?_,finish L a g w' w1 hg hds hs hG hall⟩
   cases hr:Region.ready .any l.toArray L with
   | nil=>rfl
   | cons i r =>
    have hm:i∈Region.ready .any l.toArray L:=by rw [hr]; simp
    obtain ⟨o,ho,h1,_⟩:=L4.1 hm
    have hlt:i<l.length:=by
     rcases Nat.lt_or_ge i l.length with h | h
     . exact h
     . simp_all
    simp_all
  | succ fuel ih =>
   intro L a g w' w1 hc hg hds hs hsz hG
   refine ⟨fun hr=>finish L a g w' w1 hg hds hs hG (a19 ha hsz hr),fun i hi=>?_⟩
   obtain ⟨o,ho,h1,h2⟩:=L4.1 hi
   have hil:i<l.length:=by
    rcases Nat.lt_or_ge i l.length with h | h
    . exact h
    . simp_all
   have hiL:i<L.size:=by rw [hsz]; exact hil
   have hLi:L[i]?=some false:=by
    simp [hiL] at h1 ⊢
    exact h1
   refine b9j ho hg hds hs (S:=fun g' w2=>G (a03 (fun j=>L.getD j false) i) g' w2) (step _ g w' hG i o ho (by simp_all) h2) ?_
   intro g' w2 a' w3 hv hg' hds' hs'
   have hDD:a03 (fun j=>L.getD j false) i=fun j=>(L.setIfInBounds i true).getD j false:=by
    funext j
    by_cases hji:j=i
    . subst hji; rw [a0e,Array.getD_eq_getD_getElem?,Array.getElem?_setIfInBounds_self_of_lt hiL]; rfl
    . rw [J5 hji,Array.getD_eq_getD_getElem?,Array.getD_eq_getD_getElem?,Array.getElem?_setIfInBounds_ne (Ne.symm hji)]
   rw [hDD] at hv
   exact ih _ a' g' w2 w3 (by have:=count_set hLi; omega) hg' hds' hs' (by simp [hsz]) hv
 intro a w1 hf hs ro
 refine wpIn_region_any hm (main ro a.defers _ _ a f0 w _ ?_ hf rfl (hs.trans (Sim.drawn _ _)) (by simp) ?_)
 . simp [count]
 . have:(fun j=>(Array.replicate l.toArray.size false).getD j false)=fun _=>false:=by
     funext j
     cases h:(Array.replicate l.toArray.size false).getD j false with
     | false=>rfl
     | true =>
      exfalso
      have h:=a0i h
      grind
   simp_all
end
end Go.Rx
end
section
namespace Go.Wl
open Go Go.Wk
section
variable {κ α:Type} [DecidableEq κ]
variable {enc:α->Value} {L:List (κ×α)} {k:κ} {v:α}
end
section
variable {P:Program} {m:Bool} {n:Nat} {ops:List Oper} {Q:Exit->Fr->World->Prop} {rest:List Oper} {f:Fr} {w w0:World} {d:Nat} {Z D:Nat->Prop} {B0:List Nat} {L:List It}
variable {ty T T' T2 E Kt:TypeId} {pos:String} {after:Array Edge} {x y z:Operand} {k:IntKind} {v zv:Value} {i:Int} {p:Bool}
variable {α β κ:Type} {r:Rd α} {A:Option Addr} {nn cap q sz b it:Nat} {O bs:List Nat} {s t:Str} {c:UInt8} {ky:Key κ} {enc:α->Value} {am:List (κ×α)} {key:κ}
theorem d3y (hT:∀ w,(underlying T).run P w=.ok .string w) (hx:ev f x=sv s) (hn:Nat.blt d n=true) (K:WL P m n ops Q rest (upd f d (.int .i64 s.length)) w) :
  WL P m n ops Q (⟨some d,.call ⟨.builtin .len,#[x],#[T]⟩,ty,pos,after,none⟩::rest) f w :=
 d5s hT hx hn (by rw [Q7]; exact K)
theorem c3q (hT:∀ w,(underlying T).run P w=.ok .string w) (hx:ev f x=sv s) (hy:ev f y=.int k i) (h0:0<=i) (h1:i<s.length) (hn:Nat.blt d n=true) (K:WL P m n ops Q rest (upd f d (bv (ix s i))) w) :
  WL P m n ops Q (⟨some d,.index T x y,ty,pos,after,none⟩::rest) f w :=
 n6 rfl rfl hn (v:=bv (ix s i)) (fun _ _=>by
  have hi:i.toNat<s.length:=by omega
  have e:(⟨s.toArray⟩:ByteArray)[i.toNat]?=some (ix s i):=by
   rw [A8 hi]
   have h':i.toNat<(⟨s.toArray⟩:ByteArray).size:=by rw [Q7]; exact hi
   rw [getElem?_pos (⟨s.toArray⟩:ByteArray) i.toNat h']
   rfl
  simp [execOp,hx,hy,sv,Instr.index,asIntOf,hT,go_sem,h0,e,bv]) K
theorem b6h {s:Str} {a b:Nat} (h:a<=b) (h2:b<=s.length):(⟨s.toArray⟩:ByteArray).extract a b=⟨((s.take b).drop a).toArray⟩:=by
 apply ByteArray.ext
 apply Array.ext'
 simp [ByteArray.data_extract,List.drop_take]
theorem c73 {lo hi:Option Operand} {a e:Int} (hT:∀ w,(underlying T).run P w=.ok .string w) (hx:ev f x=sv s) (hlo:match lo with | some o=>ev f o=.int .i64 a | none=>a=0) (hhi:match hi with | some o=>ev f o=.int .i64 e | none=>e=s.length) (h0:0<=a/\a<=e/\e<=s.length) (hn:Nat.blt d n=true)
  (K:WL P m n ops Q rest (upd f d (sv ((s.take e.toNat).drop a.toNat))) w):WL P m n ops Q (⟨some d,.slice T x lo hi none,ty,pos,after,none⟩::rest) f w :=
 n6 rfl rfl hn (v:=sv ((s.take e.toNat).drop a.toNat)) (fun _ _=>by
  have hx':=b6h (s:=s) (a:=a.toNat) (b:=e.toNat) (by omega) (by omega)
  have hz:=Q7 s
  cases lo with
  | none =>
   simp only at hlo; subst hlo
   cases hi with
   | none =>
    simp only at hhi; subst hhi
    simp only [sv] at hx ⊢
    simp [execOp,hx,Instr.sliceAt,Instr.slice,Instr.sliceBounds,hT,go_sem] at hx' ⊢
    try exact hx'
   | some o2 =>
    simp only at hhi
    simp only [sv] at hx ⊢
    simp [execOp,hx,hhi,Instr.sliceAt,Instr.slice,Instr.sliceBounds,Instr.sliceBound,asIntOf,hT,go_sem,h0] at hx' ⊢
    try exact hx'
  | some o1 =>
   simp only at hlo
   cases hi with
   | none =>
    simp only at hhi; subst hhi
    simp only [sv] at hx ⊢
    simp [execOp,hx,hlo,Instr.sliceAt,Instr.slice,Instr.sliceBounds,Instr.sliceBound,asIntOf,hT,go_sem,h0] at hx' ⊢
    try exact hx'
   | some o2 =>
    simp only at hhi
    simp only [sv] at hx ⊢
    simp [execOp,hx,hlo,hhi,Instr.sliceAt,Instr.slice,Instr.sliceBounds,Instr.sliceBound,asIntOf,hT,go_sem,h0,show e<=(s.length:Int) from h0.2.2,show 0<=e by omega,Int.toNat_of_nonneg (show 0<=e by omega)] at hx' ⊢
    try exact hx') K
end
end Go.Wl
end
section
namespace Go.Wl
open Go Go.Wk
theorem Ac.n {α:Type} {r:Rd α} {Z:Nat->Prop} {w:World} {A:Option Addr} {nn cap:Nat} {l:List α} {bs:List Nat} (h:Ac r Z w (.slice A nn cap) l bs):l.length=nn:=by
 obtain ⟨A',cap',e⟩:=h.val
 simp_all
theorem c1m {P:Program} (s:Str):∀ (acc:ByteArray) (w:World),(forIn (m:=Sem) (s.map bv) acc (fun (c:Value) (t:ByteArray)=>match c with | .int .u8 n=>pure (ForInStep.yield (t.push (UInt8.ofNat n.toNat))) | _=>do stuck "bytesToString: byte expected"; pure (ForInStep.yield t))).run P w=.ok (acc++⟨s.toArray⟩) w:=by
 induction s with
 | nil =>
  intro acc w
  have:acc++(⟨#[]⟩:ByteArray)=acc:=by apply ByteArray.ext; simp
  simp_all
 | cons c r ih =>
  intro acc w
  simp only [List.map_cons,List.forIn_cons,Sem.run_bind]
  have e:UInt8.ofNat ((c.toNat:Int).toNat)=c:=by simp
  have h1:((match bv c with | .int .u8 n=>pure (ForInStep.yield (acc.push (UInt8.ofNat n.toNat))) | _=>do stuck "bytesToString: byte expected"; pure (ForInStep.yield acc):Sem (ForInStep ByteArray))).run P w=.ok (.yield (acc.push c)) w:=by
   simp only [bv,e]; rfl
  rw [h1,Result.andThen_ok]
  refine (ih (acc.push c) w).trans ?_
  congr 1
  apply ByteArray.ext
  simp
section
variable {P:Program} {m:Bool} {n:Nat} {ops:List Oper} {Q:Exit->Fr->World->Prop} {rest:List Oper} {f:Fr} {w w0:World} {d:Nat} {Z D:Nat->Prop} {B0:List Nat} {L:List It}
variable {ty T T' T2 E S:TypeId} {pos:String} {after:Array Edge} {x y z:Operand} {k:IntKind} {v zv:Value} {i:Int} {p:Bool}
variable {A:Option Addr} {nn cap q sz b:Nat} {O bs:List Nat} {s t:Str} {c:UInt8}
theorem a7k {U:TypeId} (hS:∀ w,(underlying S).run P w=.ok (.slice E) w) (hT:∀ w,(underlying T).run P w=.ok .string w) (hE:∀ w,(underlying E).run P w=.ok (.int .u8) w) (h:Src n5 Z w (ev f x) s) (hn:Nat.blt d n=true) (K:WL P m n ops Q rest (upd f d (sv s)) w) :
  WL P m n ops Q (⟨some d,.convert S T x,U,pos,after,none⟩::rest) f w :=
 n6 rfl rfl hn (v:=sv s) (fun w1 hs=>by
  obtain ⟨A,cap,hv,cs,hcl,hcr,hrow⟩:=h
  have hflat:cs.flatten=s.map bv:=by
   apply List.ext_getElem?
   intro j
   have hsz:∀ c∈cs,c.length=1:=fun c hc=>by
    obtain ⟨i,hi,rfl⟩:=List.getElem_of_mem hc
    exact n5.len (hcr i (by omega) hi)
   have e:=C5 hsz j 0 (by omega)
   simp only [Nat.mul_one,Nat.add_zero] at e
   rw [e,List.getElem?_map]
   by_cases hj:j<s.length
   . have hr:cs[j]'(by omega)=[bv s[j]]:=hcr j hj (by omega)
     simp_all
   . simp_all
  simp only [execOp,hv,convert,Sem.run_bind,hS,hT,hE,Result.andThen_ok]
  have hfold:=c1m (P:=P) s ByteArray.empty w1
  rcases A with _ | a
  . rcases hrow with h0 | ⟨b,o,h0,_⟩
    . subst h0; simp [Conv.bytesToString,go_sem,sv]; rfl
    . cases h0
  . rcases hrow with h0 | ⟨b,o,h0,hc⟩
    . subst h0; simp [Conv.bytesToString,go_sem,sv,loadCells,loadCellsFrom]; rfl
    . simp at h0; subst h0
      have hload:=a0y (P:=P) (hc.sim hs)
      rw [hflat,List.length_map] at hload
      simp only [Conv.bytesToString,Sem.run_bind,hload,Result.andThen_ok]
      have h2:Sem.run P (forIn (List.map bv s).toArray ByteArray.empty fun c __s=>match c with | Value.int IntKind.u8 n=>pure (ForInStep.yield (__s.push (UInt8.ofNat n.toNat))) | x=>do { stuck "bytesToString: byte expected"; pure (ForInStep.yield __s) }) w1=.ok (ByteArray.empty++⟨s.toArray⟩) w1:=by
       rw [List.forIn_toArray]; exact hfold
      refine Eq.trans (congrArg (fun r=>(Result.andThen r fun a w'=>Sem.run P (pure (Value.string a)) w').andThen fun a w'=>Sem.run P (pure (Next.value a)) w') h2) ?_
      have:ByteArray.empty++(⟨s.toArray⟩:ByteArray)=⟨s.toArray⟩:=by apply ByteArray.ext; simp
      simp [go_sem,sv,this]) K
theorem b0w {U:TypeId} {k2:IntKind} {a:Int} {dk:TypeDesc} (hS:∀ w,(underlying S).run P w=.ok dk w) (hT:∀ w,(underlying T).run P w=.ok (.int k2) w) (hx:ev f x=.int k a) (hn:Nat.blt d n=true) (K:WL P m n ops Q rest (upd f d (.int k2 (k2.wrap a))) w) :
  WL P m n ops Q (⟨some d,.convert S T x,U,pos,after,none⟩::rest) f w :=
 n6 rfl rfl hn (v:=.int k2 (k2.wrap a)) (fun _ _=>by simp [execOp,hx,convert,hS,hT,Conv.intToInt,go_sem]) K
theorem b89 (a:Int):Value.int .u8 (IntKind.u8.wrap a)=bv (UInt8.ofInt a):=by
 unfold bv
 congr 1
 have h1:IntKind.u8.wrap a=a % 256:=by simp [IntKind.wrap,IntKind.bits,IntKind.signed]
 rw [h1]
 have h2:(UInt8.ofInt a).toNat=(a % 256).toNat:=by
  simp [UInt8.ofInt,UInt8.toNat_ofNat']
  omega
 omega
theorem d0m {U:TypeId} {a:Int} {dk:TypeDesc} (hS:∀ w,(underlying S).run P w=.ok dk w) (hT:∀ w,(underlying T).run P w=.ok (.int .u8) w) (hx:ev f x=.int k a) (hn:Nat.blt d n=true) (K:WL P m n ops Q rest (upd f d (bv (UInt8.ofInt a))) w) :
  WL P m n ops Q (⟨some d,.convert S T x,U,pos,after,none⟩::rest) f w :=
 b0w hS hT hx hn (by rw [b89]; exact K)
end
section
variable {P:Program} {n:Nat} {ops:List Oper} {Q:Exit->Fr->World->Prop} {rest:List Oper} {f:Fr} {w w0:World} {d:Nat} {Z:Nat->Prop} {B0:List Nat} {L:List It}
variable {ty T E Kt:TypeId} {pos:String} {after:Array Edge} {x y:Operand} {b it:Nat} {α κ:Type} {ky:Key κ} {enc:α->Value} {am:List (κ×α)}
end
end Go.Wl
end
section
namespace Go.Wl
open Go Go.Wk
def srt (l:List Int):List Int:=l.mergeSort fun x y=>decide (x<=y)
theorem a0g (l:List Int):(srt l).length=l.length:=(List.mergeSort_perm l _).length_eq
theorem c9v {l:List Int} {x:Int}:x∈srt l↔x∈l:=(List.mergeSort_perm l _).mem_iff
theorem d5h (l:List Int):(srt l).Pairwise (· <= ·):=by
 have h:=List.pairwise_mergeSort (le:=fun x y:Int=>decide (x<=y)) (fun a b c h1 h2=>by simp at *; omega) (fun a b=>by simp; omega) l
 exact h.imp fun h=>by simpa using h
theorem c8c {P:Program} {K:FuncId} (hN:∀ (p:Option Addr) (cap:Nat) (w:World),Calls P K #[.slice p 0 cap] w fun e w'=>e=.returned (.tuple #[])/\w'=w)
  (hS:∀ (blk off cap:Nat) (zs:List Int) (w:World),Sort.Holds (Value.int .i64) w blk off zs.toArray->blk<w.heap.size->zs.length<4611686018427387904 ->
   Calls P K #[.slice (some ⟨blk,off,none⟩) zs.length cap] w fun e w'=>e=.returned (.tuple #[])/\∃ n os,w'=Sort.grow (Sort.putRow (Value.int .i64) (Sort.ahead w n) blk off (zs.mergeSort fun x y=>decide (x<=y)).toArray) os)
  {Z:Nat->Prop} {bs:List Nat} {w:World} {v:Value} {l:List Int} (h:Ac B4 Z w v l bs) (hl:l.length<4611686018427387904) :
  D4 P K [v] w fun _ w'=>Ac B4 Z w' v (srt l) bs/\Ext bs w w':=by
 intro w1 hs
 obtain ⟨k,rfl⟩:=hs
 rcases h with ⟨rfl,rfl,rfl⟩ | ⟨b,cap,C,T,rfl,rfl,ho,hC,hle,hc⟩
 . refine Calls.mono (hN none 0 _) ?_
   rintro e w2 ⟨rfl,rfl⟩
   exact ⟨_,w,rfl,⟨k,rfl⟩,.inl ⟨rfl,by simp [srt],rfl⟩,Ext.refl _ _⟩
 . have hlt:=ho.lt
   obtain ⟨z,hz,ho⟩:=ho
   have hsz:C.length=cap:=by simpa [B4] using hC
   have hget:∀ i (h:i<l.length),C[i]?=some (.int .i64 l[i])/\InI l[i]:=by
    intro i hi
    obtain ⟨c,h1,h2,h3⟩:=hc i hi
    have:=h2 0 (by simp [B4])
    simp only [B4,Nat.mul_one,Nat.add_zero] at this h3
    rw [this,h3.1]; exact ⟨rfl,h3.2⟩
   refine Calls.mono (hS b 0 cap l { w with drawn:=k } (fun j hj=>?_) hlt hl) ?_
   . have hj':j<l.length:=by simpa using hj
     constructor
     . simp only [World.cell?,show ({ w with drawn:=k }:World).heap[b]?=_ from ho]
       simp [(hget j hj').1,hj']
     . rcases hz with rfl | hz
       . simp [World.frozen?,show ({ w with drawn:=k }:World).heap[b]?=_ from ho]
       . simp [World.frozen?,show ({ w with drawn:=k }:World).heap[b]?=_ from ho]; omega
   . rintro e w2 ⟨rfl,n,os,rfl⟩
     have hh:(Sort.grow (Sort.putRow (Value.int .i64) (Sort.ahead w n) b 0 (srt l).toArray) os).heap[b]?=some (.cells (Sort.putCells (Value.int .i64) 0 (srt l).toArray C.toArray) T z):=by
      rw [Sort.heap_grow_old _ _ (by simpa using hlt)]
      simp only [Sort.putRow,Sort.mapBlock,Sort.ahead,Array.getElem?_modify,if_true]
      rw [show w.heap[b]?=_ from ho]; rfl
     have ho':M2 (Sort.grow (Sort.putRow (Value.int .i64) (Sort.ahead w n) b 0 (srt l).toArray) os) b T (Sort.putCells (Value.int .i64) 0 (srt l).toArray C.toArray).toList:=by
      refine ⟨z,?_,by rw [hh]⟩
      simpa [Sort.putCells] using hz
     refine ⟨_,Sort.grow (Sort.putRow (Value.int .i64) (Sort.ahead w n) b 0 (srt l).toArray) os,rfl,⟨k+n,rfl⟩,.inr ⟨b,cap,_,T,by rw [a0g],rfl,ho',?_,by rw [a0g]; exact hle,?_⟩,⟨rfl,rfl,rfl,?_,?_⟩⟩
     . simp [Sort.putCells,B4,hsz]
     . intro i hi
       have hi':i<l.length:=by rw [<- a0g]; exact hi
       refine ⟨[.int .i64 (srt l)[i]],rfl,fun j hj=>?_,rfl,?_⟩
       . have:j=0:=by simp [B4] at hj; omega
         subst this
         have hci:i<C.length:=by omega
         simp [Sort.putCells,B4,Array.getElem?_mapIdx,hci,hi]
       . obtain ⟨j,hj,e⟩:=List.getElem_of_mem (c9v.1 (List.getElem_mem hi))
         rw [<- e]; exact (hget j hj).2
     . simp [Sort.ahead]
     . intro x hx hn
       have hne:x≠b:=by simpa using hn
       rw [Sort.heap_grow_old _ _ (by simpa using hx)]
       simp only [Sort.putRow,Sort.mapBlock,Sort.ahead,Array.getElem?_modify]
       rw [if_neg (Ne.symm hne)]
end Go.Wl
end
section
namespace Go.Wl
open Go Go.Wk
section
variable {B0:List Nat} {w0 w:World} {Z:Nat->Prop} {l ts r:List It} {t:It} {F:List Nat}
end
theorem Ac.nd {α:Type} {r:Rd α} {Z:Nat->Prop} {w:World} {v:Value} {l:List α} {bs:List Nat} (h:Ac r Z w v l bs):bs.Nodup:=by
 rcases h with ⟨_,_,rfl⟩ | ⟨b,_,_,_,_,rfl,_⟩ <;> simp
section
variable {P:Program} {m:Bool} {n:Nat} {ops:List Oper} {Q:Exit->Fr->World->Prop} {rest:List Oper} {f:Fr} {w:World} {d:Nat} {ty T:TypeId} {pos:String} {after:Array Edge} {x:Operand} {s:Str} {v v':Value}
end
section
variable {P:Program} {m:Bool} {n:Nat} {ops:List Oper} {Q:Exit->Fr->World->Prop} {rest:List Oper} {f:Fr} {w:World} {d:Nat} {ty T T':TypeId} {pos:String} {after:Array Edge} {x y:Operand} {a b:UInt8}
theorem d2r (a b:UInt8):Value.int .u8 (IntKind.u8.wrap ((a.toNat:Int)+(b.toNat:Int)))=bv (a+b):=by
 rw [b89]
 congr 1
 apply UInt8.toNat_inj.1
 simp [UInt8.ofInt,UInt8.toNat_ofNat',UInt8.toNat_add]
 omega
theorem d6w (hx:ev f x=bv a) (hy:ev f y=bv b) (hn:Nat.blt d n=true) (K:WL P m n ops Q rest (upd f d (bv (a+b))) w) :
  WL P m n ops Q (⟨some d,.binOp .add T x y T',ty,pos,after,none⟩::rest) f w :=
 c49 hx hy hn (by rw [d2r]; exact K)
end
end Go.Wl
end
section
namespace Go.Wl
open Go Go.Wk Go.ChangeShapes Go.WideShapes Go.RowKit
def a05 {α:Type} (P:Program) (t:TypeId) (r:Rd α):Prop :=
 ∀ {H:Type} {enc:TypeId×Value->H} {fuel:Nat} {w:World} {sp:Nat->Bool} {cs:List Value} {x:DataW H×List MemPlace},DataW.trod enc P w 0 sp true fuel t cs=some x->∃ y,r.rd (fun _=>True) w cs y
section
variable {P:Program} {t e:TypeId}
theorem u6 (ht:P.underlying t=some (.int .i64)):a05 P t B4:=fun h=>by
 obtain ⟨n,rfl,_,hw⟩:=DataW.trod_int ht h
 exact ⟨n,rfl,d4k hw⟩
theorem a3w (ht:P.underlying t=some .bool):a05 P t a2h:=fun h=>by
 obtain ⟨b,rfl,_⟩:=DataW.trod_bool ht h
 exact ⟨b,rfl⟩
theorem C1 {α:Type} {r:Rd α} (ht:P.underlying t=some (.slice e)) (hsz:P.cellsOf e=r.sz) (hp:0<r.sz) (ho:a05 P e r):a05 P t (v8 r):=fun {H enc fuel w sp cs x} h=>by
 rcases DataW.trod_slice ht h with ⟨rfl,_⟩ | ⟨a,len,cap,elems,rest,n,_,rfl,_,_,hlc,hcm,hel,hget,_⟩
 . exact ⟨[],W5⟩
 . have each:∀ i,i<len->∃ c y,Cells w a.block (a.off+i * r.sz) c/\r.rd (fun _=>True) w c y/\a.spot=none:=by
     intro i hi
     have h1:=hget i hi
     rw [List.getElem?_eq_getElem (by omega)] at h1
     simp only [Option.bind_eq_some_iff] at h1
     obtain ⟨c,hc,hx⟩:=h1
     obtain ⟨y,hy⟩:=ho hx
     rw [hsz] at hc
     have hc':=b33 hp hc
     have hs0:a.spot=none:=by
      have h0:=hget 0 (by omega)
      rw [List.getElem?_eq_getElem (by omega)] at h0
      simp only [Option.bind_eq_some_iff] at h0
      obtain ⟨c0,hc0,_⟩:=h0
      rw [hsz] at hc0
      have:=(b33 hp hc0).1
      simpa [Addr.add] using this
     refine ⟨c,y,?_,hy,hs0⟩
     have:=hc'.2.2
     unfold Addr.add at this
     split at this
     . simp_all
     . exact this
   have each':∀ i:Fin len,∃ y:α,∃ c,Cells w a.block (a.off+i * r.sz) c/\r.rd (fun _=>True) w c y:=fun i=>by
    grind
   have ⟨f,hf⟩:=Classical.axiomOfChoice each'
   refine ⟨List.ofFn f,?_,some a,cap,by simp,⟨fun h=>(by cases h),by simp_all⟩,fun i hi=>?_⟩
   . simp [maxLen] at hcm ⊢; omega
   . have hi':i<len:=by simpa using hi
     obtain ⟨c,h1,h2⟩:=hf ⟨i,hi'⟩
     obtain ⟨_,_,_,_,hs0⟩:=each i hi'
     refine ⟨a.block,a.off,c,?_,trivial,h1,?_⟩
     . obtain ⟨b,o,s⟩:=a; simp_all
     simp_all
end
end Go.Wl
end
section
namespace Go.Wl
open Go Go.Wk
theorem c35 {Z:Nat->Prop} {w:World} {s:Str} {b cap:Nat} {E:TypeId} (hc:s.length<=cap) (h:w.heap[b]?=some (.cells (bytesRow ⟨s.toArray⟩ cap) E ((bytesRow ⟨s.toArray⟩ cap).size,(bytesRow ⟨s.toArray⟩ cap).size+1))):Ac n5 Z w (.slice (some ⟨b,0,none⟩) s.length cap) s [b]:=by
 refine .inr ⟨b,cap,(bytesRow ⟨s.toArray⟩ cap).toList,E,rfl,rfl,⟨((bytesRow ⟨s.toArray⟩ cap).size,(bytesRow ⟨s.toArray⟩ cap).size+1),.inr (by simp),by simpa using h⟩,?_,hc,fun i hi=>⟨[bv s[i]],rfl,fun j hj=>?_,rfl⟩⟩
 . have:(bytesRow ⟨s.toArray⟩ cap).size=cap:=by
     unfold bytesRow
     rw [Array.size_append,Array.size_map,Array.size_replicate]
     have:(⟨s.toArray⟩:ByteArray).data.size=s.length:=by simp
     have e2:(⟨s.toArray⟩:ByteArray).size=s.length:=by simp [ByteArray.size]
     omega
   simp [n5,this]
 . have hj0:j=0:=by simp [n5] at hj; omega
   subst hj0
   have:=bytesRow_at ⟨s.toArray⟩ cap i (by simpa using hi)
   simp only [n5,Nat.mul_one,Nat.add_zero]
   rw [Array.getElem?_toList,this]
   simp [bv]
section
variable {P:Program} {n:Nat} {ops:List Oper} {Q:Exit->Fr->World->Prop} {rest:List Oper} {f:Fr} {w w0:World} {d:Nat} {Z:Nat->Prop} {B0:List Nat} {L:List It}
variable {ty T E S:TypeId} {pos:String} {after:Array Edge} {x:Operand} {s:Str}
theorem c9q (hs:Sep B0 w0 Z w L) (hS:P.underlying S=some .string) (hT:P.underlying T=some (.slice E)) (hE:P.underlying E=some (.int .u8)) (hx:ev f x=sv s) (hn:Nat.blt d n=true)
  (K:∀ b cap w',Sep B0 w0 Z w' (iAc n5 (.slice (some ⟨b,0,none⟩) s.length cap) s [b] []::L)->WL P false n ops Q rest (upd f d (.slice (some ⟨b,0,none⟩) s.length cap)) w') :
  WL P false n ops Q (⟨some d,.convert S T x,ty,pos,after,none⟩::rest) f w :=
 a2f rfl rfl hn fun w1 hsim=>by
  obtain ⟨k,rfl⟩:=hsim
  have hr:=run_bytes_of_string (P:=P) { w with drawn:=k } S T E ⟨s.toArray⟩ hS hT hE
  have hge:=grownCap_ge { w with drawn:=k } (⟨s.toArray⟩:ByteArray).size 0 E
  have e2:(⟨s.toArray⟩:ByteArray).size=s.length:=by simp [ByteArray.size]
  generalize grownCap { w with drawn:=k } (⟨s.toArray⟩:ByteArray).size 0 E=cap at hr hge
  rw [e2] at hr hge
  refine ⟨_,_,{ w with heap:=w.heap.push (.cells (bytesRow ⟨s.toArray⟩ cap) E ((bytesRow ⟨s.toArray⟩ cap).size,(bytesRow ⟨s.toArray⟩ cap).size+1)) },?_,⟨k+1,rfl⟩,K w.heap.size cap _ ?_⟩
  . simp only [execOp,hx,sv,Sem.run_bind]
    rw [hr]; rfl
  . exact hs.add (Ext.push w _) (c35 (E:=E) hge (by simp)) sAc (fun y hy=>by simp at hy; subst hy; simp) rfl
end
end Go.Wl
end
section
namespace Go.Wl
open Go Go.Wk
def S6 (sz:Nat) (w:World) (v:Value) (n:Nat) (F:List Value) (bs:List Nat):Prop :=
 (v=.slice none 0 0/\n=0/\F=[]/\bs=[]) ∨ ∃ b cap T R,v=.slice (some ⟨b,0,none⟩) n cap/\bs=[b]/\M2 w b T (F++R)/\(F++R).length=cap * sz/\n<=cap/\F.length=n * sz
def b7v (sz:Nat):Rd (List Value) where
 sz:=sz
 rd:=fun _ _ cs x=>cs=x/\x.length=sz/\x.all w5=true
 len:=fun h=>by rw [h.1]; exact h.2.1
 mono:=fun h _ _ _=>h
 plain:=fun h=>by rw [h.1]; exact h.2.2
def G5 (sz:Nat):Nat->List Value->List (List Value)
 | 0,_=>[]
 | n+1,F=>F.take sz::G5 sz n (F.drop sz)
theorem a0b {sz:Nat}:∀ {n:Nat} {F:List Value},F.length=n * sz->(G5 sz n F).flatten=F/\(G5 sz n F).length=n/\∀ c∈G5 sz n F,c.length=sz
 | 0,F,h=>by
  have:F=[]:=List.eq_nil_of_length_eq_zero (by simpa using h)
  subst this; exact ⟨rfl,rfl,fun c hc=>by cases hc⟩
 | n+1,F,h=>by
  have hn:F.length=n * sz+sz:=by rw [h,Nat.succ_mul]
  obtain ⟨h1,h2,h3⟩:=a0b (n:=n) (F:=F.drop sz) (sz:=sz) (by rw [List.length_drop]; omega)
  refine ⟨by simp [G5,h1],by simp [G5,h2],fun c hc=>?_⟩
  rcases List.mem_cons.1 hc with rfl | hc
  . rw [List.length_take]; omega
  . exact h3 c hc
theorem a8g {sz:Nat}:∀ {n:Nat} {F:List Value} {c:List Value},c∈G5 sz n F->∀ v∈c,v∈F
 | 0,F,c,h,v,_=>by cases h
 | n+1,F,c,h,v,hv=>by
  rcases List.mem_cons.1 h with rfl | h
  . exact List.mem_of_mem_take hv
  . exact List.mem_of_mem_drop (a8g h v hv)
section
variable {sz n:Nat} {w w':World} {v:Value} {F:List Value} {bs:List Nat} {Z:Nat->Prop} {A:Option Addr} {cap:Nat}
theorem S6.ac (h:S6 sz w v n F bs) (hp:F.all w5=true):Ac (b7v sz) Z w v (G5 sz n F) bs:=by
 rcases h with ⟨rfl,rfl,rfl,rfl⟩ | ⟨b,cap,T,R,rfl,rfl,ho,hC,hn,hF⟩
 . exact .inl ⟨rfl,rfl,rfl⟩
 . obtain ⟨h1,h2,h3⟩:=a0b hF
   refine .inr ⟨b,cap,F++R,T,by rw [h2],rfl,ho,hC,by rw [h2]; exact hn,fun i hi=>⟨(G5 sz n F)[i],h3 _ (List.getElem_mem _),fun j hj=>?_,rfl,h3 _ (List.getElem_mem _),?_⟩⟩
   . have hlt:i * sz+j<F.length:=by
       rw [h2] at hi
       have:(i+1) * sz<=n * sz:=Nat.mul_le_mul_right _ hi
       rw [Nat.succ_mul] at this
       have hj:j<sz:=hj
       omega
     show (F++R)[i * sz+j]?=_
     rw [List.getElem?_append_left hlt]
     have:=C5 h3 i j hj
     rw [h1] at this
     rw [this,List.getElem?_eq_getElem hi]; rfl
   . exact List.all_eq_true.2 fun v hv=>List.all_eq_true.1 hp v (a8g (List.getElem_mem _) v hv)
theorem S6.of {rows:List (List Value)} (h:Ac (b7v sz) Z w v rows bs):S6 sz w v rows.length rows.flatten bs/\rows.flatten.all w5=true:=by
 rcases h with ⟨rfl,rfl,rfl⟩ | ⟨b,cap,C,T,rfl,rfl,ho,hC,hn,hc⟩
 . exact ⟨.inl ⟨rfl,rfl,rfl,rfl⟩,rfl⟩
 . have hC:C.length=cap * sz:=hC
   have hl:∀ c∈rows,c.length=sz:=fun c hm=>by
    obtain ⟨i,hi,rfl⟩:=List.getElem_of_mem hm
    obtain ⟨_,_,_,_,h3,_⟩:=hc i hi
    exact h3
   have hfl:=E4 hl
   have hle:rows.flatten.length<=C.length:=by rw [hfl,hC]; exact Nat.mul_le_mul_right _ hn
   have hCF:C=rows.flatten++C.drop rows.flatten.length:=by
    have:C.take rows.flatten.length=rows.flatten:=by
     refine List.ext_getElem? fun k=>?_
     by_cases hk:k<rows.flatten.length
     . rw [List.getElem?_take_of_lt hk]
       have hsz:0<sz:=by
        rcases Nat.eq_zero_or_pos sz with h | h
        . rw [hfl,h] at hk; omega
        . exact h
       have hd:k / sz<rows.length:=Nat.div_lt_of_lt_mul (by rw [Nat.mul_comm,<- hfl]; exact hk)
       have hm:k % sz<sz:=Nat.mod_lt _ hsz
       have he:k / sz * sz+k % sz=k:=by rw [Nat.mul_comm]; exact Nat.div_add_mod k sz
       obtain ⟨c,g1,g2,g3,_⟩:=hc (k / sz) hd
       have e1:=g2 (k % sz) hm
       have e2:=C5 hl (k / sz) (k % sz) hm
       have e1:C[k / sz * sz+k % sz]?=c[k % sz]? := e1
       rw [he] at e1 e2
       rw [e1,e2,List.getElem?_eq_getElem hd,g3]; rfl
     . rw [List.getElem?_eq_none (by rw [List.length_take]; omega),List.getElem?_eq_none (by omega)]
    rw [<- this]
    conv=>lhs; rw [<- List.take_append_drop rows.flatten.length C]
    rw [this]
   refine ⟨.inr ⟨b,cap,T,C.drop rows.flatten.length,rfl,rfl,by rw [<- hCF]; exact ho,by rw [<- hCF]; exact hC,hn,hfl⟩,List.all_eq_true.2 fun u hu=>?_⟩
   obtain ⟨c,hm,hu⟩:=List.mem_flatten.1 hu
   obtain ⟨i,hi,rfl⟩:=List.getElem_of_mem hm
   obtain ⟨_,_,_,_,_,h4⟩:=hc i hi
   exact List.all_eq_true.1 h4 u hu
theorem S6.lt (h:S6 sz w v n F bs):∀ b∈bs,b<w.heap.size:=by
 rcases h with ⟨_,_,_,rfl⟩ | ⟨b,cap,T,R,_,rfl,ho,_⟩
 . intro b hb; cases hb
 . intro b hb; obtain rfl:=List.mem_singleton.1 hb; exact ho.lt
theorem S6.ext {B:List Nat} (h:S6 sz w v n F bs) (e:Ext B w w') (hB:∀ b∈B,b∈bs->w.heap.size<=b):S6 sz w' v n F bs:=by
 rcases h with h | ⟨b,cap,T,R,hv,rfl,ho,r⟩
 . exact .inl h
 . exact .inr ⟨b,cap,T,R,hv,rfl,ho.ext e (fun hm=>by have:=hB b hm (List.mem_singleton.2 rfl); have:=ho.lt; omega),r⟩
theorem S6.cells (h:S6 sz w (.slice A n cap) n F bs) (hn:0<n):∃ b,A=some ⟨b,0,none⟩/\bs=[b]/\Cells w b 0 F:=by
 rcases h with ⟨_,h,_⟩ | ⟨b,cap',T,R,hv,rfl,ho,_⟩
 . omega
 . simp only [Value.slice.injEq] at hv
   refine ⟨b,hv.1,rfl,ho.cellsAt fun j hj=>?_⟩
   rw [Nat.zero_add,List.getElem?_append_left hj]
theorem S6.acOf {α:Type} {r:Rd α} {xs:List α} (h:S6 sz w v n F bs) (ha:H2 r Z w (G5 sz n F) xs) (hx:xs.length=n) (hz:r.sz=sz):Ac r Z w v xs bs:=by
 rcases h with ⟨rfl,rfl,rfl,rfl⟩ | ⟨b,cap,T,R,rfl,rfl,ho,hC,hn,hF⟩
 . exact .inl ⟨rfl,List.eq_nil_of_length_eq_zero hx,rfl⟩
 . obtain ⟨h1,h2,h3⟩:=a0b hF
   obtain ⟨hl,hr⟩:=ha.get
   refine .inr ⟨b,cap,F++R,T,by rw [hx],rfl,ho,by rw [hz]; exact hC,by rw [hx]; exact hn,fun i hi=>?_⟩
   have hi':i<(G5 sz n F).length:=by omega
   refine ⟨(G5 sz n F)[i],by rw [hz]; exact h3 _ (List.getElem_mem _),fun j hj=>?_,hr i hi hi'⟩
   rw [hz] at hj ⊢
   have hlt:i * sz+j<F.length:=by
    have:(i+1) * sz<=n * sz:=Nat.mul_le_mul_right _ (by omega)
    rw [Nat.succ_mul] at this
    omega
   rw [List.getElem?_append_left hlt]
   have:=C5 h3 i j hj
   rw [h1] at this
   rw [this,List.getElem?_eq_getElem hi']; rfl
theorem S6.take {k:Nat} (h:S6 sz w (.slice A n cap) n F bs) (hk:k<=n):S6 sz w (.slice A k cap) k (F.take (k * sz)) bs:=by
 have hm:k * sz<=n * sz:=Nat.mul_le_mul_right _ hk
 rcases h with ⟨e,h,rfl,rfl⟩ | ⟨b,cap',T,R,hv,rfl,ho,hC,hn,hF⟩
 . simp only [Value.slice.injEq] at e
   obtain ⟨rfl,_,rfl⟩:=e
   have:k=0:=by omega
   subst this; exact .inl ⟨rfl,rfl,by simp,rfl⟩
 . simp only [Value.slice.injEq] at hv
   obtain ⟨rfl,_,rfl⟩:=hv
   have e:F.take (k * sz)++(F.drop (k * sz)++R)=F++R:=by rw [<- List.append_assoc,List.take_append_drop]
   exact .inr ⟨b,cap,T,F.drop (k * sz)++R,rfl,rfl,by rw [e]; exact ho,by rw [e]; exact hC,by omega,by rw [List.length_take]; omega⟩
end
abbrev iRw (sz:Nat) (v:Value) (n:Nat) (F:List Value) (bs O:List Nat):It:=⟨bs,O,fun _ w=>S6 sz w v n F bs⟩
theorem sRw {sz n:Nat} {v:Value} {F:List Value} {bs O:List Nat}:(iRw sz v n F bs O).Stab:=fun Z Z' B w w' h e hB _=>h.ext e (fun b hb hm=>hB b hb (.inl hm))
theorem a6l:∀ (c F R:List Value) (o:Nat),o+c.length<=F.length->v7 (F++R) o c=v7 F o c++R
 | [],F,R,o,_=>rfl
 | v::c,F,R,o,h=>by
  simp only [List.length_cons] at h
  show v7 ((F++R).set o v) (o+1) c=v7 (F.set o v) (o+1) c++R
  rw [List.set_append_left _ _ (by omega)]
  exact a6l c (F.set o v) R (o+1) (by rw [List.length_set]; omega)
section
variable {P:Program} {n:Nat} {ops:List Oper} {Q:Exit->Fr->World->Prop} {rest:List Oper} {f:Fr} {w w0:World} {d:Nat} {Z:Nat->Prop} {B0:List Nat} {L:List It}
variable {ty T E S:TypeId} {pos:String} {after:Array Edge} {x y:Operand} {k:IntKind} {i:Int} {sz m cap:Nat} {A:Option Addr} {F:List Value} {bs O:List Nat}
theorem c26 {b o mm:Nat} {c:List Value} (hs:Sep B0 w0 Z w L) (j:Nat) (hj:L[j]?=some (iRw sz (.slice (some ⟨b,0,none⟩) m cap) m F bs O)) (hz:∀ w,(sizeOf T).run P w=.ok mm w) (hx:ev f x=.pointer (some ⟨b,o,none⟩)) (hc:(ev f y).cells.toList=c) (hm:c.length=mm) (hl:o+mm<=F.length) (hp:c.all w5=true)
  (K:∀ w',Sep B0 w0 Z w' (L.set j (iRw sz (.slice (some ⟨b,0,none⟩) m cap) m (v7 F o c) bs O))->WL P false n ops Q rest f w') :
  WL P false n ops Q (⟨none,.store T x y,ty,pos,after,none⟩::rest) f w:=by
 have hr:S6 sz w (.slice (some ⟨b,0,none⟩) m cap) m F bs:=hs.at j hj
 rcases hr with ⟨e,_⟩ | ⟨b',cap',T',R,hv,rfl,ho,hC,hn,hF⟩
 . cases e
 . simp only [Value.slice.injEq,Option.some.injEq,Addr.mk.injEq] at hv
   obtain ⟨⟨rfl,_,_⟩,_,rfl⟩:=hv
   refine b3y hz hx hc hm ho (by rw [List.length_append]; omega) hp fun w' e _ ho'=>K w' (hs.upd j hj e ?_ sRw (fun x hx=>⟨.inl hx,by have:=hs.lt j hj x hx; have:=e.size; omega⟩) rfl)
   rw [a6l c F R o (by omega)] at ho'
   refine .inr ⟨b,cap,T',R,rfl,rfl,ho',?_,hn,?_⟩
   . rw [List.length_append,B8,<- List.length_append]; exact hC
   . rw [B8]; exact hF
theorem c1w {len:Nat} {ps:Array (Nat×Operand)} {vs:List (Nat×Value)} {zv:Value} {cs:List Value} (hs:Sep B0 w0 Z w L) (hT:∀ w,(underlying T).run P w=.ok (.slice E) w) (hE:∀ w,(sizeOf E).run P w=.ok sz w) (hz:∀ w,(zeroValue E).run P w=.ok zv w)
  (hv:ps.toList.map (fun p=>(p.1,ev f p.2))=vs) (hlen:vs.length=len) (hord:Q9 0 vs=true) (hsz:vs.all (fun p=>Nat.beq p.2.cells.size sz)=true) (hcs:(vs.flatMap fun p=>p.2.cells.toList)=cs) (hcl:cs.length=len * sz) (hsmall:Nat.ble (len * sz) 16777216=true) (hn:Nat.blt d n=true)
  (K:∀ b w',Sep B0 w0 Z w' (iRw sz (.slice (some ⟨b,0,none⟩) len len) len cs [b] []::L)->WL P false n ops Q rest (upd f d (.slice (some ⟨b,0,none⟩) len len)) w') :
  WL P false n ops Q (⟨some d,.buildSlice T len ps,ty,pos,after,none⟩::rest) f w :=
 a2k hT hE hz hv hlen hord hsz hcs hsmall hn fun b w' e h1 h2 ho=>K b w' (hs.add e (.inr ⟨b,len,E,[],rfl,rfl,by rw [List.append_nil]; exact ho.z,by rw [List.append_nil]; exact hcl,Nat.le_refl _,hcl⟩) sRw (fun x hx=>by simp at hx; subst hx; omega) rfl)
end
end Go.Wl
end
section
namespace Go.Rx
open Go Go.Wk Go.Wl
structure Ty1 where
 α:Type
 r:Rd α
 i:Inhabited α
structure Ob1 where
 β:Type
 ob:Nat->Ob β
structure Uni where
 tb:Nat->Ty1
 oj:Nat->Ob1
abbrev Uni.U (N:Uni) (t:Nat):Type:=(N.tb t).α
abbrev Uni.O (N:Uni) (k:Nat):Type:=(N.oj k).β
instance Uni.inh (N:Uni) (t:Nat):Inhabited (N.U t):=(N.tb t).i
inductive Err
 | nil
 | no (n:Int)
 | fault (a n:Int)
 | w (t:Nat) (s:Str) (e:Err)
 | p (t:Nat) (s:Str) (n:Int)
 deriving DecidableEq,Inhabited
def Err.n0:Err->Int
 | .no n=>n
 | _=>0
inductive SV (N:Uni):Type
 | un
 | undef
 | int (k:IntKind) (x:Int)
 | byte (c:UInt8)
 | tt
 | ff
 | bl (p:Prop) (d:Decidable p)
 | str (s:Str)
 | con (v:Value)
 | nils
 | sl (t:Nat) (l:List (N.U t))
 | ref (id off:Nat)
 | acc (id:Nat)
 | el (id t:Nat) (i:Int) (off:Nat)
 | fel (t:Nat) (l:List (N.U t)) (i:Int) (off:Nat)
 | sub (id t:Nat) (lo n:Int)
 | agg (vs:List (SV N))
 | tup (vs:List (SV N))
 | err (e:Err)
 | ifc (t:Nat) (v:SV N)
 | fn (K:Nat)
 | clo (K:Nat) (vs:List (SV N))
 | yld (id:Nat)
inductive Item (N:Uni):Type
 | own (T:Nat) (cells:List (SV N))
 | ac (t:Nat) (l:List (N.U t))
 | fz (t:Nat) (l:List (N.U t))
 | ob (k fid:Nat) (x:N.O k)
 | rw (t n:Nat) (cells:List (SV N))
abbrev m6 (N:Uni):=List (Nat×SV N)
abbrev i6 (N:Uni):=List (Nat×Item N)
structure St (N:Uni) where
 slots:m6 N
 gs:List (Nat×Nat×Bool×SV N)
 items:i6 N
 nx:Nat
section
variable {β:Type}
def lk:List (Nat×β)->Nat->Option β
 | [],_=>none
 | p::r,j=>bif Nat.beq p.1 j then some p.2 else lk r j
def rmv:List (Nat×β)->Nat->List (Nat×β)
 | [],_=>[]
 | p::r,j=>bif Nat.beq p.1 j then r else p::rmv r j
def Z4:List (Nat×β)->Nat->β->List (Nat×β)
 | [],_,_=>[]
 | p::r,j,x=>bif Nat.beq p.1 j then (p.1,x)::r else p::Z4 r j x
end
def cj:List Prop->Prop->Prop
 | [],r=>r
 | p::ps,r=>p/\cj ps r
def im:List Prop->Prop->Prop
 | [],r=>r
 | p::ps,r=>p->im ps r
variable {N:Uni}
def leaves:SV N->List (SV N)
 | .agg vs=>vs
 | v=>[v]
def c82:Value->SV N
 | .int k n=>match k with | .u8=>.byte (UInt8.ofNat n.toNat) | k=>.int k n
 | .bool b=>match b with | true=>.tt | false=>.ff
 | .string b=>.str b.data.toList
 | .slice none 0 0=>.nils
 | .nilIface=>.err .nil
 | v=>.con v
def okc:Value->Bool
 | .int k n=>match k with | .i64=>decide (-9223372036854775808<=n) && decide (n<=9223372036854775807) | .u8=>decide (0<=n) && decide (n<256) | _=>true
 | .string b=>Nat.ble b.data.toList.length 9223372036854775807
 | .agg _=>false
 | .tuple _=>false
 | _=>true
def d6l (v:Value):SV N:=bif okc v then c82 v else .un
def cst:Value->SV N
 | .agg cs=>bif cs.toList.all okc then .agg (cs.toList.map c82) else .un
 | v=>d6l v
structure Q1 (N:Uni) where
 ob:List Prop
 hy:List Prop
 v:SV N
def q0 (v:SV N):Option (Q1 N):=some ⟨[],[],v⟩
abbrev b9 (x:Int):Prop:=-9223372036854775808<=x/\x<=9223372036854775807
def bln (p:Prop) [d:Decidable p]:Option (Q1 N):=some ⟨[],[],.bl p d⟩
def C6 (op:BinOp) (k:IntKind) (a b:Int):Option (Q1 N) :=
 match op with
 | .add=>match k with | .i64=>some ⟨[b9 (a+b)],[],.int .i64 (a+b)⟩ | k=>q0 (.int k (k.wrap (a+b)))
 | .sub=>match k with | .i64=>some ⟨[b9 (a-b)],[],.int .i64 (a-b)⟩ | k=>q0 (.int k (k.wrap (a-b)))
 | .mul=>match k with | .i64=>some ⟨[b9 (a * b)],[],.int .i64 (a * b)⟩ | k=>q0 (.int k (k.wrap (a * b)))
 | .quo=>match k with | .i64=>some ⟨[b≠0,b9 (a.tdiv b)],[],.int .i64 (a.tdiv b)⟩ | k=>some ⟨[b≠0],[],.int k (k.wrap (a.tdiv b))⟩
 | .rem=>some ⟨[b≠0],[],.int k (a.tmod b)⟩
 | .shr=>some ⟨[0<=b],[],.int k (a.fdiv (2 ^ min b.toNat k.bits))⟩
 | .shl=>some ⟨[0<=b],[],.int k (k.wrap (a * 2 ^ min b.toNat k.bits))⟩
 | .and=>q0 (.int k (k.wrap (BitVec.ofInt k.bits a &&& BitVec.ofInt k.bits b).toNat))
 | .or=>q0 (.int k (k.wrap (BitVec.ofInt k.bits a ||| BitVec.ofInt k.bits b).toNat))
 | .xor=>q0 (.int k (k.wrap (BitVec.ofInt k.bits a ^^^ BitVec.ofInt k.bits b).toNat))
 | .eql=>bln (a=b)
 | .neq=>bln (a≠b)
 | .lss=>bln (a<b)
 | .leq=>bln (a<=b)
 | .gtr=>bln (b<a)
 | .geq=>bln (b<=a)
 | .andNot=>none
def I1 (op:BinOp) (a b:UInt8):Option (Q1 N) :=
 match op with
 | .add=>q0 (.byte (a+b))
 | .sub=>q0 (.byte (a-b))
 | .and=>q0 (.byte (a &&& b))
 | .eql=>bln (a=b)
 | .neq=>bln (a≠b)
 | .lss=>bln (a<b)
 | .leq=>bln (a<=b)
 | .gtr=>bln (b<a)
 | .geq=>bln (b<=a)
 | _=>none
def a3h (op:BinOp) (a b:Str):Option (Q1 N) :=
 match op with
 | .add=>some ⟨[a.length+b.length<=9223372036854775807],[],.str (a++b)⟩
 | .eql=>bln (a=b)
 | .neq=>bln (a≠b)
 | _=>none
def Y7:SV N->Option ((p:Prop) ×' Decidable p)
 | .tt=>some ⟨True,.isTrue trivial⟩
 | .ff=>some ⟨False,.isFalse id⟩
 | .bl p d=>some ⟨p,d⟩
 | _=>none
def b05:BinOp->Bool
 | .shl=>true
 | .shr=>true
 | _=>false
def b4u (op:BinOp) (k k':IntKind) (a b:Int):Option (Q1 N):=bif b05 op then C6 op k a b else (if k=k' then C6 op k a b else none)
def b0j (op:BinOp) (a:Err):Option (Q1 N) :=
 match op with
 | .eql=>bln (a=.nil)
 | .neq=>bln (a≠.nil)
 | _=>none
def a01 (op:BinOp) (z:Bool):Option (Q1 N) :=
 match op with
 | .eql=>q0 (bif z then .tt else .ff)
 | .neq=>q0 (bif z then .ff else .tt)
 | _=>none
def a23 (op:BinOp) (p q:Prop) (_:Decidable p) (_:Decidable q):Option (Q1 N) :=
 match op with
 | .eql=>bln (p↔q)
 | .neq=>bln (¬ (p↔q))
 | _=>none
inductive VK
 | int (k:IntKind)
 | byte
 | bool
 | str
 | err
 | sl (t:Nat)
 | acc (t:Nat)
 | val (t:Nat)
 | nilp
inductive TK
 | v (k:VK)
 | to (j:Nat)
 | nilp
inductive TP
 | own (s:Option Nat) (T:Nat) (ks:List TK)
 | ob (s:Option Nat) (k:Nat)
def TP.kept:TP->Option Nat
 | .own s _ _=>s
 | .ob s _=>s
inductive LV
 | slot (s:Nat) (k:VK)
 | own (s:Nat) (ks:List VK)
 | ob (s:Nat) (k:Nat)
 | cont (s t:Nat)
 | chain (s n T:Nat) (ks:List VK)
 | rows (s n t:Nat) (ks:List VK)
 | tree (ss:List (Nat×Nat)) (ps:List TP)
 | alt
 | unr (n:Nat)
end Go.Rx
end
section
namespace Go.Rx
open Go Go.Wk Go.Wl
structure Loc where
 b:Nat
 A:Option Addr
 n:Nat
 cap:Nat
 bs:List Nat
abbrev n9:=Nat->Option Loc
structure N3 where
 no:Nat
 fp:Nat
 fs:Nat
 wr:Nat->Option Nat
 wp:Nat->Option Nat:=fun _=>none
def e1o (T:N3) (k:Nat) (s:Str) (n:Int):Value:=match k with
 | 0=>.agg #[sv s,.int .i64 n]
 | 1=>.agg #[.int .i64 n]
 | 2=>.agg #[.iface T.no (.int .i64 n)]
 | _=>.agg #[]
inductive a3q (T:N3) (Z:Nat->Prop) (w:World):Value->Err->Prop
 | nil:a3q T Z w .nilIface .nil
 | no {n:Int} (h:InI n):a3q T Z w (.iface T.no (.int .i64 n)) (.no n)
 | fault {b:Nat} {a n:Int} (hz:Z b) (ho:Own w b T.fs [.int .i64 a,.int .i64 n]) (ha:InI a) (hn:InI n) (h0:T.fp≠0):a3q T Z w (.iface T.fp (.pointer (some ⟨b,0,none⟩))) (.fault a n)
 | w {t k:Nat} {s:Str} {n:Int} (ht:T.wr t=some k) (hn:InI n) (hk:3<=k->n=(k:Int)-3):a3q T Z w (.iface t (e1o T k s n)) (.w t s (.no n))
 | p {t S b:Nat} {s:Str} {n:Int} (ht:T.wp t=some S) (hz:Z b) (ho:Own w b S [sv s,.iface T.no (.int .i64 n)]) (hn:InI n):a3q T Z w (.iface t (.pointer (some ⟨b,0,none⟩))) (.p t s n)
inductive Rep (N:Uni) (T:N3) (ρ:n9) (Z:Nat->Prop) (w:World):Value->SV N->Prop
 | un {v:Value}:Rep N T ρ Z w v .un
 | undef:Rep N T ρ Z w Go.undef .undef
 | int {k:IntKind} {x:Int} (h:k=.i64->InI x):Rep N T ρ Z w (.int k x) (.int k x)
 | byte {c:UInt8}:Rep N T ρ Z w (bv c) (.byte c)
 | tt:Rep N T ρ Z w (.bool true) .tt
 | ff:Rep N T ρ Z w (.bool false) .ff
 | bl {p:Prop} {d:Decidable p}:Rep N T ρ Z w (.bool (@decide p d)) (.bl p d)
 | str {s:Str} (h:s.length<=9223372036854775807):Rep N T ρ Z w (sv s) (.str s)
 | con {v:Value} (h:w5 v=true):Rep N T ρ Z w v (.con v)
 | nils:Rep N T ρ Z w (.slice none 0 0) .nils
 | sl {v:Value} {t:Nat} {l:List (N.U t)} (h:(v8 (N.tb t).r).rd Z w [v] l):Rep N T ρ Z w v (.sl t l)
 | ref {id off:Nat} {L:Loc} (h:ρ id=some L):Rep N T ρ Z w (.pointer (some ⟨L.b,off,none⟩)) (.ref id off)
 | acc {id:Nat} {L:Loc} (h:ρ id=some L):Rep N T ρ Z w (.slice L.A L.n L.cap) (.acc id)
 | el {id t off:Nat} {i:Int} {L:Loc} (h:ρ id=some L) (h0:0<=i) (h1:i<L.n):Rep N T ρ Z w (.pointer (some (eA L.A (i.toNat * (N.tb t).r.sz+off)))) (.el id t i off)
 | fel {t off:Nat} {l:List (N.U t)} {i:Int} {A:Option Addr} {cap:Nat} (h:(v8 (N.tb t).r).rd Z w [.slice A l.length cap] l) (h0:0<=i) (h1:i<l.length):Rep N T ρ Z w (.pointer (some (eA A (i.toNat * (N.tb t).r.sz+off)))) (.fel t l i off)
 | subs {id t c:Nat} {lo n:Int} {A:Option Addr} {L:Loc} (h:ρ id=some L) (h0:0<=lo) (h1:0<=n) (h2:lo+n<=L.n) (hc:c=L.cap-lo.toNat) (hA:A=if L.cap=lo.toNat then L.A else L.A.map (·.add (lo.toNat * (N.tb t).r.sz))):Rep N T ρ Z w (.slice A n.toNat c) (.sub id t lo n)
 | agg0:Rep N T ρ Z w (.agg #[]) (.agg [])
 | agg1 {v:Value} {cs:List Value} {s:SV N} {ss:List (SV N)} (h:Rep N T ρ Z w v s) (hp:w5 v=true) (r:Rep N T ρ Z w (.agg cs.toArray) (.agg ss)):Rep N T ρ Z w (.agg (v::cs).toArray) (.agg (s::ss))
 | tup0:Rep N T ρ Z w (.tuple #[]) (.tup [])
 | tup1 {v:Value} {cs:List Value} {s:SV N} {ss:List (SV N)} (h:Rep N T ρ Z w v s) (r:Rep N T ρ Z w (.tuple cs.toArray) (.tup ss)):Rep N T ρ Z w (.tuple (v::cs).toArray) (.tup (s::ss))
 | err {v:Value} {e:Err} (h:a3q T Z w v e):Rep N T ρ Z w v (.err e)
 | ifc {t:Nat} {v:Value} {s:SV N} (h:Rep N T ρ Z w v s):Rep N T ρ Z w (.iface t v) (.ifc t s)
 | fn {K:Nat}:Rep N T ρ Z w (.func (.func K) #[] #[]) (.fn K)
 | clo {K:Nat} {cs:List Value} {ss:List (SV N)} (r:Rep N T ρ Z w (.agg cs.toArray) (.agg ss)):Rep N T ρ Z w (.func (.func K) #[] cs.toArray) (.clo K ss)
 | yld {id:Nat} {L:Loc} (h:ρ id=some L):Rep N T ρ Z w (.func (.yield L.b) #[] #[]) (.yld id)
def i7 (N:Uni) (T:N3) (ρ:n9) (Z:Nat->Prop) (w:World) (cs:List Value) (ss:List (SV N)):Prop:=Rep N T ρ Z w (.agg cs.toArray) (.agg ss)
section
variable {N:Uni} {T:N3} {ρ ρ':n9} {Z Z':Nat->Prop} {w w':World} {v:Value} {s:SV N} {cs:List Value} {ss:List (SV N)}
theorem i7.nil:i7 N T ρ Z w [] []:=Rep.agg0
theorem toArray_inj {α:Type} {a b:List α} (h:a.toArray=b.toArray):a=b:=by simpa using h
theorem i7.cons_inv (h:i7 N T ρ Z w cs (s::ss)):∃ v r,cs=v::r/\Rep N T ρ Z w v s/\w5 v=true/\i7 N T ρ Z w r ss:=by
 unfold i7 at h
 generalize e:Value.agg cs.toArray=a at h
 cases h with
 | agg1 h hp r=>exact ⟨_,_,toArray_inj (by simpa using e),h,hp,r⟩
theorem i7.nil_inv (h:i7 N T ρ Z w cs []):cs=[]:=by
 unfold i7 at h
 generalize e:Value.agg cs.toArray=a at h
 cases h with
 | agg0=>simp_all
theorem Rep.agg_inv (h:Rep N T ρ Z w v (.agg ss)):∃ cs:List Value,v=.agg cs.toArray/\i7 N T ρ Z w cs ss:=by
 cases h with
 | agg0=>exact ⟨[],rfl,Rep.agg0⟩
 | agg1 h hp r=>exact ⟨_,rfl,Rep.agg1 h hp r⟩
theorem Rep.tup_inv {ss:List (SV N)} (h:Rep N T ρ Z w v (.tup ss)):∃ cs:List Value,v=.tuple cs.toArray:=by
 cases h with
 | tup0=>simp_all
 | tup1 h r=>simp_all
theorem Rep.tup_cons {cs:List Value} (h:Rep N T ρ Z w (.tuple cs.toArray) (.tup (s::ss))):∃ v r,cs=v::r/\Rep N T ρ Z w v s/\Rep N T ρ Z w (.tuple r.toArray) (.tup ss):=by
 generalize e:Value.tuple cs.toArray=a at h
 cases h with
 | tup1 h r=>grind
theorem i7.len (h:i7 N T ρ Z w cs ss):cs.length=ss.length:=by
 induction ss generalizing cs with
 | nil=>rw [i7.nil_inv h]; rfl
 | cons s ss ih=>obtain ⟨v,r,rfl,_,_,h⟩:=i7.cons_inv h; simp [ih h]
theorem i7.get (h:i7 N T ρ Z w cs ss):∀ (i:Nat) (s:SV N),ss[i]?=some s->∃ v,cs[i]?=some v/\Rep N T ρ Z w v s/\w5 v=true:=by
 induction ss generalizing cs with
 | nil=>simp_all
 | cons s ss ih =>
  obtain ⟨v,r,rfl,h1,hp,h⟩:=i7.cons_inv h
  grind
theorem i7.plain (h:i7 N T ρ Z w cs ss):cs.all w5=true:=by
 induction ss generalizing cs with
 | nil=>rw [i7.nil_inv h]; rfl
 | cons s ss ih=>obtain ⟨v,r,rfl,_,hp,h⟩:=i7.cons_inv h; grind
theorem a3q.stab {e:Err} (h:a3q T Z w v e) {B:List Nat} (x:Ext B w w') (hB:∀ b∈B,Z b->w.heap.size<=b) (hZ:∀ b,Z b->b<w.heap.size->Z' b):a3q T Z' w' v e:=by
 cases h with
 | nil=>exact .nil
 | no h=>exact .no h
 | fault hz ho ha hn h0=>exact .fault (hZ _ hz ho.lt) (ho.ext x (fun hm=>by have:=hB _ hm hz; have:=ho.lt; omega)) ha hn h0
 | w h1 h2 h3=>exact .w h1 h2 h3
 | p ht hz ho hn=>exact .p ht (hZ _ hz ho.lt) (ho.ext x (fun hm=>by have:=hB _ hm hz; have:=ho.lt; omega)) hn
theorem Rep.stab (h:Rep N T ρ Z w v s) {B:List Nat} (x:Ext B w w') (hB:∀ b∈B,Z b->w.heap.size<=b) (hZ:∀ b,Z b->b<w.heap.size->Z' b) (hρ:∀ i L,ρ i=some L->ρ' i=some L):Rep N T ρ' Z' w' v s:=by
 induction h with
 | un=>exact .un
 | undef=>exact .undef
 | int h=>exact .int h
 | byte=>exact .byte
 | tt=>exact .tt
 | ff=>exact .ff
 | bl=>exact .bl
 | str h=>exact .str h
 | con h=>exact .con h
 | nils=>exact .nils
 | sl h=>exact .sl (Rd.mono _ h x hB hZ)
 | ref h=>exact .ref (hρ _ _ h)
 | acc h=>exact .acc (hρ _ _ h)
 | el h h0 h1=>exact .el (hρ _ _ h) h0 h1
 | fel h h0 h1=>exact .fel (Rd.mono _ h x hB hZ) h0 h1
 | subs h a b c d e=>exact .subs (hρ _ _ h) a b c d e
 | agg0=>exact .agg0
 | agg1 h hp r ih1 ih2=>exact .agg1 ih1 hp ih2
 | tup0=>exact .tup0
 | tup1 h r ih1 ih2=>exact .tup1 ih1 ih2
 | err h=>exact .err (h.stab x hB hZ)
 | ifc h ih=>exact .ifc ih
 | fn=>exact .fn
 | clo r ih=>exact .clo ih
 | yld h=>exact .yld (hρ _ _ h)
theorem Rep.sub (h:Rep N T ρ Z w v s) (hρ:∀ i L,ρ i=some L->ρ' i=some L):Rep N T ρ' Z w v s:=h.stab (Ext.refl [] w) (fun _ hb=>by cases hb) (fun _ h _=>h) hρ
theorem Rep.weak (h:Rep N T ρ Z w v s) (hZ:∀ b,Z b->Z' b):Rep N T ρ Z' w v s:=h.stab (Ext.refl [] w) (fun _ hb=>by cases hb) (fun b h _=>hZ b h) (fun _ _ h=>h)
theorem Rep.lower {ρ0:n9} {Z0:Nat->Prop} {w0:World} {v0:Value} (h:Rep N T ρ Z w v s) (h0:Rep N T ρ0 Z0 w0 v0 s) (hρ:∀ i L,ρ0 i=some L->ρ i=some L):Rep N T ρ0 Z w v s:=by
 induction h generalizing v0 with
 | un=>exact .un
 | undef=>exact .undef
 | int h=>exact .int h
 | byte=>exact .byte
 | tt=>exact .tt
 | ff=>exact .ff
 | bl=>exact .bl
 | str h=>exact .str h
 | con h=>exact .con h
 | nils=>exact .nils
 | sl h=>exact .sl h
 | ref h=>cases h0 with | ref h'=>have:=hρ _ _ h'; rw [h] at this; cases this; exact .ref h'
 | acc h=>cases h0 with | acc h'=>have:=hρ _ _ h'; rw [h] at this; cases this; exact .acc h'
 | el h a b=>cases h0 with | el h' _ _=>have:=hρ _ _ h'; rw [h] at this; cases this; exact .el h' a b
 | fel h a b=>exact .fel h a b
 | subs h a b c d e=>cases h0 with | subs h' _ _ _ _ _=>have:=hρ _ _ h'; rw [h] at this; cases this; exact .subs h' a b c d e
 | agg0=>exact .agg0
 | agg1 h hp r ih1 ih2=>cases h0 with | agg1 h' _ r'=>exact .agg1 (ih1 h') hp (ih2 r')
 | tup0=>exact .tup0
 | tup1 h r ih1 ih2=>cases h0 with | tup1 h' r'=>exact .tup1 (ih1 h') (ih2 r')
 | err h=>exact .err h
 | ifc h ih=>cases h0 with | ifc h'=>exact .ifc (ih h')
 | fn=>exact .fn
 | clo r ih=>cases h0 with | clo r'=>exact .clo (ih r')
 | yld h=>cases h0 with | yld h'=>have:=hρ _ _ h'; rw [h] at this; cases this; exact .yld h'
end
structure TyI (N:Uni) (T:N3) (t:Nat) where
 sv:N.U t->SV N
 bk:SV N->Option (N.U t)
 sv_ok:∀ {ρ:n9} {Z:Nat->Prop} {w:World} {cs:List Value} {x:N.U t},(N.tb t).r.rd Z w cs x->i7 N T ρ Z w cs (leaves (sv x))
 bk_ok:∀ {ρ:n9} {Z:Nat->Prop} {w:World} {cs:List Value} {s:SV N} {x:N.U t},i7 N T ρ Z w cs (leaves s)->bk s=some x->(N.tb t).r.rd Z w cs x
 hy:N.U t->List Prop:=fun _=>[]
 hy_ok:∀ {Z:Nat->Prop} {w:World} {cs:List Value} {x:N.U t},(N.tb t).r.rd Z w cs x->∀ p∈hy x,p:=by intros; contradiction
 by8:Option (PLift (N.tb t=⟨UInt8,n5,⟨0⟩⟩)):=none
end Go.Rx
end
section
namespace Go.Rx
open Go Go.Wk Go.Wl
section
variable {N:Uni}
def b2t (f:Nat->Option Nat):SV N->Option (SV N)
 | .ref id off=>(f id).map fun j=>.ref j off
 | .acc id=>(f id).map fun j=>.acc j
 | .el id t i off=>(f id).map fun j=>.el j t i off
 | .sub id t lo n=>(f id).map fun j=>.sub j t lo n
 | .ifc _ _=>none
 | .agg _=>none
 | .tup _=>none
 | .clo _ _=>none
 | .yld id=>(f id).map fun j=>.yld j
 | v=>some v
def a3d (f:Nat->Option Nat):List (SV N)->Option (List (SV N))
 | []=>some []
 | v::r=>match b2t f v,a3d f r with | some v',some r'=>some (v'::r') | _,_=>none
def d0c (f:Nat->Option Nat):SV N->Option (SV N)
 | .agg vs=>(a3d f vs).map fun vs=>.agg vs
 | .clo K vs=>(a3d f vs).map fun vs=>.clo K vs
 | v=>b2t f v
def a7h (f:Nat->Option Nat):List (SV N)->Option (List (SV N))
 | []=>some []
 | v::r=>match d0c f v,a7h f r with | some v',some r'=>some (v'::r') | _,_=>none
def c2t (f:Nat->Option Nat):SV N->Option (SV N)
 | .tup vs=>(a7h f vs).map fun vs=>.tup vs
 | v=>d0c f v
def c1r (f:Nat->Option Nat):Item N->Option (Item N)
 | .own T cells=>(a3d f cells).map fun vs=>.own T vs
 | .ac t l=>some (.ac t l)
 | .fz t l=>some (.fz t l)
 | .ob k fid x=>(f fid).map fun j=>.ob k j x
 | .rw t n cells=>(a3d f cells).map fun vs=>.rw t n vs
def a82 (f:Nat->Option Nat):i6 N->Option (i6 N)
 | []=>some []
 | p::r=>match f p.1,c1r f p.2,a82 f r with | some i,some it,some r'=>some ((i,it)::r') | _,_,_=>none
def c6x:SV N->List Nat
 | .ref id _=>[id]
 | .acc id=>[id]
 | .el id _ _ _=>[id]
 | .sub id _ _ _=>[id]
 | .yld id=>[id]
 | _=>[]
def a63:SV N->List Nat
 | .agg vs=>vs.flatMap c6x
 | .clo _ vs=>vs.flatMap c6x
 | v=>c6x v
def e2f:Item N->List Nat
 | .own _ cells=>cells.flatMap c6x
 | .rw _ _ cells=>cells.flatMap c6x
 | _=>[]
def reach (its:i6 N):Nat->List Nat->List Nat->List Nat
 | 0,_,d=>d
 | _+1,[],d=>d
 | n+1,i::r,d=>bif d.elem i then reach its n r d else reach its n ((match lk its i with | some it=>e2f it | none=>[])++r) (d++[i])
def d0n (its:i6 N) (i:Nat):Option Nat:=match lk its i with | some (.ob _ f _)=>some f | _=>none
def B6 (its:i6 N) (ids:List Nat):List (Option Nat):=ids.map some++ids.map (d0n its)
def X0:List (Option Nat)->Nat->Nat->Option Nat
 | [],_,_=>none
 | o::r,n,i=>match o with | some j=>bif Nat.beq j i then some n else X0 r (n+1) i | none=>X0 r (n+1) i
def a44 (nm:List (Option Nat)) (nx:Nat) (j:Nat):Option Nat:=match nm[j]? with | some o=>o | none=>some (nx+(j-nm.length))
def c19 (its:i6 N) (f:Nat->Option Nat):Nat->List Nat->Option (i6 N)
 | _,[]=>some []
 | p,i::r=>match lk its i with
  | some it=>(match c1r f it,c19 its f (p+1) r with | some it',some l=>some ((p,it')::l) | _,_=>none)
  | none=>none
abbrev PT (N:Uni):=(SV N->i6 N->Nat->Prop)->Prop
abbrev GC (N:Uni):=List (SV N)->i6 N->Option (PT N)
end
structure FR (N:Uni) where
 ob:List Prop
 hy:List Prop
 v:SV N
 its:i6 N
 n:Nat
structure FC (N:Uni) where
 fz:List Nat
 ss:List (List LV)
 C:List (SV N)->i6 N->Option (FR N)
end Go.Rx
end
