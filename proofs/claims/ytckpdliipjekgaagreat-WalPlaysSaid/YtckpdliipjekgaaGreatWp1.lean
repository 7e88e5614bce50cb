/- 27 texts, one behind the other. -/
import Derived.Tactics
import Derived.OrdersIn
import Derived.TacticsIn
import Derived.WalkKit
import Derived.ProofKit
import Derived.Sort.Grow
import Derived.Laws.IdiomStrings
import Derived.Laws.AppendOwn
set_option linter.defProp false
set_option linter.unusedVariables false
set_option linter.unusedSimpArgs false
set_option maxRecDepth 100000
noncomputable section
def b3N:=@Option.some.injEq
def b3O:=@Go.Result.andThen_ok
def b3P:=@List.length_append
def b3Q:=@Nat.eq_of_beq_eq_true
def b3R:=@Bool.and_eq_true
def b3S:=@Go.Sem.run_bind
def b3T:=@List.getElem?_eq_getElem
def b3U:=@List.length_take
def b3W:=@List.length_drop
def b3X:=@List.length_replicate
def b3Z:=@List.getElem?_append_left
def b4A:=@List.getElem?_append_right
def b4B:=@List.getElem?_cons_succ
def b4C:=@Nat.mul_le_mul_right
def b4D:=@List.mem_cons
def b4E:=@Go.Sem.run_pure
def b4F:=@List.length_cons
def b4G:=@cond_true
def b4H:=@Nat.le_refl
def b4I:=@List.getElem_of_mem
def b4L:=@List.append_assoc
def b4M:=@List.append_nil
def b4O:=@List.eq_nil_of_length_eq_zero
def b4P:=@Prod.mk.injEq
def b4S:=@List.mem_of_getElem?
def b4T:=@Nat.le_of_ble_eq_true
def b4V:=@Classical.byContradiction
def b4W:=@List.map_cons
def b4X:=@cond_false
def b4Z:=@List.getElem?_set_self
def b5A:=@List.all_eq_true
def b5B:=@List.getElem?_toArray
def b5C:=@List.mem_map
def b5D:=@List.getElem?_cons_zero
def b5E:=@Array.getD_eq_getD_getElem?
def b5H:=@List.getElem?_set_ne
def b5J:=@List.getElem_mem
def b5K:=@decide_eq_false
def b5L:=@Option.bind_eq_some_iff
def b5M:=@Bool.false_eq_true
def b5N:=@Nat.lt_or_ge
def b5Q:=@Nat.add_zero
def b5S:=@List.getElem?_map
def b5U:=@List.nodup_cons
def b5V:=@List.getD_eq_getElem?_getD
def b5X:=@Nat.add_mul
def b5Z:=@Array.getElem?_setIfInBounds_ne
def b6A:=@List.nil_append
def b6C:=@List.flatten_cons
def b6D:=@Ne.symm
def b6E:=@Option.some.inj
def b6F:=@List.length_map
def b6H:=@Array.getElem?_setIfInBounds_self_of_lt
def b6J:=@Nat.zero_add
def b6L:=@decide_eq_true_eq
def b6N:=@Nat.zero_le
def b6O:=@Go.Calls.mono
def b6P:=@Array.getElem?_modify
def b6Q:=@Nat.eq_zero_or_pos
def b6R:=@List.drop_drop
def b6S:=@List.getElem?_eq_none
def b6T:=@List.drop_take
def b6U:=@List.getElem_append_right
def b6V:=@List.mem_append_left
def b6W:=@List.map_append
def b6X:=@Nat.div_lt_of_lt_mul
def b6Y:=@List.getElem_append_left
def b7A:=@List.all_cons
def b7C:=@Array.length_toList
def b7E:=@List.drop_zero
def b7G:=@Nat.mul_comm
def b7H:=@List.mem_filter
def b7I:=@Bool.or_eq_true
def b7J:=@List.mem_append_right
def b7L:=@Array.ext'
def b7M:=@List.drop_eq_getElem_cons
def b7N:=@List.pairwise_iff_getElem
def b7Q:=@List.filter_cons
def b7T:=@List.foldl_cons
def b7U:=@Nat.div_add_mod
def b7Y:=@Nat.beq_refl
def b7Z:=@Bool.not_false
def b8C:=@List.cons_append
def b8D:=@Nat.mod_lt
def b8E:=@Nat.add_assoc
def b8H:=@Nat.mul_le_mul_left
def b8I:=@UInt8.toNat_inj
def b8L:=@List.mem_filterMap
def b8M:=@UInt8.toNat_ofNat'
def b8S:=@List.size_toArray
def b8T:=@Go.Oper.uponIn_value
def b8U:=@not_true_eq_false
def b8V:=@List.ext_getElem?
def b8Y:=@Nat.mul_one
def b9A:=@ByteArray.ext
def b9B:=@Option.getD_some
def b9C:=@Go.wpIn_mono
def b9D:=@Array.toArray_toList
def b9E:=@Option.map_some
def b9G:=@List.toList_toArray
def b9H:=@List.filter_eq_self
def b9I:=@Int.toNat_of_nonneg
def b9J:=@List.mergeSort_perm
def b9M:=@Nat.sub_mul
def b9N:=@List.getElem?_take
def b9Q:=@Array.getElem?_eq_none_iff
def b9R:=@Go.Addr.mk.injEq
def b9S:=@Go.Oper.uponIn_enter
def b9T:=@List.nodup_append
def b9U:=@Array.size_append
def b9X:=@Int.not_lt
def b9Y:=@Array.mem_filter
def b9Z:=@List.mem_flatten
section
namespace Go.Wk
open Go
abbrev Fr:=Nat->Value
def upd (f:Fr) (d:Nat) (v:Value):Fr:=fun t=>bif Nat.beq t d then v else f t
theorem M6 (f:Fr) (d:Nat) (v:Value) (t:Nat):upd f d v t=if t=d then v else f t:=by
 unfold upd
 simp_all
theorem a1s {t d:Nat} (h:t≠d):Nat.beq t d=false:=by cases hc:Nat.beq t d with | false=>rfl | true=>simp_all
def ev (f:Fr):Operand->Value
 | .tmp t=>f t
 | .const v=>v
 | .global g=>.pointer (some ⟨g,0,none⟩)
 | .func k=>.func (.func k) #[] #[]
structure Is (a:Act) (f:Fr) (n:Nat):Prop where
 size:a.tmps.size=n
 get:∀ t,a.tmps.getD t undef=f t
theorem Is.eval {a:Act} {f:Fr} {n:Nat} (h:Is a f n):a.eval=ev f:=by
 funext x
 cases x with
 | tmp t=>exact h.get t
 | _=>rfl
theorem Is.put {a:Act} {f:Fr} {n:Nat} (h:Is a f n) {d:Nat} (hd:d<n) (v:Value):Is (a.put (some d) v) (upd f d v) n:=by
 refine ⟨by simp [Act.put,h.size],fun t=>?_⟩
 rw [M6]
 have hs:=h.size
 by_cases ht:t=d
 . subst ht; simp [Act.put,hs,hd]
 . rw [if_neg ht,<- h.get t]
   simp [Act.put,b6D ht]
def Sim (w w1:World):Prop:=∃ k,w1={ w with drawn:=k }
theorem Sim.refl (w:World):Sim w w:=⟨w.drawn,rfl⟩
theorem Sim.symm {a b:World} (h:Sim a b):Sim b a:=by obtain ⟨k,rfl⟩:=h; exact ⟨a.drawn,rfl⟩
theorem Sim.trans {a b c:World} (h:Sim a b) (k:Sim b c):Sim a c:=by obtain ⟨_,rfl⟩:=h; obtain ⟨m,rfl⟩:=k; exact ⟨m,rfl⟩
theorem Sim.heap {a b:World} (h:Sim a b):b.heap=a.heap:=by obtain ⟨_,rfl⟩:=h; rfl
theorem Sim.drawn (a:World) (k:Nat):Sim a { a with drawn:=k }:=⟨k,rfl⟩
def R7 (ro:Option Nat):Fence:={ fn:=fun _=>True,depth:=none,alive:=false,round:=ro }
def lift (n:Nat) (ds:List Deferred) (Q:Exit->Fr->World->Prop):Exit->Act->World->Prop:=fun e a w1=>∃ f w,Is a f n/\a.defers=ds/\Sim w w1/\Q e f w
def W (P:Program) (n:Nat) (c:Code) (Q:Exit->Fr->World->Prop) (f:Fr) (w:World):Prop:=∀ a w1,Is a f n->Sim w w1->∀ ro,c.wpIn (R7 ro) 0 P (lift n a.defers Q) a w1
section
variable {P:Program} {n:Nat} {Q:Exit->Fr->World->Prop} {f:Fr} {w:World}
theorem c3m {ds:List Deferred} {Q':Exit->Fr->World->Prop} {e:Exit} {a:Act} {w1:World} (h:lift n ds Q e a w1) (hq:∀ f w,Q e f w->Q' e f w):lift n ds Q' e a w1 :=
 let ⟨g,v,hg,hd,hv,q⟩:=h; ⟨g,v,hg,hd,hv,hq _ _ q⟩
theorem a0q {c:Code} {Q':Exit->Fr->World->Prop} (h:W P n c Q f w) (hq:∀ e f w,Q e f w->Q' e f w):W P n c Q' f w :=
 fun a w1 ha hs ro=>b9C (h a w1 ha hs ro) fun _ _ _ h=>c3m h (hq _)
theorem G0 (h:Q .normal f w):W P n .skip Q f w:=fun _ _ ha hs _=>wpIn_skip ⟨f,w,ha,rfl,hs,h⟩
theorem F4 (h:Q .ret f w):W P n .ret Q f w:=fun _ _ ha hs _=>wpIn_ret ⟨f,w,ha,rfl,hs,h⟩
theorem a11 {i:Nat} (h:Q (.exit i) f w):W P n (.exit i) Q f w:=fun _ _ ha hs _=>wpIn_exit ⟨f,w,ha,rfl,hs,h⟩
def c1p (next:Fr->World->Prop) (Q:Exit->Fr->World->Prop):Exit->Fr->World->Prop
 | .normal,f,w=>next f w
 | e,f,w=>Q e f w
theorem k8 {x y:Code} (h:W P n x (c1p (W P n y Q) Q) f w):W P n (.seq x y) Q f w:=fun a w1 ha hs ro =>
 wpIn_seq (b9C (h a w1 ha hs ro) fun e a' w' ⟨g,v,hg,hd,hv,q⟩=>by
  cases e <;> first | exact hd ▸ q a' w' hg hv ro | exact ⟨g,v,hg,hd,hv,q⟩)
theorem e4a {x y:Code} (I:Fr->World->Prop) (h:W P n x (c1p I Q) f w) (k:∀ f w,I f w->W P n y Q f w):W P n (.seq x y) Q f w :=
 k8 (a0q h fun e f w q=>by cases e <;> first | exact k _ _ q | exact q)
theorem E3 {c:Operand} {x y:Code} {b:Bool} (hc:ev f c=.bool b) (ht:b=true->W P n x Q f w) (hf:b=false->W P n y Q f w):W P n (.cond c x y) Q f w:=fun a w1 ha hs ro =>
 wpIn_cond_split (t:=b) (by rw [ha.eval]; exact hc) (fun h=>ht h a w1 ha hs ro) (fun h=>hf h a w1 ha hs ro)
theorem J9 {c:Operand} {x y:Code} (hc:ev f c=.bool true) (h:W P n x Q f w):W P n (.cond c x y) Q f w:=E3 hc (fun _=>h) (fun h=>by cases h)
theorem T8 {c:Operand} {x y:Code} (hc:ev f c=.bool false) (h:W P n y Q f w):W P n (.cond c x y) Q f w:=E3 hc (fun h=>by cases h) (fun _=>h)
def d0y (id:Nat) (Q:Exit->Fr->World->Prop):Exit->Fr->World->Prop
 | .exit j,f,w=>bif Nat.beq j id then Q .normal f w else Q (.exit j) f w
 | e,f,w=>Q e f w
theorem I7 {id:Nat} {c:Code} (h:W P n c (d0y id Q) f w):W P n (.block id c) Q f w:=fun a w1 ha hs ro =>
 wpIn_block (b9C (h a w1 ha hs ro) fun e a' w' ⟨g,v,hg,hd,hv,q⟩=>by
  cases e with
  | exit j =>
   simp only [Exit.inBlock]
   unfold d0y at q
   by_cases hj:j=id
   . subst hj; simp only [b7Y,b4G] at q; rw [if_pos rfl]; exact ⟨g,v,hg,hd,hv,q⟩
   . simp only [a1s hj,b4X] at q; rw [if_neg hj]; exact ⟨g,v,hg,hd,hv,q⟩
  | _=>exact ⟨g,v,hg,hd,hv,q⟩)
theorem U8 {p:Nat->Prop} (h:∃ m,p m):∃ m,p m/\∀ k,p k->m<=k:=by
 obtain ⟨m,hm⟩:=h
 induction m using Nat.strongRecOn with
 | _ m ih =>
  grind
theorem d8q {c:Code} (I:Nat->Fr->World->Prop) (m:Nat) (h0:I m f w)
  (round:∀ m f w,I m f w->W P n c (c1p (fun f' w'=>∃ m',m'<m/\I m' f' w') Q) f w):W P n (.loop c) Q f w:=by
 intro a w1 ha hs ro
 classical
 obtain ⟨ds,hds⟩:∃ ds,a.defers=ds:=⟨_,rfl⟩
 rw [hds]
 let J:Act->World->Prop:=fun a w1=>∃ m f w,Is a f n/\a.defers=ds/\Sim w w1/\I m f w
 let μ:Act->World->Nat:=fun a w1=>if h:∃ m,∃ f w,Is a f n/\a.defers=ds/\Sim w w1/\I m f w then Classical.choose (U8 h) else 0
 refine wpIn_loop J μ ⟨m,f,w,ha,hds,hs,h0⟩ ?_
 intro a w1 hJ
 have hmin:∃ f w,Is a f n/\a.defers=ds/\Sim w w1/\I (μ a w1) f w:=by
  have hex:∃ m,∃ f w,Is a f n/\a.defers=ds/\Sim w w1/\I m f w:=hJ
  have e:μ a w1=Classical.choose (U8 hex):=dif_pos hex
  rw [e]; exact (Classical.choose_spec (U8 hex)).1
 obtain ⟨f,w,hf,hds,hw,hI⟩:=hmin
 refine b9C (round _ f w hI a w1 hf hw ro) ?_
 intro e a' w' ⟨g,v,hg,hd,hv,q⟩
 have hd:=hd.trans hds
 cases e with
 | normal =>
  obtain ⟨m',hlt,hI'⟩:=q
  refine ⟨⟨m',g,v,hg,hd,hv,hI'⟩,?_⟩
  have hex:∃ m,∃ f w,Is a' f n/\a'.defers=ds/\Sim w w'/\I m f w:=⟨m',g,v,hg,hd,hv,hI'⟩
  have e:μ a' w'=Classical.choose (U8 hex):=dif_pos hex
  rw [e]
  exact Nat.lt_of_le_of_lt ((Classical.choose_spec (U8 hex)).2 m' ⟨g,v,hg,hd,hv,hI'⟩) hlt
 | _=>exact ⟨g,v,hg,hd,hv,q⟩
end
end Go.Wk
end
section
namespace Go.Wk
open Go
def A6 (P:Program) (K:FuncId) (args:List Value) (w:World) (R:Value->World->Prop):Prop :=
 ∀ w1,Sim w w1->Calls P K args.toArray w1 fun e w2=>∃ v w',e=.returned v/\Sim w' w2/\R v w'
theorem A6.mono {P:Program} {K:FuncId} {args:List Value} {w:World} {R R':Value->World->Prop} (h:A6 P K args w R) (hr:∀ v w',R v w'->R' v w'):A6 P K args w R' :=
 fun w1 hs=>b6O (h w1 hs) fun _ _ ⟨v,w',e,s,r⟩=>⟨v,w',e,s,hr _ _ r⟩
def a5v (P:Program) (l:Nat) (args:List Value) (w:World) (R:Value->World->Prop):Prop :=
 ∀ w1,Sim w w1->∃ fn tmps assign body,(Instr.yield l args.toArray).run P w1=.ok (.round l fn tmps assign body) w1/\RoundIn (R7 none) 0 P l fn tmps assign body w1 fun e w2=>∃ v w',e=.returned v/\Sim w' w2/\R v w'
theorem a5v.mono {P:Program} {l:Nat} {args:List Value} {w:World} {R R':Value->World->Prop} (h:a5v P l args w R) (hr:∀ v w',R v w'->R' v w'):a5v P l args w R' :=
 fun w1 hs=>let ⟨fn,tmps,ars,bd,h1,h2⟩:=h w1 hs; ⟨fn,tmps,ars,bd,h1,RoundIn.mono h2 fun _ _ ⟨v,w',e,s,r⟩=>⟨v,w',e,s,hr _ _ r⟩⟩
def nth:List Value->Nat->Value
 | [],_=>undef
 | v::_,0=>v
 | _::r,t+1=>nth r t
theorem e28 (l:List Value):∀ t,l.toArray.getD t undef=nth l t:=by
 induction l with
 | nil=>intro t; simp [nth]
 | cons v r ih=>intro t; cases t with
  | zero=>simp [nth]
  | succ t=>have:=ih t; simp [nth] at this ⊢; exact this
def e6u (t:Nat) (R:Value->World->Prop):Exit->Fr->World->Prop
 | .ret,f,w=>R (f t) w
 | .normal,f,w=>R (f t) w
 | _,_,_=>False
def e7m (t u:Nat) (R:Value->World->Prop):Exit->Fr->World->Prop
 | .ret,f,w=>R (.tuple #[f t,f u]) w
 | .normal,f,w=>R (.tuple #[f t,f u]) w
 | _,_,_=>False
def e6b (R:Value->World->Prop):Exit->Fr->World->Prop
 | .ret,_,w=>R (.tuple #[]) w
 | .normal,_,w=>R (.tuple #[]) w
 | _,_,_=>False
theorem d03 (args:List Value) (n:Nat) (h:args.length<=n):Is { tmps:=args.toArray++Array.replicate (n-args.toArray.size) undef,defers:=[] } (nth args) n:=by
 refine ⟨by simp; omega,fun t=>?_⟩
 rw [<- e28]
 by_cases ht:t<args.length
 . simp [Array.getElem?_append,ht]
 . have:args.toArray[t]?=none:=by simp; omega
   simp only [b5E,this,Array.getElem?_append,b8S,ht,if_false]
   grind
section
variable {P:Program} {K:FuncId} {fn:Func} {c:Code} {args:List Value} {w:World} {R:Value->World->Prop} {n:Nat}
theorem a15 (hf:P.funcs[K]?=some fn) (hb:fn.body=some c) (hn:fn.ntmps=n) (hs:Nat.ble args.length n=true) (Q:Exit->Fr->World->Prop)
  (hq:∀ e a w1 f w,Is a f n->a.defers=[]->Sim w w1->Q e f w->bodyPost P fn (fun e w2=>∃ v w',e=.returned v/\Sim w' w2/\R v w') e a w1) (h:W P n c Q (nth args) w):A6 P K args w R:=by
 subst hn
 exact fun w1 hw=>(callsIn_wide (n:=0)).1 (callsIn_of_wp hf hb trivial (b9C (h _ w1 (d03 args _ (b4T hs)) hw none) fun e a w ⟨f,v,hf,hd,hv,q⟩=>hq e a w f v hf hd hv q))
theorem a17 {t:Nat} (hf:P.funcs[K]?=some fn) (hb:fn.body=some c) (hn:fn.ntmps=n) (hr:fn.results=#[.tmp t]) (hs:Nat.ble args.length n=true) (h:W P n c (e6u t R) (nth args) w):A6 P K args w R :=
 a15 hf hb hn hs _ (fun e a w1 f w hf hd hv q=>by
  cases e with
  | ret=>exact ⟨hd,_,results_tmp hr _ _ _,_,w,rfl,hv,by rw [hf.get]; exact q⟩
  | normal=>exact ⟨hd,_,results_tmp hr _ _ _,_,w,rfl,hv,by rw [hf.get]; exact q⟩
  | _=>exact q.elim) h
theorem e4o (hf:P.funcs[K]?=some fn) (hb:fn.body=some c) (hn:fn.ntmps=n) (hr:fn.results=#[]) (hs:Nat.ble args.length n=true) (h:W P n c (e6b R) (nth args) w):A6 P K args w R :=
 a15 hf hb hn hs _ (fun e a w1 f w hf hd hv q=>by
  cases e with
  | ret=>exact ⟨hd,_,results_none hr _ _ _,_,w,rfl,hv,q⟩
  | normal=>exact ⟨hd,_,results_none hr _ _ _,_,w,rfl,hv,q⟩
  | _=>exact q.elim) h
theorem d00 {t u:Nat} (hf:P.funcs[K]?=some fn) (hb:fn.body=some c) (hn:fn.ntmps=n) (hr:fn.results=#[.tmp t,.tmp u]) (hs:Nat.ble args.length n=true) (h:W P n c (e7m t u R) (nth args) w):A6 P K args w R :=
 a15 hf hb hn hs _ (fun e a w1 f w hf hd hv q=>by
  cases e with
  | ret=>exact ⟨hd,_,results_tmp2 hr _ _ _,_,w,rfl,hv,by rw [hf.get,hf.get]; exact q⟩
  | normal=>exact ⟨hd,_,results_tmp2 hr _ _ _,_,w,rfl,hv,by rw [hf.get,hf.get]; exact q⟩
  | _=>exact q.elim) h
end
theorem D3 {a b:Nat} (h:Nat.blt a b=true):a<b:=b4T h
def q8:List Oper->Nat->Option Nat
 | [],_=>none
 | o::_,0=>o.dst
 | _::r,t+1=>q8 r t
theorem d0e (l:List Oper):∀ t,(l.toArray[t]?).bind (·.dst)=q8 l t:=by
 induction l with
 | nil=>intro t; simp [q8]
 | cons v r ih=>intro t; cases t with
  | zero=>simp [q8]
  | succ t=>have:=ih t; simp [q8] at this ⊢; exact this
def M0 (f:Fr) (d:Option Nat) (v:Value):Fr:=match d with | some t=>upd f t v | none=>f
def e0s (P:Program) (o:Oper) (f:Fr) (w:World) (v:Value):Prop:=∀ w1,Sim w w1->(execOp (ev f) o).run P w1=.ok (.value v) w1
def c7r (ops:List Oper) (n:Nat) (f:Fr):Option (Nat×Bool)->Bool->Prop
 | none,b=>b=true
 | some (j,want),b=>∃ dj,q8 ops j=some dj/\dj<n/\((f dj=.bool want/\b=true) ∨ ((f dj=.bool (!want) ∨ f dj=undef)/\b=false))
def QL (P:Program) (n:Nat) (ops:List Oper) (Q:Exit->Fr->World->Prop):List Oper->Fr->World->Prop
 | [],f,w=>Q .normal f w
 | o::rest,f,w=>∃ d b v,o.dst=some d/\d<n/\c7r ops n f o.guard b/\(b=true->e0s P o f w v)/\(b=false->v=undef)/\QL P n ops Q rest (upd f d v) w
def WL (P:Program) (m:Bool) (n:Nat) (ops:List Oper) (Q:Exit->Fr->World->Prop) (l:List Oper) (f:Fr) (w:World):Prop :=
 match m with
 | false=>∀ a w1,Is a f n->Sim w w1->∀ ro,wpListIn (R7 ro) 0 P ops.toArray (lift n a.defers Q) l a w1
 | true=>QL P n ops Q l f w
section
variable {P:Program} {m:Bool} {n:Nat} {ops:List Oper} {Q:Exit->Fr->World->Prop} {rest:List Oper} {f:Fr} {w w':World} {d:Nat} {v:Value} {o:Oper}
theorem b9 {id:Nat} {l:List Oper} (h:WL P false n l Q l f w):W P n (.region id l.toArray false) Q f w:=fun a w1 ha hs ro=>wpIn_region_lit (h a w1 ha hs ro)
theorem b8 (h:Q .normal f w):WL P m n ops Q [] f w:=by
 cases m with
 | false=>exact fun _ _ ha hs _=>⟨f,w,ha,rfl,hs,h⟩
 | true=>exact h
theorem c8x (ro:Option Nat) {ρ:Operand->Value} {o:Oper} {w1 w2:World} {x:Next} (h:(execOp ρ o).run P w1=.ok x w2) (hx:∀ d,x≠.defer d):(o.semAt ro ρ).run P w1=.ok x w2:=by
 by_cases hd:∃ c,o.op=.defer c
 . obtain ⟨c,hc⟩:=hd
   exfalso
   unfold execOp at h
   rw [hc] at h
   simp only [b3S] at h
   generalize (resolve ρ c o.type).run P w1=r at h
   cases r with
   | ok d w'=>simp [Result.andThen] at h; grind
   | halt r w'=>simp_all
 . rw [Oper.semAt_eq ro ρ o fun c hc=>hd ⟨c,hc⟩]; exact h
theorem a9z {ro:Option Nat} {a:Act} {w1 w2:World} {x:Next} {K:Act->World->Prop} {QQ:Exit->Act->World->Prop} (h:(execOp a.eval o).run P w1=.ok x w2) (hx:∀ d,x≠.defer d) (k:o.uponIn (R7 ro) 0 P a K QQ (.ok x w2)):o.wpIn (R7 ro) 0 P a w1 K QQ:=by
 unfold Oper.wpIn
 refine ⟨fun _ _=>trivial,?_⟩
 show o.uponIn (R7 ro) 0 P a K QQ ((o.semAt ro a.eval).run P w1)
 rw [c8x ro h hx]; exact k
theorem b23 {ro:Option Nat} {K:FuncId} {args:Array Value} {w1:World} {R:Ending->World->Prop} (h:Calls P K args w1 R):CallsIn (R7 ro) (0-1) P K args w1 R:=(callsIn_wide (n:=0)).2 h
theorem a0u (hg:o.guard=none) (h:∀ a w1,Is a f n->Sim w w1->∀ ro,o.wpIn (R7 ro) 0 P a w1 (wpListIn (R7 ro) 0 P ops.toArray (lift n a.defers Q) rest) (lift n a.defers Q)):WL P false n ops Q (o::rest) f w:=fun a w1 ha hs ro=>by
 unfold wpListIn
 rw [if_pos (by simp [Region.wanted,hg])]
 simp_all
theorem put_defers (a:Act) (d:Option Nat) (v:Value):(a.put d v).defers=a.defers:=by cases d <;> rfl
theorem n7 (hg:o.guard=none) (hd:o.dst=some d) (hn:Nat.blt d n=true) (hr:e0s P o f w v) (k:WL P m n ops Q rest (upd f d v) w):WL P m n ops Q (o::rest) f w:=by
 cases m with
 | false =>
  refine a0u hg fun a w1 ha hs ro=>a9z (by rw [ha.eval]; exact hr w1 hs) (by simp_all) ?_
  rw [b8T,hd]
  exact k _ w1 (ha.put (D3 hn) v) hs ro
 | true=>exact ⟨d,true,v,hd,D3 hn,by rw [hg]; exact rfl,fun _=>hr,fun h=>(by cases h),k⟩
theorem T5 (hg:o.guard=none) (hd:o.dst=some d) (hn:Nat.blt d n=true) (hr:∀ w1,Sim w w1->∃ v w2 w',(execOp (ev f) o).run P w1=.ok (.value v) w2/\Sim w' w2/\WL P false n ops Q rest (upd f d v) w'):WL P false n ops Q (o::rest) f w :=
 a0u hg fun a w1 ha hs ro=>by
  obtain ⟨v,w2,w',hr,hs',k⟩:=hr w1 hs
  refine a9z (by rw [ha.eval]; exact hr) (by simp_all) ?_
  rw [b8T,hd]
  exact k _ _ (ha.put (D3 hn) v) hs' ro
theorem d4s (hg:o.guard=none) (hd:o.dst=none) (hr:∀ w1,Sim w w1->∃ v w2 w',(execOp (ev f) o).run P w1=.ok (.value v) w2/\Sim w' w2/\WL P false n ops Q rest f w'):WL P false n ops Q (o::rest) f w :=
 a0u hg fun a w1 ha hs ro=>by
  obtain ⟨v,w2,w',hr,hs',k⟩:=hr w1 hs
  refine a9z (by rw [ha.eval]; exact hr) (by simp_all) ?_
  rw [b8T,hd]
  exact k _ _ ha hs' ro
theorem b3a (hg:o.guard=none) (hd:o.dst=none) (hr:∀ w1,Sim w w1->∃ w2 w',(execOp (ev f) o).run P w1=.ok .skip w2/\Sim w' w2/\WL P false n ops Q rest f w'):WL P false n ops Q (o::rest) f w :=
 a0u hg fun a w1 ha hs ro=>by
  obtain ⟨w2,w',hr,hs',k⟩:=hr w1 hs
  refine a9z (by rw [ha.eval]; exact hr) (by simp_all) ?_
  rw [Oper.uponIn_skip,hd]
  exact k _ _ ha hs' ro
theorem b4s {K:FuncId} {args:List Value} {R:Value->World->Prop} (hg:o.guard=none) (hd:o.dst=some d) (hn:Nat.blt d n=true) (hr:∀ w1,Sim w w1->(execOp (ev f) o).run P w1=.ok (.enter K args.toArray) w1)
  (hc:A6 P K args w R) (k:∀ v w',R v w'->WL P false n ops Q rest (upd f d v) w'):WL P false n ops Q (o::rest) f w :=
 a0u hg fun a w1 ha hs ro=>by
  refine a9z (by rw [ha.eval]; exact hr w1 hs) (by simp_all) ?_
  rw [b9S]
  refine ⟨fun h=>(by cases h),b23 (b6O (hc w1 hs) ?_)⟩
  rintro e w2 ⟨v,w',rfl,hs',r⟩
  simp only [hd]
  exact k v w' r _ _ (ha.put (D3 hn) v) hs' ro
theorem c3z {K:FuncId} {args:List Value} {R:Value->World->Prop} (hg:o.guard=none) (hd:o.dst=none) (hr:∀ w1,Sim w w1->(execOp (ev f) o).run P w1=.ok (.enter K args.toArray) w1)
  (hc:A6 P K args w R) (k:∀ v w',R v w'->WL P false n ops Q rest f w'):WL P false n ops Q (o::rest) f w :=
 a0u hg fun a w1 ha hs ro=>by
  refine a9z (by rw [ha.eval]; exact hr w1 hs) (by simp_all) ?_
  rw [b9S]
  refine ⟨fun h=>(by cases h),b23 (b6O (hc w1 hs) ?_)⟩
  rintro e w2 ⟨v,w',rfl,hs',r⟩
  simp only [hd]
  exact k v w' r _ _ ha hs' ro
theorem c9u {l:Nat} {args:List Value} {R:Value->World->Prop} (hg:o.guard=none) (hd:o.dst=some d) (hn:Nat.blt d n=true) (hr:∀ w1,(execOp (ev f) o).run P w1=(Instr.yield l args.toArray).run P w1)
  (hc:a5v P l args w R) (k:∀ v w',R v w'->WL P false n ops Q rest (upd f d v) w'):WL P false n ops Q (o::rest) f w :=
 a0u hg fun a w1 ha hs ro=>by
  obtain ⟨fn,tmps,ars,bd,h1,h2⟩:=hc w1 hs
  refine a9z (x:=.round l fn tmps ars bd) (by rw [ha.eval,hr]; exact h1) (by simp_all) ?_
  rw [Oper.uponIn_round]
  refine ⟨fun h=>(by cases h),RoundIn.mono (F:=R7 ro) h2 ?_⟩
  rintro e w2 ⟨v,w',rfl,hs',r⟩
  simp only [hd]
  exact k v w' r _ _ (ha.put (D3 hn) v) hs' ro
theorem P6 {a:Act} (ha:Is a f n) {j dj:Nat} (hj:q8 ops j=some dj) (hn:dj<n) {x:Value} (hv:f dj=x):yielded ops.toArray a.tmps j=match x with | .bool b=>some b | _=>none:=by
 have h1:(ops.toArray[j]?).bind (·.dst)=some dj:=by rw [d0e]; exact hj
 have hs:=ha.size
 have h2:a.tmps[dj]?=some x:=by
  have hlt:dj<a.tmps.size:=by omega
  have:=ha.get dj
  rw [hv] at this
  simp [hlt] at this ⊢
  exact this
 have h3:((ops.toArray[j]?).bind (·.dst)).bind (a.tmps[·]?)=some x:=by rw [h1]; exact h2
 unfold yielded
 rw [h3]
 cases x <;> rfl
variable {dst:Option Nat} {op:Op} {ty:TypeId} {pos:String} {after:Array Edge} {j dj:Nat} {want:Bool}
theorem L5 (hj:q8 ops j=some dj) (hn:Nat.blt dj n=true) (hv:f dj=.bool want) (k:WL P m n ops Q (⟨dst,op,ty,pos,after,none⟩::rest) f w) :
  WL P m n ops Q (⟨dst,op,ty,pos,after,some (j,want)⟩::rest) f w:=by
 cases m with
 | false =>
  intro a w1 ha hs ro
  have h:=k a w1 ha hs ro
  unfold wpListIn at h ⊢
  rw [if_pos (by simp [Region.wanted])] at h
  rw [if_pos (by simp [Region.wanted,P6 ha hj (D3 hn) hv])]
  exact h
 | true =>
  obtain ⟨d,b,v,hd,hdn,hw,hr,hu,k⟩:=k
  have hb:b=true:=hw
  subst hb
  exact ⟨d,true,v,hd,hdn,⟨dj,hj,D3 hn,.inl ⟨hv,rfl⟩⟩,hr,hu,k⟩
theorem L4 (hj:q8 ops j=some dj) (hn:Nat.blt dj n=true) (hd:Nat.blt d n=true) (hv:f dj=.bool (!want)) (k:WL P m n ops Q rest (upd f d undef) w) :
  WL P m n ops Q (⟨some d,op,ty,pos,after,some (j,want)⟩::rest) f w:=by
 cases m with
 | false =>
  intro a w1 ha hs ro
  unfold wpListIn
  rw [if_neg (by simp [Region.wanted,P6 ha hj (D3 hn) hv])]
  exact ⟨fun _ _=>trivial,k _ w1 (ha.put (D3 hd) _) hs ro⟩
 | true=>exact ⟨d,false,undef,rfl,D3 hd,⟨dj,hj,D3 hn,.inr ⟨.inl hv,rfl⟩⟩,fun h=>(by cases h),fun _=>rfl,k⟩
theorem a6w (hj:q8 ops j=some dj) (hn:Nat.blt dj n=true) (hd:Nat.blt d n=true) (hv:f dj=undef) (k:WL P m n ops Q rest (upd f d undef) w) :
  WL P m n ops Q (⟨some d,op,ty,pos,after,some (j,want)⟩::rest) f w:=by
 cases m with
 | false =>
  intro a w1 ha hs ro
  unfold wpListIn
  rw [if_neg (by simp [Region.wanted,P6 ha hj (D3 hn) hv,undef])]
  exact ⟨fun _ _=>trivial,k _ w1 (ha.put (D3 hd) _) hs ro⟩
 | true=>exact ⟨d,false,undef,rfl,D3 hd,⟨dj,hj,D3 hn,.inr ⟨.inr hv,rfl⟩⟩,fun h=>(by cases h),fun _=>rfl,k⟩
theorem d5a (hj:q8 ops j=some dj) (hn:Nat.blt dj n=true) (hv:f dj=.bool (!want)) (k:WL P false n ops Q rest f w) :
  WL P false n ops Q (⟨none,op,ty,pos,after,some (j,want)⟩::rest) f w:=fun a w1 ha hs ro=>by
 unfold wpListIn
 rw [if_neg (by simp [Region.wanted,P6 ha hj (D3 hn) hv])]
 exact ⟨fun _ _=>trivial,k _ w1 ha hs ro⟩
theorem c9p (hj:q8 ops j=some dj) (hn:Nat.blt dj n=true) (hv:f dj=undef) (k:WL P false n ops Q rest f w) :
  WL P false n ops Q (⟨none,op,ty,pos,after,some (j,want)⟩::rest) f w:=fun a w1 ha hs ro=>by
 unfold wpListIn
 rw [if_neg (by simp [Region.wanted,P6 ha hj (D3 hn) hv,undef])]
 exact ⟨fun _ _=>trivial,k _ w1 ha hs ro⟩
end
end Go.Wk
end
section
namespace Go.Wk
open Go
section
variable {P:Program} {m:Bool} {n:Nat} {ops:List Oper} {Q:Exit->Fr->World->Prop} {rest:List Oper} {f:Fr} {w w':World} {d:Nat} {v:Value}
variable {ty T T' T2:TypeId} {pos:String} {after:Array Edge} {x y z:Operand} {k:IntKind} {a b c:Int} {p q:Bool}
theorem k9 (hn:Nat.blt d n=true) (K:WL P m n ops Q rest (upd f d (ev f x)) w):WL P m n ops Q (⟨some d,.move x,ty,pos,after,none⟩::rest) f w :=
 n7 rfl rfl hn (v:=ev f x) (fun _ _=>rfl) K
theorem j6 (hn:Nat.blt d n=true) (K:WL P m n ops Q rest (upd f d (ev f x)) w):WL P m n ops Q (⟨some d,.assign x,ty,pos,after,none⟩::rest) f w :=
 n7 rfl rfl hn (v:=ev f x) (fun _ _=>rfl) K
theorem b7i (hx:ev f x=.bool p) (hn:Nat.blt d n=true) (K:WL P m n ops Q rest (upd f d (if p then ev f y else ev f z)) w):WL P m n ops Q (⟨some d,.pick x y z,ty,pos,after,none⟩::rest) f w :=
 n7 rfl rfl hn (v:=if p then ev f y else ev f z) (fun _ _=>by simp [execOp,hx,asBool,go_sem]) K
theorem a4s (hx:ev f x=.bool true) (hn:Nat.blt d n=true) (K:WL P m n ops Q rest (upd f d (ev f y)) w):WL P m n ops Q (⟨some d,.pick x y z,ty,pos,after,none⟩::rest) f w :=
 b7i hx hn K
theorem a1v (hx:ev f x=.bool false) (hn:Nat.blt d n=true) (K:WL P m n ops Q rest (upd f d (ev f z)) w):WL P m n ops Q (⟨some d,.pick x y z,ty,pos,after,none⟩::rest) f w :=
 b7i hx hn K
theorem Z8 {a:Int} (h:-9223372036854775808<=a/\a<=9223372036854775807):IntKind.i64.wrap a=a:=IntWalk.i64_in a h
theorem a2l {op:BinOp} (hx:ev f x=.int k a) (hy:ev f y=.int k b) (hr:∀ w,(Op.intArith op k a b).run P w=.ok v w) (ho:op=.add ∨ op=.sub ∨ op=.mul) (hn:Nat.blt d n=true) (K:WL P m n ops Q rest (upd f d v) w) :
  WL P m n ops Q (⟨some d,.binOp op T x y T',ty,pos,after,none⟩::rest) f w :=
 n7 rfl rfl hn (v:=v) (fun _ _=>by have hr':=hr w; rcases ho with rfl | rfl | rfl <;> simp [Op.intArith,go_sem] at hr' <;> simp [execOp,hx,hy,eqGuard,binOp,go_sem,hr']) K
theorem c0b (hx:ev f x=.int .i64 a) (hy:ev f y=.int .i64 b) (hb:-9223372036854775808<=a+b/\a+b<=9223372036854775807) (hn:Nat.blt d n=true) (K:WL P m n ops Q rest (upd f d (.int .i64 (a+b))) w) :
  WL P m n ops Q (⟨some d,.binOp .add T x y T',ty,pos,after,none⟩::rest) f w :=
 a2l hx hy (fun _=>by simp [Op.intArith,go_sem,Z8 hb]) (by simp) hn K
theorem c0f (hx:ev f x=.int .i64 a) (hy:ev f y=.int .i64 b) (hb:-9223372036854775808<=a-b/\a-b<=9223372036854775807) (hn:Nat.blt d n=true) (K:WL P m n ops Q rest (upd f d (.int .i64 (a-b))) w) :
  WL P m n ops Q (⟨some d,.binOp .sub T x y T',ty,pos,after,none⟩::rest) f w :=
 a2l hx hy (fun _=>by simp [Op.intArith,go_sem,Z8 hb]) (by simp) hn K
theorem d6e (hx:ev f x=.int .i64 a) (hy:ev f y=.int .i64 b) (hb:-9223372036854775808<=a * b/\a * b<=9223372036854775807) (hn:Nat.blt d n=true) (K:WL P m n ops Q rest (upd f d (.int .i64 (a * b))) w) :
  WL P m n ops Q (⟨some d,.binOp .mul T x y T',ty,pos,after,none⟩::rest) f w :=
 a2l hx hy (fun _=>by simp [Op.intArith,go_sem,Z8 hb]) (by simp) hn K
theorem c77 (hx:ev f x=.int k a) (hy:ev f y=.int k b) (hn:Nat.blt d n=true) (K:WL P m n ops Q rest (upd f d (.int k (k.wrap (a+b)))) w) :
  WL P m n ops Q (⟨some d,.binOp .add T x y T',ty,pos,after,none⟩::rest) f w :=
 a2l hx hy (fun _=>by simp [Op.intArith,go_sem]) (by simp) hn K
theorem c79 (hx:ev f x=.int k a) (hy:ev f y=.int k b) (hn:Nat.blt d n=true) (K:WL P m n ops Q rest (upd f d (.int k (k.wrap (a-b)))) w) :
  WL P m n ops Q (⟨some d,.binOp .sub T x y T',ty,pos,after,none⟩::rest) f w :=
 a2l hx hy (fun _=>by simp [Op.intArith,go_sem]) (by simp) hn K
theorem d8d (hx:ev f x=.int k a) (hy:ev f y=.int k b) (hn:Nat.blt d n=true) (K:WL P m n ops Q rest (upd f d (.int k (k.wrap (a * b)))) w) :
  WL P m n ops Q (⟨some d,.binOp .mul T x y T',ty,pos,after,none⟩::rest) f w :=
 a2l hx hy (fun _=>by simp [Op.intArith,go_sem]) (by simp) hn K
theorem c11 (hx:ev f x=.int k a) (hy:ev f y=.int k b) (hb:b≠0) (hn:Nat.blt d n=true) (K:WL P m n ops Q rest (upd f d (.int k (k.wrap (a.tdiv b)))) w) :
  WL P m n ops Q (⟨some d,.binOp .quo T x y T',ty,pos,after,none⟩::rest) f w :=
 n7 rfl rfl hn (v:=.int k (k.wrap (a.tdiv b))) (fun _ _=>by simp [execOp,hx,hy,eqGuard,binOp,go_sem,Op.intDiv,hb]) K
theorem e3e (hx:ev f x=.int k a) (hy:ev f y=.int k b) (hb:b≠0) (hn:Nat.blt d n=true) (K:WL P m n ops Q rest (upd f d (.int k (a.tmod b))) w) :
  WL P m n ops Q (⟨some d,.binOp .rem T x y T',ty,pos,after,none⟩::rest) f w :=
 n7 rfl rfl hn (v:=.int k (a.tmod b)) (fun _ _=>by simp [execOp,hx,hy,eqGuard,binOp,go_sem,Op.intDiv,hb]) K
theorem e5e {k':IntKind} (hx:ev f x=.int k a) (hy:ev f y=.int k' b) (hb:0<=b) (hn:Nat.blt d n=true) (K:WL P m n ops Q rest (upd f d (.int k (a.fdiv (2 ^ min b.toNat k.bits)))) w) :
  WL P m n ops Q (⟨some d,.binOp .shr T x y T',ty,pos,after,none⟩::rest) f w :=
 n7 rfl rfl hn (v:=.int k (a.fdiv (2 ^ min b.toNat k.bits))) (fun _ _=>by simp [execOp,hx,hy,eqGuard,binOp,go_sem,Op.shift,b9X.2 hb]) K
theorem e4j {k':IntKind} (hx:ev f x=.int k a) (hy:ev f y=.int k' b) (hb:0<=b) (hn:Nat.blt d n=true) (K:WL P m n ops Q rest (upd f d (.int k (k.wrap (a * 2 ^ min b.toNat k.bits)))) w) :
  WL P m n ops Q (⟨some d,.binOp .shl T x y T',ty,pos,after,none⟩::rest) f w :=
 n7 rfl rfl hn (v:=.int k (k.wrap (a * 2 ^ min b.toNat k.bits))) (fun _ _=>by simp [execOp,hx,hy,eqGuard,binOp,go_sem,Op.shift,b9X.2 hb]) K
theorem d7c (hx:ev f x=.int k a) (hy:ev f y=.int k b) (hn:Nat.blt d n=true) (K:WL P m n ops Q rest (upd f d (.int k (k.wrap (BitVec.ofInt k.bits a &&& BitVec.ofInt k.bits b).toNat))) w) :
  WL P m n ops Q (⟨some d,.binOp .and T x y T',ty,pos,after,none⟩::rest) f w :=
 n7 rfl rfl hn (v:=.int k (k.wrap (BitVec.ofInt k.bits a &&& BitVec.ofInt k.bits b).toNat)) (fun _ _=>by simp [execOp,hx,hy,eqGuard,binOp,go_sem,Op.intBits]) K
theorem e7b (hx:ev f x=.int k a) (hy:ev f y=.int k b) (hn:Nat.blt d n=true) (K:WL P m n ops Q rest (upd f d (.int k (k.wrap (BitVec.ofInt k.bits a ||| BitVec.ofInt k.bits b).toNat))) w) :
  WL P m n ops Q (⟨some d,.binOp .or T x y T',ty,pos,after,none⟩::rest) f w :=
 n7 rfl rfl hn (v:=.int k (k.wrap (BitVec.ofInt k.bits a ||| BitVec.ofInt k.bits b).toNat)) (fun _ _=>by simp [execOp,hx,hy,eqGuard,binOp,go_sem,Op.intBits]) K
theorem e5s (hx:ev f x=.int k a) (hy:ev f y=.int k b) (hn:Nat.blt d n=true) (K:WL P m n ops Q rest (upd f d (.int k (k.wrap (BitVec.ofInt k.bits a ^^^ BitVec.ofInt k.bits b).toNat))) w) :
  WL P m n ops Q (⟨some d,.binOp .xor T x y T',ty,pos,after,none⟩::rest) f w :=
 n7 rfl rfl hn (v:=.int k (k.wrap (BitVec.ofInt k.bits a ^^^ BitVec.ofInt k.bits b).toNat)) (fun _ _=>by simp [execOp,hx,hy,eqGuard,binOp,go_sem,Op.intBits]) K
theorem a7r (hx:ev f x=.int k a) (hy:ev f y=.int k b) (hn:Nat.blt d n=true) (K:WL P m n ops Q rest (upd f d (.bool (decide (a<b)))) w) :
  WL P m n ops Q (⟨some d,.binOp .lss T x y T',ty,pos,after,none⟩::rest) f w :=
 n7 rfl rfl hn (v:=.bool (decide (a<b))) (fun _ _=>by simp [execOp,hx,hy,eqGuard,binOp,go_sem,Op.intCmp]) K
theorem d6i (hx:ev f x=.int k a) (hy:ev f y=.int k b) (hn:Nat.blt d n=true) (K:WL P m n ops Q rest (upd f d (.bool (decide (a<=b)))) w) :
  WL P m n ops Q (⟨some d,.binOp .leq T x y T',ty,pos,after,none⟩::rest) f w :=
 n7 rfl rfl hn (v:=.bool (decide (a<=b))) (fun _ _=>by simp [execOp,hx,hy,eqGuard,binOp,go_sem,Op.intCmp]) K
theorem b4f (hx:ev f x=.int k a) (hy:ev f y=.int k b) (hn:Nat.blt d n=true) (K:WL P m n ops Q rest (upd f d (.bool (decide (b<a)))) w) :
  WL P m n ops Q (⟨some d,.binOp .gtr T x y T',ty,pos,after,none⟩::rest) f w :=
 n7 rfl rfl hn (v:=.bool (decide (b<a))) (fun _ _=>by simp [execOp,hx,hy,eqGuard,binOp,go_sem,Op.intCmp]) K
theorem c83 (hx:ev f x=.int k a) (hy:ev f y=.int k b) (hn:Nat.blt d n=true) (K:WL P m n ops Q rest (upd f d (.bool (decide (b<=a)))) w) :
  WL P m n ops Q (⟨some d,.binOp .geq T x y T',ty,pos,after,none⟩::rest) f w :=
 n7 rfl rfl hn (v:=.bool (decide (b<=a))) (fun _ _=>by simp [execOp,hx,hy,eqGuard,binOp,go_sem,Op.intCmp]) K
theorem a36 (hx:ev f x=.int k a) (hy:ev f y=.int k b) (hn:Nat.blt d n=true) (K:WL P m n ops Q rest (upd f d (.bool (decide (a=b)))) w) :
  WL P m n ops Q (⟨some d,.binOp .eql T x y T',ty,pos,after,none⟩::rest) f w :=
 n7 rfl rfl hn (v:=.bool (decide (a=b))) (fun _ _=>by simp [execOp,hx,hy,eqGuard,binOp,go_sem,Op.intCmp]; grind) K
theorem c18 (hx:ev f x=.int k a) (hy:ev f y=.int k b) (hn:Nat.blt d n=true) (K:WL P m n ops Q rest (upd f d (.bool (decide (a≠b)))) w) :
  WL P m n ops Q (⟨some d,.binOp .neq T x y T',ty,pos,after,none⟩::rest) f w :=
 n7 rfl rfl hn (v:=.bool (decide (a≠b))) (fun _ _=>by simp [execOp,hx,hy,eqGuard,binOp,go_sem,Op.intCmp]; grind) K
theorem eqB {w:World} {p q:Bool} (hT:∀ w,(underlying T).run P w=.ok .bool w):(Op.equal T (.bool p) (.bool q)).run P w=.ok (decide (p=q)) w:=by
 have h:∀ d,(Op.equalIn (d+1) T (.bool p) (.bool q)).run P w=.ok (decide (p=q)) w:=fun d=>by
  unfold Op.equalIn
  rw [b3S,hT,b3O]
  cases p <;> cases q <;> rfl
 exact h 9999
theorem e0l {q:Bool} (hT:∀ w,(underlying T).run P w=.ok .bool w) (hx:ev f x=.bool p) (hy:ev f y=.bool q) (hn:Nat.blt d n=true) (K:WL P m n ops Q rest (upd f d (.bool (decide (p=q)))) w) :
  WL P m n ops Q (⟨some d,.binOp .eql T x y T',ty,pos,after,none⟩::rest) f w :=
 n7 rfl rfl hn (v:=.bool (decide (p=q))) (fun _ _=>by simp [execOp,hx,hy,eqGuard,binOp,go_sem,eqB hT]) K
theorem d9m {q:Bool} (hT:∀ w,(underlying T).run P w=.ok .bool w) (hx:ev f x=.bool p) (hy:ev f y=.bool q) (hn:Nat.blt d n=true) (K:WL P m n ops Q rest (upd f d (.bool (decide (p≠q)))) w) :
  WL P m n ops Q (⟨some d,.binOp .neq T x y T',ty,pos,after,none⟩::rest) f w :=
 n7 rfl rfl hn (v:=.bool (decide (p≠q))) (fun _ _=>by cases p <;> cases q <;> simp [execOp,hx,hy,eqGuard,binOp,go_sem,eqB hT]) K
theorem c0e (hx:ev f x=.bool p) (hn:Nat.blt d n=true) (K:WL P m n ops Q rest (upd f d (.bool (!p))) w):WL P m n ops Q (⟨some d,.unOp .not T x,ty,pos,after,none⟩::rest) f w :=
 n7 rfl rfl hn (v:=.bool (!p)) (fun _ _=>by simp [execOp,hx,Op.unary,go_sem]) K
theorem e5w (hx:ev f x=.int k a) (hn:Nat.blt d n=true) (K:WL P m n ops Q rest (upd f d (.int k (k.wrap (0-a)))) w):WL P m n ops Q (⟨some d,.unOp .neg T x,ty,pos,after,none⟩::rest) f w :=
 n7 rfl rfl hn (v:=.int k (k.wrap (0-a))) (fun _ _=>by simp [execOp,hx,Op.unary,Op.intArith,go_sem]) K
theorem I3 {vs:Array Value} {i:Nat} (hx:ev f x=.tuple vs) (hi:vs[i]?=some v) (hn:Nat.blt d n=true) (K:WL P m n ops Q rest (upd f d v) w):WL P m n ops Q (⟨some d,.extract x i,ty,pos,after,none⟩::rest) f w :=
 n7 rfl rfl hn (v:=v) (fun _ _=>by simp [execOp,hx,Instr.extract,hi,go_sem]) K
theorem b9k {fn:Fn} {xs ys:List Operand} (hn:Nat.blt d n=true) (K:WL P m n ops Q rest (upd f d (.func fn (xs.map (ev f)).toArray (ys.map (ev f)).toArray)) w):WL P m n ops Q (⟨some d,.makeFunc fn xs.toArray ys.toArray,ty,pos,after,none⟩::rest) f w :=
 n7 rfl rfl hn (v:=.func fn (xs.map (ev f)).toArray (ys.map (ev f)).toArray) (fun _ _=>by simp [execOp,Instr.makeFunc,go_sem]) K
theorem a1z {A:Option Addr} {mm cp:Nat} {E:TypeId} (hT:∀ w,(underlying T).run P w=.ok (.slice E) w) (hx:ev f x=.slice A mm cp) (hn:Nat.blt d n=true) (K:WL P m n ops Q rest (upd f d (.int .i64 mm)) w) :
  WL P m n ops Q (⟨some d,.call ⟨.builtin .len,#[x],#[T]⟩,ty,pos,after,none⟩::rest) f w :=
 n7 rfl rfl hn (v:=.int .i64 mm) (fun _ _=>by simp [Builtin.len_,hx,hT,go_sem]) K
theorem e0c {s:ByteArray} (hT:∀ w,(underlying T).run P w=.ok .string w) (hx:ev f x=.string s) (hn:Nat.blt d n=true) (K:WL P m n ops Q rest (upd f d (.int .i64 s.size)) w) :
  WL P m n ops Q (⟨some d,.call ⟨.builtin .len,#[x],#[T]⟩,ty,pos,after,none⟩::rest) f w :=
 n7 rfl rfl hn (v:=.int .i64 s.size) (fun _ _=>by simp [Builtin.len_,hx,hT,go_sem]) K
theorem c63 {Ts:Array TypeId} (hx:ev f x=.int k a) (hy:ev f y=.int k b) (hn:Nat.blt d n=true) (K:WL P m n ops Q rest (upd f d (.int k (max a b))) w) :
  WL P m n ops Q (⟨some d,.call ⟨.builtin .max,#[x,y],Ts⟩,ty,pos,after,none⟩::rest) f w :=
 n7 rfl rfl hn (v:=.int k (max a b)) (fun _ _=>by
  have e:(if b > a then b else a)=max a b:=by rw [Int.max_def]; split <;> split <;> omega
  simp [Builtin.max_,Builtin.max2,hx,hy,go_sem]; exact e) K
theorem d6r {Ts:Array TypeId} (hx:ev f x=.int k a) (hy:ev f y=.int k b) (hn:Nat.blt d n=true) (K:WL P m n ops Q rest (upd f d (.int k (min a b))) w) :
  WL P m n ops Q (⟨some d,.call ⟨.builtin .min,#[x,y],Ts⟩,ty,pos,after,none⟩::rest) f w :=
 n7 rfl rfl hn (v:=.int k (min a b)) (fun _ _=>by
  have e:(if b<a then b else a)=min a b:=by rw [Int.min_def]; split <;> split <;> omega
  simp [Builtin.min_,Builtin.min2,hx,hy,go_sem]; exact e) K
theorem b1y {Kf:FuncId} {xs:Array Operand} {Ts:Array TypeId} {args:List Value} {R:Value->World->Prop} (hK:∀ ars w,(callFunc Kf ars).run P w=.ok (.enter Kf ars) w) (ha:xs.toList.map (ev f)=args)
  (hc:A6 P Kf args w R) (hn:Nat.blt d n=true) (K:∀ v w',R v w'->WL P false n ops Q rest (upd f d v) w'):WL P false n ops Q (⟨some d,.call ⟨.value (.func Kf),xs,Ts⟩,ty,pos,after,none⟩::rest) f w :=
 b4s rfl rfl hn (K:=Kf) (args:=args) (fun _ _=>by
  have:xs.map (ev f)=args.toArray:=by rw [<- ha]; apply b7L; simp
  simp [execOp,resolve,Deferred.ofValue,invoke,ev,this,go_sem,hK]) hc K
theorem a14 {Kf:FuncId} {xs:Array Operand} {Ts:Array TypeId} {args:List Value} {val:Value} (hK:∀ ars w,(callFunc Kf ars).run P w=.ok (.enter Kf ars) w) (ha:xs.toList.map (ev f)=args)
  (hc:A6 P Kf args w (fun v w'=>v=val/\w'=w)) (hn:Nat.blt d n=true) (K:WL P false n ops Q rest (upd f d val) w):WL P false n ops Q (⟨some d,.call ⟨.value (.func Kf),xs,Ts⟩,ty,pos,after,none⟩::rest) f w :=
 b1y hK ha hc hn (fun _ _ h=>by simp_all)
theorem a71 {Kf:FuncId} {xs:Array Operand} {Ts:Array TypeId} {args:List Value} {val:Value} {R:World->Prop} (hK:∀ ars w,(callFunc Kf ars).run P w=.ok (.enter Kf ars) w) (ha:xs.toList.map (ev f)=args)
  (hc:A6 P Kf args w (fun v w'=>v=val/\R w')) (hn:Nat.blt d n=true) (K:∀ w',R w'->WL P false n ops Q rest (upd f d val) w'):WL P false n ops Q (⟨some d,.call ⟨.value (.func Kf),xs,Ts⟩,ty,pos,after,none⟩::rest) f w :=
 b1y hK ha hc hn (fun _ w' h=>by simp_all)
end
end Go.Wk
end
section
namespace Go.Wk
open Go
structure Ext (B:List Nat) (w w':World):Prop where
 os:w'.os=w.os
 tape:w'.tape=w.tape
 output:w'.output=w.output
 size:w.heap.size<=w'.heap.size
 block:∀ b,b<w.heap.size->b ∉ B->w'.heap[b]?=w.heap[b]?
theorem Ext.refl (B:List Nat) (w:World):Ext B w w:=⟨rfl,rfl,rfl,b4H _,fun _ _ _=>rfl⟩
theorem Ext.trans {B B1 B2:List Nat} {a b c:World} (h:Ext B1 a b) (k:Ext B2 b c) (h1:∀ x∈B1,x∈B ∨ a.heap.size<=x) (h2:∀ x∈B2,x∈B ∨ a.heap.size<=x):Ext B a c :=
 ⟨k.os.trans h.os,k.tape.trans h.tape,k.output.trans h.output,Nat.le_trans h.size k.size,fun i hi hB =>
  (k.block i (Nat.lt_of_lt_of_le hi h.size) (fun hm=>by grind)).trans (h.block i hi (fun hm=>by grind))⟩
theorem Ext.tr {a b c:World} (h:Ext [] a b) (k:Ext [] b c):Ext [] a c:=h.trans k (by simp) (by simp)
theorem Ext.trB {B:List Nat} {a b c:World} (h:Ext B a b) (k:Ext B b c):Ext B a c:=h.trans k (fun x hx=>.inl hx) (fun x hx=>.inl hx)
theorem Ext.mono {B B':List Nat} {a b:World} (h:Ext B a b) (hB:∀ x∈B,x∈B' ∨ a.heap.size<=x):Ext B' a b :=
 ⟨h.os,h.tape,h.output,h.size,fun i hi hn=>h.block i hi fun hm=>by grind⟩
theorem Ext.to {B:List Nat} {a b:World} (h:Ext [] a b):Ext B a b:=h.mono (by simp)
theorem Ext.drew {B:List Nat} {a b:World} (h:Ext B a b) (n:Nat):Ext B a { b with drawn:=n }:=⟨h.os,h.tape,h.output,h.size,h.block⟩
theorem Ext.below {w w':World} (h:Ext [] w w'):RowKit.Below w.heap.size w w':=⟨h.os,h.tape,h.output,h.size,fun k hk=>h.block k hk (by simp)⟩
theorem Ext.sim {B:List Nat} {a b c:World} (h:Ext B a b) (hs:Sim b c):Ext B a c:=by obtain ⟨k,rfl⟩:=hs; exact h.drew k
theorem Ext.get {B:List Nat} {w w':World} {b:Nat} {o:Obj} (h:Ext B w w') (hb:b ∉ B) (ho:w.heap[b]?=some o):w'.heap[b]?=some o:=by
 have hlt:b<w.heap.size:=by
  rcases b5N b w.heap.size with h | h
  . exact h
  . simp_all
 rw [h.block b hlt hb,ho]
theorem a07 {w:World} {b:Nat} {o:Obj} (ho:w.heap[b]?=some o):b<w.heap.size:=by
 grind
def x9 (w:World) (b o:Nat) (cs:List Value):Prop:=∃ C T z,w.heap[b]?=some (.cells C T z)/\∀ j,j<cs.length->C[o+j]?=cs[j]?
theorem x9.ext {B:List Nat} {w w':World} {b o:Nat} {cs:List Value} (h:x9 w b o cs) (e:Ext B w w') (hb:b ∉ B):x9 w' b o cs :=
 let ⟨C,T,z,hh,hc⟩:=h; ⟨C,T,z,e.get hb hh,hc⟩
theorem x9.sim {w w1:World} {b o:Nat} {cs:List Value} (h:x9 w b o cs) (hs:Sim w w1):x9 w1 b o cs:=by obtain ⟨k,rfl⟩:=hs; exact h
theorem x9.lt {w:World} {b o:Nat} {cs:List Value} (h:x9 w b o cs):b<w.heap.size:=let ⟨_,_,_,hh,_⟩:=h; a07 hh
theorem x9.left {w:World} {b o:Nat} {c1 c2:List Value} (h:x9 w b o (c1++c2)):x9 w b o c1 :=
 let ⟨C,T,z,hh,hc⟩:=h; ⟨C,T,z,hh,fun j hj=>by grind⟩
theorem x9.cell {w:World} {b o:Nat} {cs:List Value} (h:x9 w b o cs) {j:Nat} {v:Value} (hv:cs[j]?=some v):w.cell? ⟨b,o+j,none⟩=some v:=by
 obtain ⟨C,T,z,hh,hc⟩:=h
 have hj:j<cs.length:=by
  rcases b5N j cs.length with h | h
  . exact h
  . simp_all
 simp [World.cell?,hh,hc j hj,hv]
def A2:Value->Bool
 | .agg _=>false
 | .tuple _=>false
 | _=>true
structure Rep (α:Type) where
 sz:Nat
 rd:List Nat->World->List Value->α->Prop
 len:∀ {M w cs x},rd M w cs x->cs.length=sz
 mono:∀ {M M' B w w' cs x},rd M w cs x->Ext B w w'->(∀ b∈B,b∈M ∨ w.heap.size<=b)->(∀ b∈M',b∈M ∨ w.heap.size<=b)->rd M' w' cs x
 plain:∀ {M w cs x},rd M w cs x->cs.all A2=true
theorem Rep.ext {α:Type} (r:Rep α) {M:List Nat} {w w':World} {cs:List Value} {x:α} (h:r.rd M w cs x) (e:Ext [] w w'):r.rd M w' cs x:=r.mono h e (by simp) (fun b hb=>.inl hb)
def InI (x:Int):Prop:=-9223372036854775808<=x/\x<=9223372036854775807
abbrev Str:=List UInt8
def sv (s:Str):Value:=.string ⟨s.toArray⟩
def e7w:Rep Str where
 sz:=1
 rd:=fun _ _ cs s=>cs=[sv s]/\s.length<=9223372036854775807
 len:=fun h=>by rw [h.1]; rfl
 mono:=fun h _ _ _=>h
 plain:=fun h=>by rw [h.1]; rfl
def Rep.map {α β:Type} (r:Rep α) (g:β->α):Rep β where
 sz:=r.sz
 rd:=fun M w cs y=>r.rd M w cs (g y)
 len:=r.len
 mono:=r.mono
 plain:=r.plain
def c55 {α:Type} (r:Rep α):Rep (List α) where
 sz:=1
 rd:=fun M w cs l=>l.length<=9223372036854775807/\∃ A cap,cs=[.slice A l.length cap]/\(A=none->cap=0)/\∀ i (h:i<l.length),∃ b o c,A=some ⟨b,o,none⟩/\b ∉ M/\x9 w b (o+i * r.sz) c/\r.rd M w c l[i]
 len:=fun ⟨_,A,cap,e,_⟩=>by rw [e]; rfl
 mono:=fun ⟨hl,A,cap,e,h0,h⟩ hx hB hM=>⟨hl,A,cap,e,h0,fun i hi=>by
  obtain ⟨b,o,c,e1,hb,hc,hr⟩:=h i hi
  have hlt:=hc.lt
  exact ⟨b,o,c,e1,fun hm=>by grind,hc.ext hx (fun hm=>by grind),r.mono hr hx hB hM⟩⟩
 plain:=fun ⟨_,A,cap,e,_⟩=>by rw [e]; rfl
section
variable {α β:Type} {r:Rep α} {s:Rep β} {M:List Nat} {w:World}
theorem b6u:(c55 r).rd M w [.slice none 0 0] []:=⟨by simp,none,0,rfl,fun _=>rfl,fun i hi=>by simp at hi⟩
end
section
variable {P:Program} {m:Bool} {n:Nat} {ops:List Oper} {Q:Exit->Fr->World->Prop} {rest:List Oper} {f:Fr} {w w':World} {d:Nat} {v:Value} {M:List Nat}
variable {ty T T' T2 E:TypeId} {pos:String} {after:Array Edge} {x y z:Operand} {k:IntKind} {a b c:Int} {p q:Bool}
variable {α β:Type} {r:Rep α} {s:Rep β}
theorem Y9 {b o mm cap sz:Nat} {i:Int} (hT:∀ w,(underlying T).run P w=.ok (.slice E) w) (hE:∀ w,(sizeOf E).run P w=.ok sz w) (h0:0<=i) (h1:i<mm) (w:World) :
  (Instr.indexAt T (.slice (some ⟨b,o,none⟩) mm cap) (.int k i)).run P w=.ok (.pointer (some ⟨b,o+i.toNat * sz,none⟩)) w:=by
 have e:(Addr.add ⟨b,o,none⟩ (i.toNat * sz))=⟨b,o+i.toNat * sz,none⟩:=by
  unfold Addr.add; split
  . simp_all
  . rfl
 simp [Instr.indexAt,asIntOf,hT,hE,h0,h1,go_sem,e]
theorem run_load {b o:Nat} {v:Value} (hA:∀ w,(isAgg T).run P w=.ok false w) (hc:x9 w b o [v]):(Instr.loadAt T (.pointer (some ⟨b,o,none⟩))).run P w=.ok v w:=by
 have h:=hc.cell (j:=0) (v:=v) rfl
 simp only [b5Q] at h
 simp [Instr.loadAt,Instr.sureAddr,loadVar,hA,go_sem,load,Sem.run,h]
theorem C3 {b o:Nat} (hA:∀ w,(isAgg T).run P w=.ok false w) (hx:ev f x=.pointer (some ⟨b,o,none⟩)) (hc:x9 w b o [v]) (hn:Nat.blt d n=true) (K:WL P m n ops Q rest (upd f d v) w) :
  WL P m n ops Q (⟨some d,.load T x,ty,pos,after,none⟩::rest) f w :=
 n7 rfl rfl hn (v:=v) (fun w1 hs=>by simp only [execOp,hx,b3S,run_load hA (hc.sim hs)]; rfl) K
theorem O0 {b o:Nat} {cs:List Value} (hc:x9 w b o cs):∀ (mm i:Nat) (acc:Array Value),i+mm=cs.length->(loadCellsFrom ⟨b,o,none⟩ i mm acc).run P w=.ok (acc++(cs.drop i).toArray) w:=by
 intro mm
 induction mm with
 | zero=>intro i acc h; simp only [loadCellsFrom]; simp_all
 | succ mm ih =>
  intro i acc h
  have hi:i<cs.length:=by omega
  have hcell:=hc.cell (j:=i) (v:=cs[i]) (by simp [hi])
  have e:(Addr.add ⟨b,o,none⟩ i)=⟨b,o+i,none⟩:=by
   unfold Addr.add; split
   . simp_all
   . rfl
  simp only [loadCellsFrom,e,b3S,load,Sem.run,hcell,b3O]
  rw [ih (i+1) _ (by omega),b7M hi]
  simp
theorem a5c {b o mm:Nat} {cs:List Value} (hA:∀ w,(isAgg T).run P w=.ok true w) (hz:∀ w,(sizeOf T).run P w=.ok mm w) (hl:cs.length=mm) (hx:ev f x=.pointer (some ⟨b,o,none⟩)) (hc:x9 w b o cs) (hn:Nat.blt d n=true)
  (K:WL P m n ops Q rest (upd f d (.agg cs.toArray)) w):WL P m n ops Q (⟨some d,.load T x,ty,pos,after,none⟩::rest) f w :=
 n7 rfl rfl hn (v:=.agg cs.toArray) (fun w1 hs=>by
  have h:=O0 (P:=P) (hc.sim hs) cs.length 0 #[] (by omega)
  simp only [b7E,Array.empty_append] at h
  subst hl
  simp [execOp,hx,Instr.loadAt,Instr.sureAddr,loadVar,hA,hz,loadCells,h,go_sem]) K
theorem q6 {b o i:Nat} {fs:Array Field} {fd:Field} {mm:Nat} (hT:∀ w,(underlying T).run P w=.ok (.struct fs) w) (hf:fs[i]?=some fd) (hz:∀ w,(sizeOf fd.type).run P w=.ok (mm+1) w) (hx:ev f x=.pointer (some ⟨b,o,none⟩)) (hn:Nat.blt d n=true)
  (K:WL P m n ops Q rest (upd f d (.pointer (some ⟨b,o+fd.offset,none⟩))) w):WL P m n ops Q (⟨some d,.fieldAddr T x i,ty,pos,after,none⟩::rest) f w :=
 n7 rfl rfl hn (v:=.pointer (some ⟨b,o+fd.offset,none⟩)) (fun w1 hs=>by
  have e:(Addr.add ⟨b,o,none⟩ fd.offset)=⟨b,o+fd.offset,none⟩:=by
   unfold Addr.add; split
   . simp_all
   . rfl
  simp [execOp,hx,Instr.fieldAt,Instr.sureAddr,fieldPlace,hT,hf,hz,go_sem,e]) K
end
end Go.Wk
end
section
namespace Go.Wk
open Go
def d01 (o:Oper):List Nat:=o.op.operands.toList.filterMap fun | .tmp t=>some t | _=>none
def reads (l:List Oper) (o:Oper):List Nat:=d01 o++(match o.guard with | some (j,_)=>(q8 l j).toList | none=>[])
def K6 (l:List Oper):Bool:=l.zipIdx.all fun (o,i)=>o.after.toList.all fun e=>!Region.binds .any e || Nat.blt e.on i
def a9r (o:Oper):Bool:=match o.op with | .select .. => true | _=>false
def a39 (P:Program) (o:Oper) (g:Fr) (w:World) (R:Value->World->Prop):Prop :=
 (∀ w1,Sim w w1->∃ v w2 w',(execOp (ev g) o).run P w1=.ok (.value v) w2/\Sim w' w2/\R v w') ∨
 (∀ w1,Sim w w1->∃ w2 w',(execOp (ev g) o).run P w1=.ok .skip w2/\Sim w' w2/\R undef w') ∨
 (∃ K args,(∀ w1,Sim w w1->(execOp (ev g) o).run P w1=.ok (.enter K args) w1)/\A6 P K args.toList w R)
def c4s (P:Program) (l:List Oper) (o:Oper) (g:Fr) (w:World) (R:Value->World->Prop):Prop :=
 match o.guard with
 | none=>a39 P o g w R
 | some (j,want)=>∃ dj x,q8 l j=some dj/\g dj=x/\((x=.bool want/\a39 P o g w R) ∨ ((x=.bool (!want) ∨ x=undef)/\R undef w))
section
variable {P:Program} {n:Nat} {l:List Oper} {Q:Exit->Fr->World->Prop} {f0:Fr} {w0:World}
theorem Is.b3H {a:Act} {f:Fr} {n:Nat} (h:Is a f n) {d:Option Nat} (hd:∀ t,d=some t->t<n) (v:Value):Is (a.put d v) (M0 f d v) n:=by
 cases d with
 | none=>exact h
 | some t=>exact h.put (hd t rfl) v
theorem c1l {ro:Option Nat} {o:Oper} {g:Fr} {w w1:World} {a:Act} {R:Value->World->Prop} {K:Act->World->Prop} {QQ:Exit->Act->World->Prop} (ha:Is a g n) (hs:Sim w w1)
  (h:a39 P o g w R) (k:∀ v w' w2,R v w'->Sim w' w2->K (a.put o.dst v) w2):o.wpIn (R7 ro) 0 P a w1 K QQ:=by
 rcases h with h | h | ⟨Kf,args,hr,hc⟩
 . obtain ⟨v,w2,w',hr,hs',r⟩:=h w1 hs
   refine a9z (by rw [ha.eval]; exact hr) (by simp_all) ?_
   rw [b8T]; grind
 . obtain ⟨w2,w',hr,hs',r⟩:=h w1 hs
   refine a9z (by rw [ha.eval]; exact hr) (by simp_all) ?_
   rw [Oper.uponIn_skip]; grind
 . refine a9z (by rw [ha.eval]; exact hr w1 hs) (by simp_all) ?_
   rw [b9S]
   have:args.toList.toArray=args:=by simp
   have hc':=hc w1 hs
   rw [this] at hc'
   refine ⟨fun h=>(by cases h),b23 (b6O hc' ?_)⟩
   grind
theorem d2i {ro:Option Nat} {i:Nat} {o:Oper} (ho:l[i]?=some o) {g:Fr} {w w1:World} {a:Act} {R:Value->World->Prop} {K:Act->World->Prop} {QQ:Exit->Act->World->Prop} (ha:Is a g n) (hs:Sim w w1)
  (hn:∀ (j:Nat) (t:Nat),q8 l j=some t->t<n) (h:c4s P l o g w R) (k:∀ v w' w2,R v w'->Sim w' w2->K (a.put o.dst v) w2):wpOpIn (R7 ro) 0 P l.toArray QQ i K a w1:=by
 unfold wpOpIn
 simp only [b5B,ho]
 unfold c4s at h
 split at h
 . rename_i hg
   rw [if_pos (by simp [Region.wanted,hg])]
   exact c1l ha hs h k
 . rename_i j want hg
   obtain ⟨dj,x,hj,hx,h⟩:=h
   have hy:=P6 (ops:=l) ha hj (hn _ _ hj) hx
   rcases h with ⟨rfl,h⟩ | ⟨hx',r⟩
   . rw [if_pos (by simp [Region.wanted,hg,hy])]
     exact c1l ha hs h k
   . rw [if_neg (by rcases hx' with rfl | rfl <;> simp [Region.wanted,hg,hy,undef])]
     exact ⟨fun _ _=>trivial,k undef w w1 r hs⟩
structure Inv (l:List Oper) (I:World->Prop) (Φ:Nat->Value->World->Prop) (f0:Fr) (L:Array Bool) (g:Fr) (w:World):Prop where
 size:L.size=l.length
 world:I w
 done:∀ j t,L[j]?=some true->q8 l j=some t->Φ j (g t) w
 kept:∀ t,(∀ j,L[j]?=some true->q8 l j≠some t)->g t=f0 t
 closed:∀ (j:Nat) (o:Oper),L[j]?=some true->l[j]?=some o->∀ e∈o.after,Region.binds .any e=true->L[e.on]?=some true
def count (L:Array Bool):Nat:=(L.toList.filter (· = false)).length
theorem count_set {L:Array Bool} {i:Nat} (h:L[i]?=some false):count (L.setIfInBounds i true)+1=count L:=by
 obtain ⟨L⟩:=L
 simp only [b5B] at h
 simp only [count,List.setIfInBounds_toArray]
 induction L generalizing i with
 | nil=>simp at h
 | cons b r ih =>
  cases i with
  | zero=>simp_all
  | succ i=>grind
theorem Q3 {L:Array Bool} {i:Nat}:i∈Region.ready .any l.toArray L↔∃ o,l[i]?=some o/\L.getD i true=false/\∀ e∈o.after,Region.binds .any e=true->L.getD e.on false=true:=by
 unfold Region.ready
 rw [b7H]
 constructor
 . rintro ⟨_,h⟩
   cases ho:l[i]? with
   | none=>simp_all
   | some o =>
    simp [ho] at h
    refine ⟨o,rfl,by simp_all,fun e he hb=>?_⟩
    obtain ⟨k,hk⟩:=Array.getElem?_of_mem he
    have hlt:k<o.after.size:=by
     rcases b5N k o.after.size with h | h
     . exact h
     . simp_all
    have hk':o.after[k]=e:=by simpa [Array.getElem?_eq_getElem hlt] using hk
    have:=h.2 k hlt
    simp_all
 grind
theorem M1 {l:List Oper}:∀ {i:Nat} {o:Oper},l[i]?=some o->q8 l i=o.dst:=by
 induction l with
 | nil=>simp_all
 | cons x r ih=>intro i o h; cases i with
  | zero=>simp at h; subst h; rfl
  | succ i=>simp at h; simp [q8,ih h]
theorem a0f {l:List Oper}:∀ {i t:Nat},q8 l i=some t->∃ o,l[i]?=some o/\o.dst=some t:=by
 induction l with
 | nil=>intro i t h; simp [q8] at h
 | cons x r ih=>intro i t h; cases i with
  | zero=>exact ⟨x,rfl,h⟩
  | succ i=>obtain ⟨o,h1,h2⟩:=ih (i:=i) h; simp_all
theorem a3s {L:Array Bool} (ha:K6 l=true) (hs:L.size=l.length) (h:Region.ready .any l.toArray L=[]):∀ i,i<l.length->L[i]?=some true:=by
 intro i
 induction i using Nat.strongRecOn with
 | _ i ih =>
  intro hi
  have ho:l[i]?=some l[i]:=by simp [hi]
  cases hL:L[i]? with
  | none=>simp_all
  | some b =>
   cases b with
   | true=>rfl
   | false =>
    exfalso
    have hmem:i∈Region.ready .any l.toArray L:=by
     rw [Q3]
     refine ⟨l[i],ho,by simp [hL],fun e he hb=>?_⟩
     have hlt:e.on<i:=by
      unfold K6 at ha
      rw [b5A] at ha
      have:=ha (l[i],i) (by
       grind)
      simp only [b5A] at this
      have:=this e (by simp_all)
      rw [hb] at this
      simpa [Nat.blt_eq] using this
     have:=ih e.on hlt (by omega)
     simp [this]
    simp_all
theorem c4p {ro:Option Nat} {ds:List Deferred} {I:World->Prop} {Φ:Nat->Value->World->Prop} (ha:K6 l=true) (hn:∀ (j:Nat) (t:Nat),q8 l j=some t->t<n)
  (hd:∀ (i j:Nat) (t:Nat),q8 l i=some t->q8 l j=some t->i=j)
  (step:∀ (i:Nat) (o:Oper) (L:Array Bool) (g:Fr) (w:World),l[i]?=some o->Inv l I Φ f0 L g w->L[i]?=some false->(∀ e∈o.after,Region.binds .any e=true->L[e.on]?=some true) ->
   c4s P l o g w (fun v w'=>I w'/\Φ i v w'/\∀ j u,Φ j u w->Φ j u w'))
  (fin:∀ g w,I w->(∀ j t,q8 l j=some t->Φ j (g t) w)->(∀ t,(∀ j,q8 l j≠some t)->g t=f0 t)->Q .normal g w) :
  ∀ (fuel:Nat) (L:Array Bool) (a:Act) (g:Fr) (w w1:World),count L=fuel->Is a g n->a.defers=ds->Sim w w1->Inv l I Φ f0 L g w->wpAnyIn (R7 ro) 0 P .any l.toArray (lift n ds Q) fuel L a w1:=by
 have finish:∀ (L:Array Bool) (a:Act) (g:Fr) (w w1:World),Is a g n->a.defers=ds->Sim w w1->Inv l I Φ f0 L g w->(∀ i,i<l.length->L[i]?=some true)->lift n ds Q .normal a w1:=by
  intro L a g w w1 hg hds hs hinv hall
  refine ⟨g,w,hg,hds,hs,fin g w hinv.world (fun j t hj=>?_) (fun t ht=>hinv.kept t fun j _=>ht j)⟩
  obtain ⟨o,ho,_⟩:=a0f hj
  have hlt:j<l.length:=by
   rcases b5N j l.length with h | h
   . exact h
   . simp_all
  exact hinv.done j t (hall j hlt) hj
 intro fuel
 induction fuel with
 | zero =>
  intro L a g w w1 hc hg hds hs hinv
  have hall:∀ i,i<l.length->L[i]?=some true:=by
   intro i hi
   cases hL:L[i]? with
   | none=>rw [b9Q,hinv.size] at hL; omega
   | some b=>cases b with
    | true=>rfl
    | false=>have:=count_set hL; omega
  refine ⟨?_,finish L a g w w1 hg hds hs hinv hall⟩
  cases hr:Region.ready .any l.toArray L with
  | nil=>rfl
  | cons i r =>
   have hm:i∈Region.ready .any l.toArray L:=by rw [hr]; simp
   obtain ⟨o,ho,h1,_⟩:=Q3.1 hm
   have hlt:i<l.length:=by
    rcases b5N i l.length with h | h
    . exact h
    . simp_all
   simp_all
 | succ fuel ih =>
  intro L a g w w1 hc hg hds hs hinv
  refine ⟨fun hr=>finish L a g w w1 hg hds hs hinv (a3s ha hinv.size hr),fun i hi=>?_⟩
  obtain ⟨o,ho,h1,h2⟩:=Q3.1 hi
  have hlt:i<l.length:=by
   rcases b5N i l.length with h | h
   . exact h
   . simp_all
  have hLi:L[i]?=some false:=by
   have:i<L.size:=by rw [hinv.size]; exact hlt
   simp [this] at h1 ⊢
   exact h1
  have hdeps:∀ e∈o.after,Region.binds .any e=true->L[e.on]?=some true:=fun e he hb=>by
   have:=h2 e he hb
   cases hx:L[e.on]? with
   | none=>simp [hx] at this
   | some b=>simp_all
  refine d2i ho hg hs hn (step i o L g w ho hinv hLi hdeps) ?_
  rintro v w' w2 ⟨hI,hΦ,hst⟩ hs'
  have hdo:q8 l i=o.dst:=M1 ho
  refine ih _ _ (M0 g o.dst v) w' w2 (by have:=count_set hLi; omega) (hg.b3H (d:=o.dst) (fun t ht=>hn i t (hdo.trans ht)) v) ((put_defers _ _ _).trans hds) hs' ?_
  have hget:∀ j,(L.setIfInBounds i true)[j]?=some true->j=i ∨ L[j]?=some true:=by
   intro j hj
   by_cases hji:j=i
   . omega
   . grind
  have hgo:∀ t,o.dst≠some t->M0 g o.dst v t=g t:=by
   intro t ht
   unfold M0
   cases hdd:o.dst with
   | none=>rfl
   | some u=>simp only; rw [M6,if_neg (fun e=>ht (by rw [hdd,e]))]
  refine ⟨by simp [hinv.size],hI,fun j t hj hjt=>?_,fun t ht=>?_,fun j p hj hp e he hb=>?_⟩
  . rcases hget j hj with rfl | hj'
    . rw [hdo] at hjt; unfold M0; simp only [hjt]; rw [M6,if_pos rfl]; exact hΦ
    . have hne:o.dst≠some t:=fun e=>by
        grind
      rw [hgo t hne]; exact hst j _ (hinv.done j t hj' hjt)
  . have hne:o.dst≠some t:=fun e=>ht i (by grind) (hdo.trans e)
    rw [hgo t hne]
    refine hinv.kept t fun j hj=>ht j ?_
    grind
  . have mark:L[e.on]?=some true->(L.setIfInBounds i true)[e.on]?=some true:=fun h=>by
      grind
    rcases hget j hj with rfl | hj'
    . rw [ho] at hp; cases hp; exact mark (hdeps e he hb)
    . exact mark (hinv.closed j p hj' hp e he hb)
theorem a4u {id:Nat} {w:World} {I:World->Prop} {Φ:Nat->Value->World->Prop} (hm:P.follows .mixedOrders=true) (ha:K6 l=true) (hn:∀ (j:Nat) (t:Nat),q8 l j=some t->t<n)
  (hd:∀ (i j:Nat) (t:Nat),q8 l i=some t->q8 l j=some t->i=j) (hI:I w)
  (step:∀ (i:Nat) (o:Oper) (L:Array Bool) (g:Fr) (w:World),l[i]?=some o->Inv l I Φ f0 L g w->L[i]?=some false->(∀ e∈o.after,Region.binds .any e=true->L[e.on]?=some true) ->
   c4s P l o g w (fun v w'=>I w'/\Φ i v w'/\∀ j u,Φ j u w->Φ j u w'))
  (fin:∀ g w,I w->(∀ j t,q8 l j=some t->Φ j (g t) w)->(∀ t,(∀ j,q8 l j≠some t)->g t=f0 t)->Q .normal g w) :
  W P n (.region id l.toArray true) Q f0 w:=fun a w1 hf hs ro=>by
 refine wpIn_region_any hm (c4p ha hn hd step fin _ _ a f0 w _ ?_ hf rfl (hs.trans (Sim.drawn _ _)) ?_)
 . simp [count]
 . have hrep:∀ j,(Array.replicate l.toArray.size false)[j]?≠some true:=fun j h=>by
     rw [Array.getElem?_replicate] at h; simp_all
   exact ⟨by simp,hI,fun j t hj=>absurd hj (hrep j),fun _ _=>rfl,fun j o hj=>absurd hj (hrep j)⟩
end
end Go.Wk
end
section
namespace Go.Wk
open Go
def b7c (acc:List Nat) (o:Oper):Nat:=o.after.toList.foldl (fun s e=>bif Region.binds .any e then (s ||| (1 <<< e.on)) ||| acc.getD e.on 0 else s) 0
def b27:List Oper->List Nat->List Nat
 | [],acc=>acc
 | o::r,acc=>b27 r (acc++[b7c acc o])
def b15 (l:List Oper):List Nat:=b27 l []
def b2m:List Oper->List Nat->Bool
 | [],_=>true
 | o::r,seen=>match o.dst with | some d=>!seen.contains d && b2m r (d::seen) | none=>false
def a96 (ms:List Nat) (i t:Nat):List Oper->Nat->Bool
 | [],_=>true
 | o::r,j=>(match o.dst with | some d=>!Nat.beq d t || (Nat.blt j i && (ms.getD i 0).testBit j) || (Nat.blt i j && (ms.getD j 0).testBit i) | none=>true) && a96 ms i t r (j+1)
def a6v (l:List Oper) (ms:List Nat):List Oper->Nat->Bool
 | [],_=>true
 | o::r,i=>(reads l o).all (fun t=>a96 ms i t l 0) && !a9r o && a6v l ms r (i+1)
def b2l (l:List Oper):Bool:=K6 l && b2m l [] && a6v l (b15 l) l 0
inductive Dep (l:List Oper):Nat->Nat->Prop
 | one {i:Nat} {o:Oper} {e:Edge}:l[i]?=some o->e∈o.after->Region.binds .any e=true->Dep l i e.on
 | trans {i k j:Nat}:Dep l i k->Dep l k j->Dep l i j
theorem c2n {l:List Oper} {i:Nat} {o:Oper} (ho:l[i]?=some o) {acc:List Nat} (hacc:∀ k j,(acc.getD k 0).testBit j=true->Dep l k j) :
  ∀ (es:List Edge) (s:Nat),(∀ e∈es,e∈o.after)->(∀ j,s.testBit j=true->Dep l i j)->∀ j,(es.foldl (fun s e=>bif Region.binds .any e then (s ||| (1 <<< e.on)) ||| acc.getD e.on 0 else s) s).testBit j=true->Dep l i j:=by
 intro es
 induction es with
 | nil=>simp_all
 | cons e r ih =>
  intro s he hs j h
  refine ih _ (fun e' h'=>he e' (by simp [h'])) ?_ j h
  intro j hj
  cases hb:Region.binds .any e with
  | false=>simp_all
  | true =>
   simp only [hb,b4G,Nat.testBit_or,b7I] at hj
   have hd:Dep l i e.on:=.one ho (he e (by simp)) hb
   rcases hj with (hj | hj) | hj
   . exact hs j hj
   . rw [Nat.one_shiftLeft,Nat.testBit_two_pow] at hj
     simp_all
   . exact .trans hd (hacc _ _ hj)
theorem b6m {l:List Oper}:∀ (r:List Oper) (acc:List Nat),(∀ k,r[k]?=l[acc.length+k]?)->(∀ k j,(acc.getD k 0).testBit j=true->Dep l k j)->∀ k j,((b27 r acc).getD k 0).testBit j=true->Dep l k j:=by
 intro r
 induction r with
 | nil=>intro acc _ h; exact h
 | cons o r ih =>
  intro acc hr hacc
  refine ih (acc++[b7c acc o]) (fun k=>?_) ?_
  . have:=hr (k+1); grind
  . intro k j h
    by_cases hk:k<acc.length
    . grind
    . by_cases hk':k=acc.length
      . subst hk'
        have ho:l[acc.length]?=some o:=by have:=hr 0; simpa using this.symm
        refine c2n ho hacc o.after.toList 0 (fun e he=>by simpa using he) (by simp) j ?_
        simpa [b5V,b7c] using h
      grind
theorem a03 {l:List Oper} (k j:Nat) (h:((b15 l).getD k 0).testBit j=true):Dep l k j :=
 b6m l [] (by simp) (by simp) k j h
def a1h:List Oper->List Value->Fr->Nat->Fr
 | o::l,v::vs,f,i+1=>a1h l vs (M0 f o.dst v) i
 | _,_,f,_=>f
section
variable {P:Program} {n:Nat} {Q:Exit->Fr->World->Prop}
theorem d2k {ops:List Oper} {w:World}:∀ {l:List Oper} {f:Fr},QL P n ops Q l f w->∃ vs:List Value,vs.length=l.length /\
  (∀ i o,l[i]?=some o->∃ d b v,o.dst=some d/\d<n/\vs[i]?=some v/\c7r ops n (a1h l vs f i) o.guard b/\(b=true->e0s P o (a1h l vs f i) w v)/\(b=false->v=undef))/\Q .normal (a1h l vs f l.length) w:=by
 intro l
 induction l with
 | nil=>intro f h; exact ⟨[],rfl,by simp,h⟩
 | cons o r ih =>
  intro f h
  obtain ⟨d,b,v,hd,hn,hw,hr,hu,k⟩:=h
  obtain ⟨vs,hl,hs,hq⟩:=ih k
  refine ⟨v::vs,by simp [hl],fun i o' ho'=>?_,by simpa [a1h,M0,hd] using hq⟩
  cases i with
  | zero=>simp at ho'; subst ho'; exact ⟨d,b,v,hd,hn,rfl,hw,hr,hu⟩
  | succ i =>
   simp at ho'
   obtain ⟨d',b',v',h1,h2,h3,h4,h5,h6⟩:=hs i o' ho'
   exact ⟨d',b',v',h1,h2,by simpa using h3,by simpa [a1h,M0,hd] using h4,by simpa [a1h,M0,hd] using h5,h6⟩
theorem b81:∀ {l:List Oper} {seen:List Nat},b2m l seen=true->(∀ (i:Nat) (o:Oper),l[i]?=some o->∃ d,o.dst=some d/\d ∉ seen)/\(∀ (i j t:Nat),q8 l i=some t->q8 l j=some t->i=j):=by
 intro l
 induction l with
 | nil=>intro seen _; exact ⟨fun i o h=>by simp at h,fun i j t h=>by simp [q8] at h⟩
 | cons o r ih =>
  intro seen h
  unfold b2m at h
  cases hd:o.dst with
  | none=>simp_all
  | some d =>
   rw [hd] at h
   simp at h
   obtain ⟨h1,h2⟩:=ih h.2
   refine ⟨fun i o' ho'=>?_,fun i j t hi hj=>?_⟩
   . grind
   . cases i with
     | zero=>cases j with
      | zero=>rfl
      | succ j =>
       exfalso
       simp only [q8,hd] at hi hj
       cases hi
       obtain ⟨o',ho',hdo⟩:=a0f hj
       grind
     | succ i=>cases j with
      | zero =>
       exfalso
       simp only [q8,hd] at hi hj
       cases hj
       obtain ⟨o',ho',hdo⟩:=a0f hi
       grind
      | succ j=>exact congrArg (· + 1) (h2 i j t hi hj)
theorem c7p:∀ {l:List Oper} {vs:List Value} {f:Fr} {i t:Nat},vs.length=l.length->(∀ i j t,q8 l i=some t->q8 l j=some t->i=j) ->
  (∀ j,q8 l j=some t->j<i->vs[j]?=some (a1h l vs f i t))/\((∀ j,q8 l j=some t->i<=j)->a1h l vs f i t=f t):=by
 intro l
 induction l with
 | nil=>intro vs f i t _ _; exact ⟨fun j h=>by simp [q8] at h,fun _=>by simp [a1h]⟩
 | cons o r ih =>
  intro vs f i t hl hd
  cases vs with
  | nil=>simp at hl
  | cons v vs =>
   have hd':∀ i j t,q8 r i=some t->q8 r j=some t->i=j:=fun i j t h1 h2=>by have:=hd (i+1) (j+1) t h1 h2; omega
   cases i with
   | zero=>exact ⟨fun j _ h=>by omega,fun _=>rfl⟩
   | succ i =>
    obtain ⟨h1,h2⟩:=ih (vs:=vs) (f:=M0 f o.dst v) (i:=i) (t:=t) (by simpa using hl) hd'
    refine ⟨fun j hj hlt=>?_,fun h=>?_⟩
    . cases j with
      | zero =>
       have hn:∀ j,q8 r j=some t->i<=j:=fun j hj'=>by have:=hd 0 (j+1) t hj hj'; omega
       have ho:o.dst=some t:=hj
       simp only [a1h]
       rw [h2 hn]
       simp [M0,ho,M6]
      | succ j=>simpa [a1h] using h1 j hj (by omega)
    . have ho:o.dst≠some t:=fun e=>by have:=h 0 e; omega
      simp only [a1h]
      rw [h2 (fun j hj=>by have:=h (j+1) hj; omega)]
      cases hdd:o.dst with
      | none=>rfl
      | some u=>simp only [M0]; rw [M6,if_neg (fun e=>ho (by rw [hdd,e]))]
theorem b68 {l:List Oper} {ms:List Nat} {i t:Nat}:∀ {r:List Oper} {k:Nat},(∀ x,r[x]?=l[k+x]?)->a96 ms i t r k=true->∀ j,k<=j->q8 l j=some t->(j<i/\(ms.getD i 0).testBit j=true) ∨ (i<j/\(ms.getD j 0).testBit i=true):=by
 intro r
 induction r with
 | nil =>
  intro k hr _ j hj hd
  obtain ⟨o,ho,_⟩:=a0f hd
  have:=hr (j-k)
  simp_all
 | cons o r ih =>
  intro k hr h j hj hd
  unfold a96 at h
  rw [b3R] at h
  by_cases hjk:j=k
  . subst hjk
    have ho:l[j]?=some o:=by have:=hr 0; simpa using this.symm
    rw [M1 ho] at hd
    simp_all
  . exact ih (k:=k+1) (fun x=>by have:=hr (x+1); grind) h.2 j (by omega) hd
theorem b3k {l:List Oper} {ms:List Nat}:∀ {r:List Oper} {k:Nat},(∀ x,r[x]?=l[k+x]?)->a6v l ms r k=true->∀ i o,k<=i->l[i]?=some o->a9r o=false/\∀ t∈reads l o,a96 ms i t l 0=true:=by
 intro r
 induction r with
 | nil =>
  intro k hr _ j o hj ho
  have:=hr (j-k)
  simp_all
 | cons o r ih =>
  intro k hr h j o' hj ho'
  unfold a6v at h
  rw [b3R,b3R] at h
  by_cases hjk:j=k
  . subst hjk
    have ho:l[j]?=some o:=by have:=hr 0; simpa using this.symm
    simp_all
  . exact ih (k:=k+1) (fun x=>by have:=hr (x+1); grind) h.2 j o' (by omega) ho'
theorem Dep.listed {l:List Oper} {I:World->Prop} {Φ:Nat->Value->World->Prop} {f0:Fr} {L:Array Bool} {g:Fr} {w:World} (hinv:Inv l I Φ f0 L g w) {i j:Nat} (hd:Dep l i j) :
  (∀ o,l[i]?=some o->∀ e∈o.after,Region.binds .any e=true->L[e.on]?=some true)->L[j]?=some true:=by
 induction hd with
 | one ho he hb=>simp_all
 | trans _ _ ih1 ih2=>intro h; exact ih2 fun o ho e he hb=>hinv.closed _ o (ih1 h) ho e he hb
theorem a8o {id:Nat} {l:List Oper} {f:Fr} {w:World} (hm:P.follows .mixedOrders=true) (hk:b2l l=true) (h:WL P true n l Q l f w):W P n (.region id l.toArray true) Q f w:=by
 unfold b2l at hk
 rw [b3R,b3R] at hk
 obtain ⟨⟨ha,hd⟩,hr⟩:=hk
 obtain ⟨hdst,huniq⟩:=b81 hd
 obtain ⟨vs,hl,hs,hq⟩:=d2k (show QL P n l Q l f w from h)
 have hget:=fun i t=>c7p (l:=l) (vs:=vs) (f:=f) (i:=i) (t:=t) hl huniq
 refine a4u (I:=fun v=>v=w) (Φ:=fun i v _=>vs[i]?=some v) hm ha (fun j t hj=>?_) huniq rfl ?_ ?_
 . obtain ⟨o,ho,hdo⟩:=a0f hj
   grind
 . intro i o L g w' ho hinv hLi hdeps
   have hw':w'=w:=hinv.world
   subst hw'
   obtain ⟨d,b,v,h1,h2,h3,h4,h5,h6⟩:=hs i o ho
   obtain ⟨hsel,hro⟩:=b3k (l:=l) (ms:=b15 l) (r:=l) (k:=0) (by simp) hr i o (b6N _) ho
   have agree:∀ t∈reads l o,g t=a1h l vs f i t:=by
    intro t ht
    have hso:=b68 (l:=l) (r:=l) (k:=0) (by simp) (hro t ht)
    by_cases hex:∃ j,q8 l j=some t
    . obtain ⟨j,hj⟩:=hex
      rcases hso j (b6N _) hj with ⟨hlt,hb⟩ | ⟨hlt,hb⟩
      . have hL:L[j]?=some true:=(a03 i j hb).listed hinv fun o' ho'=>by rw [ho] at ho'; cases ho'; exact hdeps
        have e1:=hinv.done j t hL hj
        grind
      . have hL:∀ k,L[k]?=some true->q8 l k≠some t:=fun k hk hkt=>by
          have:=huniq j k t hj hkt
          subst this
          have:=(a03 j i hb).listed hinv fun o' ho' e he hbe=>hinv.closed j o' hk ho' e he hbe
          simp_all
        rw [hinv.kept t hL,(hget i t).2 fun k hk=>by grind]
    . rw [hinv.kept t fun k _ hk=>hex ⟨k,hk⟩,(hget i t).2 fun k hk=>absurd ⟨k,hk⟩ hex]
   have hops:∀ x∈o.op.operands,ev g x=ev (a1h l vs f i) x:=by
    intro x hx
    cases x with
    | tmp t =>
     refine agree t ?_
     unfold reads d01
     refine b6V _ (b8L.2 ⟨.tmp t,by simpa using hx,rfl⟩)
    | _=>rfl
   have hrun:b=true->a39 P o g w' (fun u w''=>w''=w'/\vs[i]?=some u/\∀ (j:Nat) (u':Value),vs[j]?=some u'->vs[j]?=some u'):=fun hb =>
    .inl fun w1 hw1=>⟨v,w1,w',by
     rw [execOp_congr o (fun cs bb e=>by simp [a9r,e] at hsel) hops]
     exact h5 hb w1 hw1,hw1,rfl,h3,fun _ _ h=>h⟩
   unfold c4s
   cases hg:o.guard with
   | none=>rw [hg] at h4; exact hrun h4
   | some jw =>
    obtain ⟨j,want⟩:=jw
    rw [hg] at h4
    obtain ⟨dj,hj,hdn,hcase⟩:=h4
    have hgd:g dj=a1h l vs f i dj:=agree dj (by
     unfold reads
     rw [hg]
     refine b7J _ ?_
     simp [hj])
    grind
 . intro g w' hw' hdone hkept
   subst hw'
   have:g=a1h l vs f l.length:=by
    funext t
    by_cases hex:∃ j,q8 l j=some t
    . grind
    . rw [hkept t fun j hj=>hex ⟨j,hj⟩,(hget l.length t).2 fun j hj=>absurd ⟨j,hj⟩ hex]
   rw [this]; exact hq
end
end Go.Wk
end
section
namespace Go.Wk
open Go
def Own (w:World) (b:Nat) (T:TypeId) (cs:List Value):Prop:=w.heap[b]?=some (.cells cs.toArray T (0,0))
theorem Own.lt {w:World} {b:Nat} {T:TypeId} {cs:List Value} (h:Own w b T cs):b<w.heap.size:=a07 h
theorem Own.ext {B:List Nat} {w w':World} {b:Nat} {T:TypeId} {cs:List Value} (h:Own w b T cs) (e:Ext B w w') (hb:b ∉ B):Own w' b T cs:=e.get hb h
theorem Own.cells {w:World} {b:Nat} {T:TypeId} {cs:List Value} (h:Own w b T cs) (o:Nat) (c r:List Value) (e:cs.drop o=c++r):x9 w b o c :=
 ⟨_,_,_,h,fun j hj=>by
  have:(cs.drop o)[j]?=c[j]? := by rw [e,b3Z hj]
  grind⟩
theorem Own.all {w:World} {b:Nat} {T:TypeId} {cs:List Value} (h:Own w b T cs):x9 w b 0 cs:=h.cells 0 cs [] (by simp)
theorem Own.at {w:World} {b:Nat} {T:TypeId} {cs:List Value} (h:Own w b T cs) {i:Nat} {v:Value} (e:cs[i]?=some v):x9 w b i [v] :=
 ⟨_,_,_,h,fun j hj=>by
  simp_all⟩
theorem Ext.push (w:World) (o:Obj):Ext [] w { w with heap:=w.heap.push o } :=
 ⟨rfl,rfl,rfl,by simp,fun b hb _=>by grind⟩
theorem Own.push (w:World) (T:TypeId) (cs:Array Value):Own { w with heap:=w.heap.push (.cells cs T) } w.heap.size T cs.toList:=by
 simp [Own]
def x7 (cs:List Value) (o:Nat):List Value->List Value
 | []=>cs
 | v::r=>x7 (cs.set o v) (o+1) r
theorem E9 (c:List Value):∀ (cs:List Value) (o:Nat),(x7 cs o c).length=cs.length:=by
 induction c with
 | nil=>intro cs o; rfl
 | cons v r ih=>intro cs o; simp [x7,ih]
theorem Own.setCell {w:World} {b:Nat} {T:TypeId} {cs:List Value} (h:Own w b T cs) (o:Nat) (v:Value) :
  Own (w.setCell ⟨b,o,none⟩ v) b T (cs.set o v)/\Ext [b] w (w.setCell ⟨b,o,none⟩ v)/\(w.setCell ⟨b,o,none⟩ v).heap.size=w.heap.size:=by
 refine ⟨?_,⟨rfl,rfl,rfl,by simp_all,fun k hk hb=>?_⟩,by simp_all⟩
 . unfold Own at h ⊢
   simp [World.setCell,b6P,h]
 . simp [World.setCell,b6P]
   grind
theorem b0t {P:Program} {w:World} {b o:Nat} {T:TypeId} {cs:List Value} {v:Value} (h:Own w b T cs) (ho:o<cs.length) (hv:A2 v=true) :
  (store ⟨b,o,none⟩ v).run P w=.ok () (w.setCell ⟨b,o,none⟩ v):=by
 have hc:w.cell? ⟨b,o,none⟩=some cs[o]:=by unfold Own at h; simp [World.cell?,h,ho]
 have hf:w.frozen? ⟨b,o,none⟩=false:=by unfold Own at h; simp [World.frozen?,h]
 unfold store
 cases v <;> first | (simp [A2] at hv; done) | simp [Sem.run,hc,hf]
theorem a1q {P:Program} {b:Nat} {T:TypeId}:∀ (c:List Value) (o i:Nat) (cs:List Value) (w:World),Own w b T cs->o+i+c.length<=cs.length->(∀ v∈c,A2 v=true) ->
  ∃ w',(storeCells ⟨b,o,none⟩ c i).run P w=.ok () w'/\Own w' b T (x7 cs (o+i) c)/\Ext [b] w w'/\w'.heap.size=w.heap.size/\(∀ k,(storeCells ⟨b,o,none⟩ c i).run P { w with drawn:=k }=.ok () { w' with drawn:=k }):=by
 intro c
 induction c with
 | nil=>intro o i cs w h _ _; exact ⟨w,rfl,h,Ext.refl _ _,rfl,fun _=>rfl⟩
 | cons v r ih =>
  intro o i cs w h hl hv
  have e:(Addr.add ⟨b,o,none⟩ i)=⟨b,o+i,none⟩:=by
   unfold Addr.add; split
   . simp_all
   . rfl
  simp at hl
  obtain ⟨h1,h2,h3⟩:=h.setCell (o+i) v
  have hrun:=b0t (P:=P) h (o:=o+i) (v:=v) (by omega) (hv v (by simp))
  obtain ⟨w',hr,ho,he,hs,hk⟩:=ih o (i+1) _ _ h1 (by simp; omega) (fun u hu=>hv u (by simp [hu]))
  refine ⟨w',?_,by simpa [x7,b8E] using ho,h2.trB he,by rw [hs,h3],fun k=>?_⟩
  . simp only [storeCells,e,b3S,hrun,b3O,hr]
  . have hrun':=b0t (P:=P) (w:={ w with drawn:=k }) h (o:=o+i) (v:=v) (by omega) (hv v (by simp))
    simp only [storeCells,e,b3S,hrun',b3O]
    exact hk k
section
variable {P:Program} {n:Nat} {ops:List Oper} {Q:Exit->Fr->World->Prop} {rest:List Oper} {f:Fr} {w:World} {d:Nat} {v:Value} {M:List Nat}
variable {ty T T' T2 E:TypeId} {pos:String} {after:Array Edge} {x y z:Operand} {k:IntKind} {a b c:Int} {p q:Bool}
theorem c1u {o:Oper} {e:TypeId} {cs:Array Value} {mk:Nat->Value} (hg:o.guard=none) (hd:o.dst=some d) (hn:Nat.blt d n=true)
  (hr:∀ w1,(execOp (ev f) o).run P w1=.ok (.value (mk w1.heap.size)) { w1 with heap:=w1.heap.push (.cells cs e) })
  (K:∀ b w',Ext [] w w'->w.heap.size=b->w'.heap.size=b+1->Own w' b e cs.toList->WL P false n ops Q rest (upd f d (mk b)) w'):WL P false n ops Q (o::rest) f w :=
 T5 hg hd hn fun w1 hs=>by
  obtain ⟨k,rfl⟩:=hs
  exact ⟨_,_,{ w with heap:=w.heap.push (.cells cs e) },hr _,⟨k,rfl⟩,K w.heap.size _ (Ext.push w _) rfl (by simp) (Own.push w e cs)⟩
theorem c0q {zv:Value} (hz:∀ w,(zeroValue T).run P w=.ok zv w) (hn:Nat.blt d n=true)
  (K:∀ b w',Ext [] w w'->w.heap.size=b->w'.heap.size=b+1->Own w' b T zv.cells.toList->WL P false n ops Q rest (upd f d (.pointer (some ⟨b,0,none⟩))) w') :
  WL P false n ops Q (⟨some d,.alloc T,ty,pos,after,none⟩::rest) f w :=
 c1u (mk:=fun b=>.pointer (some ⟨b,0,none⟩)) rfl rfl hn (fun w1=>by simp [execOp,Instr.alloc,hz,newVar,newRow,newObj,Sem.run,go_sem]) K
theorem e4h (hn:Nat.blt d n=true)
  (K:∀ b w',Ext [] w w'->w.heap.size=b->w'.heap.size=b+1->Own w' b T (ev f x).cells.toList->WL P false n ops Q rest (upd f d (.pointer (some ⟨b,0,none⟩))) w') :
  WL P false n ops Q (⟨some d,.box T x,ty,pos,after,none⟩::rest) f w :=
 c1u (mk:=fun b=>.pointer (some ⟨b,0,none⟩)) rfl rfl hn (fun w1=>by simp [execOp,Instr.box,newVar,newRow,newObj,Sem.run,go_sem]) K
theorem c16 {b o mm:Nat} {cs c:List Value} (hz:∀ w,(sizeOf T).run P w=.ok mm w) (hx:ev f x=.pointer (some ⟨b,o,none⟩)) (hc:(ev f y).cells.toList=c) (hm:c.length=mm) (ho:Own w b E cs) (hl:o+mm<=cs.length) (hp:c.all A2=true)
  (K:∀ w',Ext [b] w w'->w'.heap.size=w.heap.size->Own w' b E (x7 cs o c)->WL P false n ops Q rest f w') :
  WL P false n ops Q (⟨none,.store T x y,ty,pos,after,none⟩::rest) f w :=
 b3a rfl rfl fun w1 hs=>by
  obtain ⟨k,rfl⟩:=hs
  obtain ⟨w',hr,ho',he,hsz,hk⟩:=a1q (P:=P) c o 0 cs w ho (by omega) (fun v hv=>by simp_all)
  refine ⟨_,w',?_,⟨k,rfl⟩,K w' he hsz (by omega)⟩
  have hsize:(ev f y).cells.size=mm:=by rw [<- b7C,hc,hm]
  have hrun:(storeVar T ⟨b,o,none⟩ (ev f y)).run P { w with drawn:=k }=.ok () { w' with drawn:=k }:=by
   unfold storeVar
   simp only [b3S,hz,b3O]
   rw [if_neg (by omega),hc]
   exact hk k
  simp only [execOp,hx,Instr.storeAt,Instr.sureAddr,b3S,b4E,b3O,hrun]
theorem b5m {b o mm cap sz:Nat} {i:Int} {m:Bool} (hT:∀ w,(underlying T).run P w=.ok (.slice E) w) (hE:∀ w,(sizeOf E).run P w=.ok sz w) (hx:ev f x=.slice (some ⟨b,o,none⟩) mm cap) (hy:ev f y=.int k i)
  (h0:0<=i) (h1:i<mm) (hn:Nat.blt d n=true) (K:WL P m n ops Q rest (upd f d (.pointer (some ⟨b,o+i.toNat * sz,none⟩))) w) :
  WL P m n ops Q (⟨some d,.indexAddr T x y,ty,pos,after,none⟩::rest) f w :=
 n7 rfl rfl hn (v:=.pointer (some ⟨b,o+i.toNat * sz,none⟩)) (fun w1 _=>by
  simp only [execOp,hx,hy,b3S,Y9 hT hE h0 h1]
  rfl) K
end
theorem c3r {v:Value} (h:A2 v=true):v.cells=#[v]:=by cases v <;> first | rfl | (simp [A2] at h)
theorem b0j {cs:Array Value}:∀ (c:List Value) (k off:Nat) (acc:Array Value),((c.zipIdx k).foldl (fun cs (c,j)=>cs.setIfInBounds (off+j) c) acc).toList=x7 acc.toList (off+k) c:=by
 intro c
 induction c with
 | nil=>intro k off acc; rfl
 | cons v r ih =>
  intro k off acc
  simp only [List.zipIdx_cons,b7T,x7]
  rw [ih (k+1) off]
  grind
theorem Y1:∀ (c:List Value) (u x r:List Value),x.length=c.length->x7 (u++x++r) u.length c=u++c++r:=by
 intro c
 induction c with
 | nil=>intro u x r h; simp at h; subst h; simp [x7]
 | cons v c ih =>
  intro u x r h
  match x,h with
  | y::x,h =>
   simp only [x7]
   have:(u++y::x++r).set u.length v=(u++[v])++x++r:=by simp [List.set_append]
   grind
def W6 {α:Type}:Nat->List (Nat×α)->Bool
 | _,[]=>true
 | i,(j,_)::r=>Nat.beq j i && W6 (i+1) r
theorem c9k {sz:Nat}:∀ (ps:List (Nat×Value)) (u x:List Value) (i:Nat),W6 i ps=true->u.length=i * sz->x.length=ps.length * sz->(∀ p∈ps,p.2.cells.size=sz) ->
  Instr.fill (fun i=>some (i * sz,sz)) (u++x).toArray ps=some (u++ps.flatMap fun p=>p.2.cells.toList).toArray:=by
 intro ps
 induction ps with
 | nil=>intro u x i _ hu hx _; simp at hx; subst hx; simp [Instr.fill]
 | cons p r ih =>
  intro u x i ho hu hx hs
  obtain ⟨j,v⟩:=p
  simp only [W6,b3R] at ho
  have hj:j=i:=b3Q ho.1
  subst hj
  have hv:v.cells.size=sz:=hs (j,v) (by simp)
  have hx':x.length=sz+r.length * sz:=by rw [hx,b4F,b5X]; omega
  obtain ⟨x1,x2,rfl,h1,h2⟩:∃ x1 x2,x=x1++x2/\x1.length=sz/\x2.length=r.length * sz:=⟨x.take sz,x.drop sz,by simp,by simp; omega,by simp; omega⟩
  have hif:((v.cells.size≠sz:Bool) || (j * sz+v.cells.size > (u++(x1++x2)).toArray.size:Bool))=false:=by
   simp [hv,hu,h1]
  simp only [Instr.fill]
  rw [if_neg (by simp_all)]
  have hfold:(v.cells.zipIdx.foldl (fun cs (c,k)=>cs.setIfInBounds (j * sz+k) c) (u++(x1++x2)).toArray)=(u++v.cells.toList++x2).toArray:=by
   apply b7L
   rw [<- Array.foldl_toList,Array.toList_zipIdx]
   have:=b0j (cs:=#[]) v.cells.toList 0 (j * sz) (u++(x1++x2)).toArray
   rw [this]
   simp only [b9G,b5Q]
   rw [<- hu,<- b4L]
   exact Y1 _ _ _ _ (by simp [h1,hv])
  rw [hfold,ih (u++v.cells.toList) x2 (j+1) ho.2 (by simp [hu,hv,b5X]) h2 (fun p hp=>hs p (by simp [hp]))]
  simp
section
variable {P:Program} {n:Nat} {ops:List Oper} {Q:Exit->Fr->World->Prop} {rest:List Oper} {f:Fr} {w:World} {d:Nat} {v:Value} {M:List Nat}
variable {ty T T' T2 E:TypeId} {pos:String} {after:Array Edge} {x y z:Operand}
theorem a4p {len sz:Nat} {ps:Array (Nat×Operand)} {vs:List (Nat×Value)} {zv:Value} {cs:List Value} (hT:∀ w,(underlying T).run P w=.ok (.slice E) w) (hE:∀ w,(sizeOf E).run P w=.ok sz w) (hz:∀ w,(zeroValue E).run P w=.ok zv w)
  (hv:ps.toList.map (fun p=>(p.1,ev f p.2))=vs) (hlen:vs.length=len) (hord:W6 0 vs=true) (hsz:vs.all (fun p=>Nat.beq p.2.cells.size sz)=true) (hcs:(vs.flatMap fun p=>p.2.cells.toList)=cs) (hsmall:Nat.ble (len * sz) 16777216=true) (hn:Nat.blt d n=true)
  (K:∀ b w',Ext [] w w'->w.heap.size=b->w'.heap.size=b+1->Own w' b E cs->WL P false n ops Q rest (upd f d (.slice (some ⟨b,0,none⟩) len len)) w') :
  WL P false n ops Q (⟨some d,.buildSlice T len ps,ty,pos,after,none⟩::rest) f w:=by
 subst hcs
 refine c1u (mk:=fun b=>.slice (some ⟨b,0,none⟩) len len) (e:=E) (cs:=(vs.flatMap fun p=>p.2.cells.toList).toArray) rfl rfl hn (fun w1=>?_) (fun b w' h1 h2 h3 h4=>K b w' h1 h2 h3 (by omega))
 have hmap:(ps.map fun p=>(p.1,ev f p.2)).toList=vs:=by rw [<- hv]; simp
 have hall:∀ p∈vs,p.2.cells.size=sz:=fun p hp=>by rw [b5A] at hsz; exact b3Q (hsz p hp)
 have hle:len * sz<=16777216:=b4T hsmall
 have key:∀ z:Array Value,Instr.fill (fun i=>some (i * sz,sz)) ((Array.range (len * sz)).map (fun i=>z[i % z.size]!)) (ps.map fun p=>(p.1,ev f p.2)).toList=some (vs.flatMap fun p=>p.2.cells.toList).toArray:=by
  intro z
  have hf:=c9k (sz:=sz) vs [] ((Array.range (len * sz)).map (fun i=>z[i % z.size]!)).toList 0 hord (by simp) (by simp [hlen]) hall
  rw [hmap]
  simp only [b6A,b9D] at hf
  exact hf
 simp only [execOp,Instr.buildSlice,b3S,hT,hE,b3O]
 rw [if_neg (by omega)]
 by_cases h0:len * sz=0
 . have hf:=key #[]
   simp only [h0,if_true,b3S,b4E,b3O]
   rw [h0] at hf
   simp only [hf,newRow,newObj,b3S,b4E,b3O,Sem.run]
 . have hf:=key zv.cells
   simp only [h0,if_false,b3S,hz,b4E,b3O]
   simp only [hf,newRow,newObj,b3S,b4E,b3O,Sem.run]
end
end Go.Wk
end
section
namespace Go.Wk
open Go
theorem V3:∀ (c cs:List Value) (o k:Nat),o+c.length<=cs.length->(x7 cs o c)[k]?=if o<=k/\k<o+c.length then c[k-o]? else cs[k]? := by
 intro c
 induction c with
 | nil=>intro cs o k _; simp [x7]; omega
 | cons v r ih =>
  intro cs o k h
  simp at h
  simp only [x7]
  grind
theorem c3h (newLen:Nat):∀ (rounds c:Nat),c<newLen->256<=c->Builtin.growBy newLen rounds c<=2 * newLen:=by
 intro rounds
 induction rounds with
 | zero=>intro c h _; simp [Builtin.growBy]; omega
 | succ r ih =>
  intro c h h2
  simp only [Builtin.growBy]
  rw [if_neg (by omega)]
  by_cases h3:c+(c+768) / 4<newLen
  . grind
  . cases r with
    | zero=>simp [Builtin.growBy]; omega
    | succ r=>simp only [Builtin.growBy]; grind
theorem nextslicecap_le {need cap:Nat} (h:cap<need):Builtin.nextslicecap need cap<=2 * need:=by
 unfold Builtin.nextslicecap
 split
 . omega
 . split
   . omega
   . exact c3h _ _ _ h (by omega)
def Acc {α:Type} (r:Rep α) (M:List Nat) (w:World) (v:Value) (l:List α) (bs:List Nat):Prop :=
 (v=.slice none 0 0/\l=[]/\bs=[]) ∨
 ∃ b cap C T,v=.slice (some ⟨b,0,none⟩) l.length cap/\bs=[b]/\Own w b T C/\C.length=cap * r.sz/\l.length<=cap/\b ∉ M /\
  ∀ i (h:i<l.length),∃ c,c.length=r.sz/\(∀ j,j<r.sz->C[i * r.sz+j]?=c[j]?)/\r.rd (b::M) w c l[i]
section
variable {α:Type} {r:Rep α} {M M' B bs:List Nat} {w w':World} {v:Value} {l:List α}
theorem Acc.nil:Acc r M w (.slice none 0 0) [] []:=.inl ⟨rfl,rfl,rfl⟩
theorem Acc.ext (h:Acc r M w v l bs) (e:Ext B w w') (hB:∀ b∈B,b∈M ∨ w.heap.size<=b):Acc r M w' v l bs:=by
 rcases h with h | ⟨b,cap,C,T,hv,hb,ho,hC,hl,hM,hc⟩
 . exact .inl h
 . have hlt:=ho.lt
   refine .inr ⟨b,cap,C,T,hv,hb,ho.ext e (fun hm=>by grind),hC,hl,hM,fun i hi=>?_⟩
   obtain ⟨c,h1,h2,h3⟩:=hc i hi
   exact ⟨c,h1,h2,r.mono h3 e (fun x hx=>by grind) (fun x hx=>.inl hx)⟩
theorem Acc.a2T (h:Acc r M w v l bs) (hM:∀ b∈M',b∈M ∨ w.heap.size<=b):Acc r M' w v l bs:=by
 rcases h with h | ⟨b,cap,C,T,hv,hb,ho,hC,hl,hn,hc⟩
 . exact .inl h
 . have hlt:=ho.lt
   refine .inr ⟨b,cap,C,T,hv,hb,ho,hC,hl,fun hm=>(by grind),fun i hi=>?_⟩
   obtain ⟨c,h1,h2,h3⟩:=hc i hi
   exact ⟨c,h1,h2,r.mono h3 (Ext.refl [] w) (by simp) (fun x hx=>by
    grind)⟩
theorem Acc.rd (h:Acc r M w v l bs) (hl:l.length<=9223372036854775807):(c55 r).rd M w [v] l:=by
 rcases h with ⟨rfl,rfl,rfl⟩ | ⟨b,cap,C,T,rfl,rfl,ho,hC,hcap,hb,hc⟩
 . exact b6u
 . refine ⟨hl,_,_,rfl,(fun h=>by cases h),fun i hi=>?_⟩
   obtain ⟨c,h1,h2,h3⟩:=hc i hi
   exact ⟨b,0,c,rfl,hb,⟨_,_,_,ho,fun j hj=>by
    simp_all⟩,r.mono h3 (Ext.refl [] w) (by simp) (fun x hx=>.inl (by simp [hx]))⟩
end
theorem F6 {cs:List (List Value)} {sz:Nat} (h:∀ c∈cs,c.length=sz):∀ i j,j<sz->cs.flatten[i * sz+j]?=(cs[i]?).bind (·[j]?):=by
 induction cs with
 | nil=>simp_all
 | cons c cs ih =>
  intro i j hj
  have hc:c.length=sz:=h c (by simp)
  cases i with
  | zero=>grind
  | succ i =>
   rw [b6C,b4A (by grind),hc]
   rw [show (i+1) * sz+j-sz=i * sz+j by grind]
   simp_all
theorem H6 {cs:List (List Value)} {sz:Nat} (h:∀ c∈cs,c.length=sz):cs.flatten.length=cs.length * sz:=by
 induction cs with
 | nil=>simp
 | cons c cs ih=>grind
theorem W7 {β:Type} {p:Nat->β->Prop}:∀ n,(∀ i,i<n->∃ b,p i b)->∃ bs:List β,bs.length=n/\∀ i (hi:i<bs.length),p i bs[i]:=by
 intro n
 induction n with
 | zero=>simp_all
 | succ n ih =>
  intro h
  obtain ⟨bs,h1,h2⟩:=ih (fun i hi=>h i (by omega))
  obtain ⟨b,hb⟩:=h n (by omega)
  refine ⟨bs++[b],by simp [h1],fun i hi=>?_⟩
  grind
section
variable {α:Type} {r:Rep α} {M:List Nat} {w:World} {v:Value} {l:List α}
end
section
variable {P:Program} {α:Type} {r:Rep α} {M bs:List Nat} {w:World} {v:Value} {l:List α} {T E:TypeId} {info:TypeInfo} {zv:Value}
theorem X6 {b o:Nat} {cs:List Value} (hc:x9 w b o cs):(loadCells ⟨b,o,none⟩ cs.length).run P w=.ok cs.toArray w:=by
 have h:=O0 (P:=P) hc cs.length 0 #[] (by omega)
 simpa [loadCells] using h
theorem a33 (z:Array Value) (n:Nat):(Builtin.zeroCells z n).size=n * z.size:=by simp [Builtin.zeroCells]
variable {n:Nat} {ops:List Oper} {Q:Exit->Fr->World->Prop} {rest:List Oper} {f:Fr} {d:Nat} {ty:TypeId} {pos:String} {after:Array Edge} {x y:Operand}
end
end Go.Wk
end
section
namespace Go.Wk
open Go
structure Key (κ:Type) where
 enc:κ->Value
 kind:TypeDesc
 same:∀ a,Instr.sameNow kind (enc a) (enc a)=some true
 diff:∀ a b,a≠b->Instr.sameNow kind (enc a) (enc b)=some false
 check:∀ (P:Program) (T:TypeId) (emp:Bool) (a:κ) (w:World),(∀ w,(underlying T).run P w=.ok kind w)->(Instr.checkKey emp 10000 T (enc a)).run P w=.ok () w
 bits:∀ a,Instr.sameBits 10000 (enc a) (enc a)=true
section
theorem b7d (P:Program) (T:TypeId) (emp:Bool) (v:Value) (w:World) {d:TypeDesc} (h:∀ w,(underlying T).run P w=.ok d w) (hd:match d with | .array _ _ | .struct _ | .interface _=>False | _=>True) (n:Nat) :
  (Instr.checkKey emp (n+1) T v).run P w=.ok () w:=by
 simp only [Instr.checkKey,b3S,h,b3O]
 cases d <;> first | rfl | exact hd.elim
theorem b8l (P:Program) (T:TypeId) (emp:Bool) (v:Value) (w:World) {d:TypeDesc} (h:∀ w,(underlying T).run P w=.ok d w) (hd:match d with | .array _ _ | .struct _ | .interface _=>False | _=>True) :
  (Instr.checkKey emp 10000 T v).run P w=.ok () w:=b7d P T emp v w h hd 9999
theorem b03 (n:Nat) (k:IntKind) (a:Int):Instr.sameBits (n+1) (.int k a) (.int k a)=true:=by simp [Instr.sameBits]
def E5:Key Int where
 enc:=fun a=>.int .i64 a
 kind:=.int .i64
 same:=fun a=>by simp [Instr.sameNow]
 diff:=fun a b h=>by simp [Instr.sameNow,h]
 check:=fun P T emp a w h=>b8l P T emp _ w h trivial
 bits:=fun a=>b03 9999 _ a
section
variable {κ:Type}
def G3 [DecidableEq κ] (L:List (κ×Value)) (k:κ) (i:Nat):Option (Nat×Value) :=
 match L with
 | []=>none
 | p::r=>if k=p.1 then some (i,p.2) else G3 r k (i+1)
def a8c [DecidableEq κ] (L:List (κ×Value)) (k:κ):Option Value :=
 match L with
 | []=>none
 | p::r=>if k=p.1 then some p.2 else a8c r k
def a30 [DecidableEq κ] (L:List (κ×Value)) (k:κ) (v:Value):List (κ×Value) :=
 match L with
 | []=>[(k,v)]
 | p::r=>if k=p.1 then (k,v)::r else p::a30 r k v
def a6k [DecidableEq κ] (L:List (κ×Value)) (k:κ):List (κ×Value):=L.filter fun p=>¬ k=p.1
theorem c36 [DecidableEq κ] (L:List (κ×Value)) (k:κ):∀ i,(G3 L k i).map (·.2)=a8c L k:=by
 induction L with
 | nil=>intro i; rfl
 | cons p r ih=>intro i; simp only [G3,a8c]; grind
def K4 (es:List MapEntry):List (Value×Value):=es.map fun e=>(e.key,e.val)
structure Good (ky:Key κ) (es:List MapEntry) (clk:Nat) (L:List (κ×Value)):Prop where
 same:K4 es=L.map fun p=>(ky.enc p.1,p.2)
 keys:(L.map (·.1)).Nodup
 a3Y:(es.map (·.born)).Nodup
 a2N:∀ e∈es,e.born<clk
def F5 (ky:Key κ) (w:World) (b:Nat) (L:List (κ×Value)):Prop:=∃ es clk,w.heap[b]?=some (.map es clk)/\Good ky es.toList clk L
theorem F5.lt {ky:Key κ} {w:World} {b:Nat} {L:List (κ×Value)} (h:F5 ky w b L):b<w.heap.size:=let ⟨_,_,h,_⟩:=h; a07 h
theorem F5.ext {ky:Key κ} {w w':World} {b:Nat} {L:List (κ×Value)} {B:List Nat} (h:F5 ky w b L) (e:Ext B w w') (hb:b ∉ B):F5 ky w' b L :=
 let ⟨es,clk,h,g⟩:=h; ⟨es,clk,e.get hb h,g⟩
theorem F5.nodup {ky:Key κ} {w:World} {b:Nat} {L:List (κ×Value)} (h:F5 ky w b L):(L.map (·.1)).Nodup:=let ⟨_,_,_,g⟩:=h; g.keys
theorem a3o {e:MapEntry} {es:List MapEntry} {ky:Key κ} {L:List (κ×Value)} (h:K4 (e::es)=L.map fun p=>(ky.enc p.1,p.2)):∃ k v r,L=(k,v)::r/\e.key=ky.enc k/\e.val=v/\K4 es=r.map fun p=>(ky.enc p.1,p.2):=by
 cases L with
 | nil=>simp [K4] at h
 | cons p r=>obtain ⟨k,v⟩:=p; simp [K4] at h; exact ⟨k,v,r,rfl,h.1.1,h.1.2,h.2⟩
theorem b8u [DecidableEq κ] (ky:Key κ) (k:κ):∀ (es:List MapEntry) (L:List (κ×Value)) (i:Nat),K4 es=(L.map fun p=>(ky.enc p.1,p.2))->Instr.findNow ky.kind (ky.enc k) es i=some (G3 L k i):=by
 intro es
 induction es with
 | nil=>intro L i h; cases L with
  | nil=>rfl
  | cons p r=>simp [K4] at h
 | cons e es ih =>
  intro L i h
  obtain ⟨k',v,r,rfl,h1,h2,h3⟩:=a3o h
  simp only [Instr.findNow,G3,h1]
  by_cases hk:k=k'
  . subst hk; simp [h2,ky.same]
  . simp only [ky.diff _ _ hk,if_neg hk]
    grind
theorem a1l [DecidableEq κ] (L:List (κ×Value)) (k:κ):∀ i,G3 L k i=(G3 L k 0).map fun p=>(i+p.1,p.2):=by
 induction L with
 | nil=>intro i; rfl
 | cons p r ih =>
  intro i
  simp only [G3]
  split
  . simp
  . rw [ih (i+1),ih (0+1)]; cases G3 r k 0 <;> simp; omega
theorem Good.a8R [DecidableEq κ] {ky:Key κ} {es:List MapEntry} {clk:Nat} {L:List (κ×Value)} {k:κ} {v v0:Value}:∀ {j:Nat},Good ky es clk L->G3 L k 0=some (j,v0)->Good ky (es.modify j fun e=>{ e with key:=ky.enc k,val:=v }) clk (a30 L k v):=by
 induction L generalizing es with
 | nil=>intro j _ h; simp [G3] at h
 | cons p r ih =>
  intro j g h
  obtain ⟨e,es,rfl⟩:∃ e es',es=e::es':=by
   cases es with
   | nil=>have:=g.same; simp [K4] at this
   | cons e es'=>simp_all
  obtain ⟨k',v',r',hL,h1,h2,h3⟩:=a3o g.same
  cases hL
  have hnd:=g.keys
  simp at hnd
  have hb:=g.a3Y
  simp only [b4W,b5U] at hb
  by_cases hk:k=k'
  . subst hk
    simp [G3] at h
    obtain ⟨rfl,rfl⟩:=h
    refine ⟨?_,?_,by simp_all,fun e' he'=>?_⟩
    . simp [K4,a30]; exact h3
    . simpa [a30] using g.keys
    . simp at he'
      rcases he' with rfl | he'
      . exact g.a2N e (by simp)
      . exact g.a2N e' (by simp [he'])
  . simp only [G3,if_neg hk] at h
    rw [a1l] at h
    cases hf:G3 r k 0 with
    | none=>simp_all
    | some q =>
     obtain ⟨j',v1⟩:=q
     rw [hf] at h
     simp at h
     obtain ⟨rfl,rfl⟩:=h
     have g':Good ky es clk r:=⟨h3,hnd.2,hb.2,fun e' he'=>g.a2N e' (by simp [he'])⟩
     have g2:=ih g' hf
     have hmod:(e::es).modify (0+1+j') (fun e=>{ e with key:=ky.enc k,val:=v })=e::es.modify j' (fun e=>{ e with key:=ky.enc k,val:=v }):=by
      rw [show 0+1+j'=j'+1 by omega]; simp
     have hbm:∀ (l:List MapEntry) (j:Nat),(l.modify j (fun e=>{ e with key:=ky.enc k,val:=v })).map (·.born)=l.map (·.born):=by
      intro l; induction l with
      | nil=>intro j; simp
      | cons x l ih=>grind
     rw [hmod]
     refine ⟨?_,?_,?_,fun e' he'=>?_⟩
     . simp only [a30,if_neg hk]
       have:=g2.same
       simp only [K4,b4W] at this ⊢
       simp_all
     . simp only [a30,if_neg hk,b4W,b5U]
       refine ⟨?_,g2.keys⟩
       have hkeys:∀ (l:List (κ×Value)) x,x∈(a30 l k v).map (·.1)->x=k ∨ x∈l.map (·.1):=by
        intro l; induction l with
        | nil=>intro x h; simp [a30] at h; exact .inl h
        | cons q l ih =>
         intro x h
         simp only [a30] at h
         grind
       grind
     . simp_all
     . simp at he'
       rcases he' with rfl | he'
       . exact g.a2N e' (by simp)
       . exact g2.a2N e' he'
theorem a7g [DecidableEq κ] {L:List (κ×Value)} {k:κ}:∀ i,G3 L k i=none->k ∉ L.map (·.1):=by
 induction L with
 | nil=>simp_all
 | cons p r ih =>
  intro i h
  simp only [G3] at h
  grind
theorem c73 [DecidableEq κ] {L:List (κ×Value)} {k:κ} {v:Value} (h:k ∉ L.map (·.1)):a30 L k v=L++[(k,v)]:=by
 induction L with
 | nil=>rfl
 | cons p r ih =>
  simp only [b4W,b4D,not_or] at h
  simp only [a30,if_neg h.1,ih h.2,b8C]
theorem Good.a9K [DecidableEq κ] {ky:Key κ} {es:List MapEntry} {clk:Nat} {L:List (κ×Value)} {k:κ} {v:Value} (g:Good ky es clk L) (h:G3 L k 0=none) :
  Good ky (es++[{ key:=ky.enc k,val:=v,born:=clk }]) (clk+1) (a30 L k v):=by
 have hk:=a7g 0 h
 rw [c73 hk]
 refine ⟨?_,?_,?_,fun e he=>?_⟩
 . have:=g.same; simp only [K4,b6W,b4W,List.map_nil] at this ⊢; rw [this]
 . rw [b6W,b9T]
   refine ⟨g.keys,by simp,fun a ha b hb=>?_⟩
   grind
 . rw [b6W,b9T]
   refine ⟨g.a3Y,by simp,fun a ha b hb=>?_⟩
   simp at hb; subst hb
   obtain ⟨e,he,rfl⟩:=b5C.1 ha
   have:=g.a2N e he; omega
 . simp at he
   rcases he with he | rfl
   . have:=g.a2N e he; omega
   . simp
theorem Good.del [DecidableEq κ] {ky:Key κ} {es:List MapEntry} {clk:Nat} {L:List (κ×Value)} {k:κ} {v0:Value}:∀ {j:Nat},Good ky es clk L->G3 L k 0=some (j,v0)->Good ky (es.eraseIdx j) clk (a6k L k):=by
 induction L generalizing es with
 | nil=>intro j _ h; simp [G3] at h
 | cons p r ih =>
  intro j g h
  obtain ⟨e,es,rfl⟩:∃ e es',es=e::es':=by
   cases es with
   | nil=>have:=g.same; simp [K4] at this
   | cons e es'=>simp_all
  obtain ⟨k',v',r',hL,h1,h2,h3⟩:=a3o g.same
  cases hL
  have hnd:=g.keys
  simp only [b4W,b5U] at hnd
  have hb:=g.a3Y
  simp only [b4W,b5U] at hb
  have g':Good ky es clk r:=⟨h3,hnd.2,hb.2,fun e' he'=>g.a2N e' (by simp [he'])⟩
  by_cases hk:k=k'
  . subst hk
    simp [G3] at h
    obtain ⟨rfl,rfl⟩:=h
    have hdel:a6k ((k,v')::r) k=r:=by
     simp only [a6k,b7Q]
     simp only [b8U,decide_false,b5M,if_false]
     refine b9H.2 fun p hp=>?_
     simp only [b6L]
     intro e; exact hnd.1 (b5C.2 ⟨p,hp,e.symm⟩)
    simp_all
  . simp only [G3,if_neg hk] at h
    rw [a1l] at h
    cases hf:G3 r k 0 with
    | none=>simp_all
    | some q =>
     obtain ⟨j',v1⟩:=q
     rw [hf] at h
     simp at h
     obtain ⟨rfl,rfl⟩:=h
     have g2:=ih g' hf
     have hmod:(e::es).eraseIdx (0+1+j')=e::es.eraseIdx j':=by
      rw [show 0+1+j'=j'+1 by omega]; simp
     have hdel:a6k ((k',v')::r) k=(k',v')::a6k r k:=by
      simp only [a6k,b7Q,hk,not_false_eq_true,decide_true,if_true]
     rw [hmod,hdel]
     refine ⟨?_,?_,?_,fun e' he'=>?_⟩
     . have:=g2.same
       simp only [K4,b4W] at this ⊢
       simp_all
     . simp only [b4W,b5U]
       refine ⟨fun hm=>hnd.1 ?_,g2.keys⟩
       obtain ⟨p,hp,e⟩:=b5C.1 hm
       exact b5C.2 ⟨p,(b7H.1 hp).1,e⟩
     . simp only [b4W,b5U]
       refine ⟨fun hm=>hb.1 ?_,g2.a3Y⟩
       obtain ⟨p,hp,e⟩:=b5C.1 hm
       exact b5C.2 ⟨p,List.mem_of_mem_eraseIdx hp,e⟩
     . simp at he'
       rcases he' with rfl | he'
       . exact g.a2N e' (by simp)
       . exact g2.a2N e' he'
theorem c3p [DecidableEq κ] {L:List (κ×Value)} {k:κ} (h:k ∉ L.map (·.1)):a6k L k=L:=by
 refine b9H.2 fun p hp=>?_
 grind
end
end
end Go.Wk
end
section
namespace Go.Wk
open Go
theorem Ext.setObj (w:World) (r:Nat) (o:Obj):Ext [r] w { w with heap:=w.heap.setIfInBounds r o } :=
 ⟨rfl,rfl,rfl,by simp,fun b hb hn=>by grind⟩
theorem V7 {w:World} {r:Nat} {o o':Obj} (h:w.heap[r]?=some o):({ w with heap:=w.heap.setIfInBounds r o' }:World).heap[r]?=some o':=by
 grind
theorem H3 {P:Program} {w:World} {r:Nat} {o:Obj} (h:w.heap[r]?=some o) (hc:∀ a b c,o≠.cells a b c):(getObj r).run P w=.ok o w:=by
 unfold getObj
 cases o <;> first | (simp only [Sem.run,h]; done) | simp_all
theorem U9 {P:Program} {w:World} {r:Nat} {o o':Obj} (h:w.heap[r]?=some o) (hc:∀ a b c,o≠.cells a b c):(setObj r o').run P w=.ok () { w with heap:=w.heap.setIfInBounds r o' }:=by
 unfold setObj
 cases o <;> first | (simp only [Sem.run,h]; done) | simp_all
section
variable {κ:Type} {ky:Key κ}
theorem c71 [DecidableEq κ] {L:List (κ×Value)} {k:κ} {v0:Value}:∀ {j:Nat},G3 L k 0=some (j,v0)->L[j]?=some (k,v0):=by
 induction L with
 | nil=>intro j h; simp [G3] at h
 | cons p r ih =>
  intro j h
  simp only [G3] at h
  split at h
  . grind
  . rw [a1l] at h
    cases hf:G3 r k 0 with
    | none=>simp_all
    | some q =>
     grind
theorem Good.a4M {es:List MapEntry} {clk:Nat} {L:List (κ×Value)} (g:Good ky es clk L) {j:Nat} {k:κ} {v:Value} (h:L[j]?=some (k,v)):∃ e,es[j]?=some e/\e.key=ky.enc k/\e.val=v:=by
 have:=congrArg (·[j]?) g.same
 simp only [K4,b5S,h] at this
 simp_all
variable {P:Program} {m:Bool} {n:Nat} {ops:List Oper} {Q:Exit->Fr->World->Prop} {rest:List Oper} {f:Fr} {w:World} {d b:Nat} {v zv:Value} {L:List (κ×Value)} {k:κ}
variable {ty T Kt E:TypeId} {pos:String} {after:Array Edge} {x y z:Operand}
theorem c4n (hn:Nat.blt d n=true)
  (K:∀ b w',Ext [] w w'->w.heap.size=b->w'.heap.size=b+1->F5 ky w' b []->WL P false n ops Q rest (upd f d (.map (some b))) w') :
  WL P false n ops Q (⟨some d,.makeMap T none,ty,pos,after,none⟩::rest) f w :=
 T5 rfl rfl hn fun w1 hs=>by
  obtain ⟨kk,rfl⟩:=hs
  refine ⟨.map (some w.heap.size),_,{ w with heap:=w.heap.push (.map #[] 0) },?_,⟨kk,rfl⟩,K w.heap.size _ (Ext.push w _) rfl (by simp) ⟨#[],0,by simp,⟨rfl,by simp,by simp,by simp⟩⟩⟩
  simp [execOp,Instr.makeMap,newObj,Sem.run,go_sem]
theorem R8 [DecidableEq κ] (hK:∀ w,(underlying Kt).run P w=.ok ky.kind w) {es:List MapEntry} {clk:Nat} (g:Good ky es clk L) (w:World):(Instr.findKey Kt (ky.enc k) es).run P w=.ok (G3 L k 0) w:=by
 simp only [Instr.findKey,b3S,hK,b3O,b8u ky k es L 0 g.same]
 rfl
theorem b04 [DecidableEq κ] (hT:∀ w,(underlying T).run P w=.ok (.map Kt E) w) (hK:∀ w,(underlying Kt).run P w=.ok ky.kind w) (h:F5 ky w b L) (v:Value):∃ w',Ext [b] w w'/\w'.heap.size=w.heap.size/\F5 ky w' b (a30 L k v) /\
  ∀ kk,(Instr.mapUpdate T (.map (some b)) (ky.enc k) v).run P { w with drawn:=kk }=.ok () { w' with drawn:=kk }:=by
 obtain ⟨es,clk,hh,g⟩:=h
 cases hf:G3 L k 0 with
 | some q =>
  obtain ⟨j,v0⟩:=q
  obtain ⟨e,he,hek,_⟩:=g.a4M (c71 hf)
  have g2:=g.a8R (v:=v) hf
  refine ⟨{ w with heap:=w.heap.setIfInBounds b (.map (es.modify j fun e=>{ e with key:=ky.enc k,val:=v }) clk) },Ext.setObj w b _,by simp,⟨_,clk,V7 hh,by simp_all⟩,fun kk=>?_⟩
  have he':es[j]?=some e:=by simpa using he
  have hstay:∀ w,(Instr.keyThatStays (ky.enc k) (ky.enc k)).run P w=.ok (ky.enc k) w:=fun w=>by simp only [Instr.keyThatStays,ky.bits,if_true]; rfl
  simp only [Instr.mapUpdate,b3S,hT,b3O,H3 (w:={ w with drawn:=kk }) hh (by simp),ky.check P Kt false k _ hK,R8 hK g,hf,he',b9E,b9B,hek,hstay,U9 (w:={ w with drawn:=kk }) hh (by simp)]
 | none =>
  have g2:=g.a9K (v:=v) hf
  refine ⟨{ w with heap:=w.heap.setIfInBounds b (.map (es.push { key:=ky.enc k,val:=v,born:=clk }) (clk+1)) },Ext.setObj w b _,by simp,⟨_,clk+1,V7 hh,by simp_all⟩,fun kk=>?_⟩
  simp only [Instr.mapUpdate,b3S,hT,b3O,H3 (w:={ w with drawn:=kk }) hh (by simp),ky.check P Kt false k _ hK,R8 hK g,hf,U9 (w:={ w with drawn:=kk }) hh (by simp)]
theorem b4u [DecidableEq κ] (hT:∀ w,(underlying T).run P w=.ok (.map Kt E) w) (hK:∀ w,(underlying Kt).run P w=.ok ky.kind w) (hx:ev f x=.map (some b)) (hy:ev f y=ky.enc k) (hv:ev f z=v) (h:F5 ky w b L)
  (K:∀ w',Ext [b] w w'->w'.heap.size=w.heap.size->F5 ky w' b (a30 L k v)->WL P false n ops Q rest f w'):WL P false n ops Q (⟨none,.mapUpdate T x y z,ty,pos,after,none⟩::rest) f w :=
 b3a rfl rfl fun w1 hs=>by
  obtain ⟨kk,rfl⟩:=hs
  obtain ⟨w',h1,h2,h3,h4⟩:=b04 (k:=k) hT hK h v
  refine ⟨_,w',?_,⟨kk,rfl⟩,K w' h1 h2 h3⟩
  simp only [execOp,hx,hy,hv,b3S,h4 kk,b3O,b4E]
theorem a9t [DecidableEq κ] (hT:∀ w,(underlying T).run P w=.ok (.map Kt E) w) (hK:∀ w,(underlying Kt).run P w=.ok ky.kind w) (hz:∀ w,(zeroValue E).run P w=.ok zv w) (h:F5 ky w b L) (ok:Bool) (w1:World) (hs:Sim w w1) :
  (Instr.lookup T (.map (some b)) (ky.enc k) ok).run P w1=.ok (if ok then .tuple #[(a8c L k).getD zv,.bool (a8c L k).isSome] else (a8c L k).getD zv) w1:=by
 obtain ⟨es,clk,hh,g⟩:=h
 have hh':w1.heap[b]?=some (.map es clk):=by rw [hs.heap]; exact hh
 have hg:=c36 L k 0
 simp only [Instr.lookup,b3S,hT,b3O,H3 hh' (by simp),ky.check P Kt _ k _ hK,R8 hK g,b4E]
 cases hf:G3 L k 0 with
 | some q=>rw [hf] at hg; simp at hg; simp [<- hg,go_sem]
 | none=>rw [hf] at hg; simp at hg; simp [<- hg,hz,go_sem]
theorem c4q [DecidableEq κ] (hT:∀ w,(underlying T).run P w=.ok (.map Kt E) w) (hK:∀ w,(underlying Kt).run P w=.ok ky.kind w) (hz:∀ w,(zeroValue E).run P w=.ok zv w) (hx:ev f x=.map (some b)) (hy:ev f y=ky.enc k) (h:F5 ky w b L)
  (hv:(a8c L k).getD zv=v) (hn:Nat.blt d n=true) (K:WL P m n ops Q rest (upd f d v) w):WL P m n ops Q (⟨some d,.lookup T x y false,ty,pos,after,none⟩::rest) f w :=
 n7 rfl rfl hn (v:=v) (fun w1 hs=>by
  subst hv
  simp only [execOp,hx,hy,b3S,a9t hT hK hz h false w1 hs]
  rfl) K
theorem b95 [DecidableEq κ] {p:Bool} (hT:∀ w,(underlying T).run P w=.ok (.map Kt E) w) (hK:∀ w,(underlying Kt).run P w=.ok ky.kind w) (hz:∀ w,(zeroValue E).run P w=.ok zv w) (hx:ev f x=.map (some b)) (hy:ev f y=ky.enc k) (h:F5 ky w b L)
  (hv:(a8c L k).getD zv=v) (hp:(a8c L k).isSome=p) (hn:Nat.blt d n=true) (K:WL P m n ops Q rest (upd f d (.tuple #[v,.bool p])) w):WL P m n ops Q (⟨some d,.lookup T x y true,ty,pos,after,none⟩::rest) f w :=
 n7 rfl rfl hn (v:=.tuple #[v,.bool p]) (fun w1 hs=>by
  subst hv; subst hp
  simp only [execOp,hx,hy,b3S,a9t hT hK hz h true w1 hs]
  rfl) K
theorem b8m [DecidableEq κ] {Ty:TypeId} (hT:∀ w,(underlying T).run P w=.ok (.map Kt E) w) (hK:∀ w,(underlying Kt).run P w=.ok ky.kind w) (h:F5 ky w b L):∃ w',Ext [b] w w'/\w'.heap.size=w.heap.size/\F5 ky w' b (a6k L k) /\
  ∀ kk,(Builtin.delete_ #[T,Kt] Ty #[.map (some b),ky.enc k]).run P { w with drawn:=kk }=.ok (.tuple #[]) { w' with drawn:=kk }:=by
 obtain ⟨es,clk,hh,g⟩:=h
 cases hf:G3 L k 0 with
 | some q =>
  obtain ⟨j,v0⟩:=q
  have g2:=g.del hf
  refine ⟨{ w with heap:=w.heap.setIfInBounds b (.map (es.eraseIdxIfInBounds j) clk) },Ext.setObj w b _,by simp,⟨_,clk,V7 hh,?_⟩,fun kk=>?_⟩
  . simp_all
  . simp only [Builtin.delete_,b3S,b5B,b5D,b4B,hT,b3O,H3 (w:={ w with drawn:=kk }) hh (by simp),ky.check P Kt _ k _ hK,R8 hK g,hf,U9 (w:={ w with drawn:=kk }) hh (by simp),b4E]
 | none =>
  have g2:a6k L k=L:=c3p (a7g 0 hf)
  refine ⟨{ w with heap:=w.heap.setIfInBounds b (.map es clk) },Ext.setObj w b _,by simp,⟨_,clk,V7 hh,by simp_all⟩,fun kk=>?_⟩
  simp only [Builtin.delete_,b3S,b5B,b5D,b4B,hT,b3O,H3 (w:={ w with drawn:=kk }) hh (by simp),ky.check P Kt _ k _ hK,R8 hK g,hf,U9 (w:={ w with drawn:=kk }) hh (by simp),b4E]
theorem c8v [DecidableEq κ] (hT:∀ w,(underlying T).run P w=.ok (.map Kt E) w) (hK:∀ w,(underlying Kt).run P w=.ok ky.kind w) (hx:ev f x=.map (some b)) (hy:ev f y=ky.enc k) (h:F5 ky w b L)
  (K:∀ w',Ext [b] w w'->w'.heap.size=w.heap.size->F5 ky w' b (a6k L k)->WL P false n ops Q rest f w'):WL P false n ops Q (⟨none,.call ⟨.builtin .delete,#[x,y],#[T,Kt]⟩,ty,pos,after,none⟩::rest) f w :=
 d4s rfl rfl fun w1 hs=>by
  obtain ⟨kk,rfl⟩:=hs
  obtain ⟨w',h1,h2,h3,h4⟩:=b8m (k:=k) (Ty:=ty) hT hK h
  refine ⟨.tuple #[],_,w',?_,⟨kk,rfl⟩,K w' h1 h2 h3⟩
  have:(#[x,y]:Array Operand).map (ev f)=#[.map (some b),ky.enc k]:=by simp [hx,hy]
  simp only [execOp,resolve,invoke,builtin,b3S,b4E,b3O,this,h4 kk]
def Iter (ky:Key κ) (w:World) (it b:Nat) (L D:List (κ×Value)):Prop:=∃ es clk,∃ De:List MapEntry,w.heap[b]?=some (.map es clk)/\Good ky es.toList clk L/\w.heap[it]?=some (.mapIter (some b) clk (De.map (·.born)).toArray clk) /\
 (∀ e∈De,e∈es.toList)/\(De.map (·.born)).Nodup/\K4 De=D.map fun p=>(ky.enc p.1,p.2)
theorem Iter.ext {w w':World} {it:Nat} {D:List (κ×Value)} {B:List Nat} (h:Iter ky w it b L D) (e:Ext B w w') (hb:b ∉ B) (hi:it ∉ B):Iter ky w' it b L D :=
 let ⟨es,clk,De,h1,g,h2,r⟩:=h; ⟨es,clk,De,e.get hb h1,g,e.get hi h2,r⟩
theorem Iter.map {w:World} {it:Nat} {D:List (κ×Value)} (h:Iter ky w it b L D):F5 ky w b L:=let ⟨es,clk,_,h1,g,_⟩:=h; ⟨es,clk,h1,g⟩
theorem Iter.lt {w:World} {it:Nat} {D:List (κ×Value)} (h:Iter ky w it b L D):it<w.heap.size:=let ⟨_,_,_,_,_,h2,_⟩:=h; a07 h2
theorem d4z (hT:∀ w,(underlying T).run P w=.ok (.map Kt E) w) (hx:ev f x=.map (some b)) (h:F5 ky w b L) (hn:Nat.blt d n=true)
  (K:∀ it w',Ext [] w w'->w.heap.size=it->w'.heap.size=it+1->Iter ky w' it b L []->WL P false n ops Q rest (upd f d (.pointer (some ⟨it,0,none⟩))) w') :
  WL P false n ops Q (⟨some d,.range T x,ty,pos,after,none⟩::rest) f w :=
 T5 rfl rfl hn fun w1 hs=>by
  obtain ⟨kk,rfl⟩:=hs
  obtain ⟨es,clk,hh,g⟩:=h
  have e:=Ext.push w (.mapIter (some b) clk #[] clk)
  refine ⟨.pointer (some ⟨w.heap.size,0,none⟩),_,{ w with heap:=w.heap.push (.mapIter (some b) clk #[] clk) },?_,⟨kk,rfl⟩,K w.heap.size _ e rfl (by simp) ⟨es,clk,[],e.get (by simp) hh,g,by simp,by simp,by simp,by simp [K4]⟩⟩
  simp only [execOp,hx,Instr.range,b3S,hT,b3O,H3 (w:={ w with drawn:=kk }) hh (by simp),b4E,newObj,Sem.run]
theorem born_inj {es:List MapEntry} (h:(es.map (·.born)).Nodup) {a b:MapEntry} (ha:a∈es) (hb:b∈es) (e:a.born=b.born):a=b:=by
 induction es with
 | nil=>cases ha
 | cons x r ih =>
  grind
theorem d7n [DecidableEq κ] {it:Nat} {D:List (κ×Value)} {N:TypeId} (hx:ev f x=.pointer (some ⟨it,0,none⟩)) (h:Iter ky w it b L D) (hn:Nat.blt d n=true)
  (K1:∀ k v w',(k,v)∈L->(k,v) ∉ D->k ∉ D.map (·.1)->Ext [it] w w'->w'.heap.size=w.heap.size->Iter ky w' it b L (D++[(k,v)])->WL P false n ops Q rest (upd f d (.tuple #[.bool true,ky.enc k,v])) w')
  (K2:(∀ p∈L,p∈D)->WL P false n ops Q rest (upd f d (.tuple #[.bool false])) w) :
  WL P false n ops Q (⟨some d,.next x false,N,pos,after,none⟩::rest) f w :=
 T5 rfl rfl hn fun w1 hs=>by
  obtain ⟨kk,rfl⟩:=hs
  obtain ⟨es,clk,De,hh,g,hi,hDe,hDn,hDp⟩:=h
  have hne:(it:Nat)≠b:=fun e=>by simp_all
  have hread1:=H3 (P:=P) (w:={ w with drawn:=kk }) hi (by simp)
  have hread2:=H3 (P:=P) (w:={ w with drawn:=kk }) hh (by simp)
  have hyoung:∀ e∈es.toList,e.born<clk:=g.a2N
  have hall:(!(De.map (·.born)).toArray.isEmpty && !es.isEmpty && es.all (fun e=>decide (e.born ≥ clk)))=false:=by
   cases hes:es.toList with
   | nil=>simp_all
   | cons e r =>
    have:es.all (fun e=>decide (e.born ≥ clk))=false:=by
     rw [<- Array.all_toList,hes,b7A]
     have:=hyoung e (by simp_all)
     simp; intro h; omega
    simp [this]
  obtain ⟨left,hld⟩:∃ l,l=es.filter fun e=>!(De.map (·.born)).toArray.contains e.born:=⟨_,rfl⟩
  have hold:left.filter (fun e=>decide (e.born<clk))=left:=by
   apply Array.filter_eq_self.2
   intro e he
   have:=(b9Y.1 (hld ▸ he)).1
   simpa using hyoung e (by simpa using this)
  have hnew:left.filter (fun e=>decide (e.born ≥ clk))=#[]:=by
   apply Array.filter_eq_empty_iff.2
   intro e he
   have:=(b9Y.1 (hld ▸ he)).1
   have:=hyoung e (by simpa using this)
   simp; omega
  have hleft:∀ e,e∈left↔e∈es.toList/\e ∉ De:=by
   intro e
   simp only [hld,b9Y]
   constructor
   . grind
   . rintro ⟨h1,h2⟩
     refine ⟨by simpa using h1,?_⟩
     simp
     intro e' he' hb
     have:=born_inj g.a3Y (hDe e' he') h1 hb
     simp_all
  by_cases hemp:left.isEmpty=true
  . -- over
    have hl0:left=#[]:=by simpa using hemp
    refine ⟨.tuple #[.bool false],{ w with drawn:=kk },w,?_,⟨kk,rfl⟩,K2 fun p hp=>?_⟩
    . have hc:((if left.isEmpty then #[none] else #[])++(left++(#[]:Array MapEntry)).map some:Array (Option MapEntry))=#[none]:=by rw [hl0]; simp
      simp only [execOp,hx,Instr.next,b3S,hread1,b3O,hread2]
      rw [hall]
      simp only [b5M,if_false,b3S]
      rw [<- hld,hold,hnew,hc]
      simp [choose,Sem.run,Question.forced,go_sem]
    . obtain ⟨j,hj,e⟩:=b4I hp
      obtain ⟨en,hen,hk,hv⟩:=g.a4M (j:=j) (k:=p.1) (v:=p.2) (by rw [b3T hj,e])
      have hmem:en∈es.toList:=b4S hen
      have hin:en∈De:=by
       refine b4V fun hno=>?_
       have:=(hleft en).2 ⟨hmem,hno⟩
       rw [hl0] at this; simp at this
      have:(en.key,en.val)∈K4 De:=b5C.2 ⟨en,hin,rfl⟩
      rw [hDp,hk,hv] at this
      obtain ⟨q,hq,hqe⟩:=b5C.1 this
      simp at hqe
      have hk':q.1=p.1:=by
       refine b4V fun hne=>?_
       have h1:=ky.diff _ _ hne
       have h2:=ky.same p.1
       rw [hqe.1] at h1; rw [h1] at h2; cases h2
      grind
  . -- one more
    have hemp':left.isEmpty=false:=by simpa using hemp
    have hc:((if left.isEmpty then #[none] else #[])++(left++(#[]:Array MapEntry)).map some:Array (Option MapEntry))=left.map some:=by rw [hemp']; simp
    have hpos:0<left.size:=by
     rcases b6Q left.size with h | h
     . simp [Array.isEmpty,h] at hemp'
     . exact h
    have hchoose:∃ j w2,j<left.size/\Sim w w2/\(choose (.mapNext (left.map some).size)).run P { w with drawn:=kk }=.ok j w2:=by
     unfold choose
     simp only [Sem.run,Array.size_map]
     split
     . exact ⟨0,_,hpos,⟨kk,rfl⟩,rfl⟩
     . refine ⟨_,_,?_,⟨kk+1,rfl⟩,rfl⟩
       simp only [Question.cut]; exact b8D _ hpos
    obtain ⟨j,w2,hj,hs2,hrun⟩:=hchoose
    obtain ⟨kk2,rfl⟩:=hs2
    have hmem:left[j]∈left:=Array.getElem_mem hj
    obtain ⟨hes,hnD⟩:=(hleft _).1 hmem
    obtain ⟨i,hi',hie⟩:=b4I hes
    have hLi:i<L.length:=by have:=congrArg List.length g.same; simp [K4] at this; simp at hi'; omega
    obtain ⟨en,hen,hk,hv⟩:=g.a4M (j:=i) (k:=L[i].1) (v:=L[i].2) (by simp [hLi])
    have hen':en=left[j]:=by rw [b3T hi'] at hen; rw [<- hie]; exact (b6E hen).symm
    subst hen'
    have e:=Ext.setObj w it (.mapIter (some b) clk ((De.map (·.born)).toArray.push left[j].born) clk)
    have hkD:L[i].1 ∉ D.map (·.1):=by
     intro hm
     obtain ⟨q,hq,hqe⟩:=b5C.1 hm
     have:(ky.enc q.1,q.2)∈K4 De:=by rw [hDp]; exact b5C.2 ⟨q,hq,rfl⟩
     obtain ⟨e',he',hp⟩:=b5C.1 this
     simp at hp
     obtain ⟨i',hi2,hie'⟩:=b4I (hDe e' he')
     have hLi':i'<L.length:=by have:=congrArg List.length g.same; simp [K4] at this; simp at hi2; omega
     obtain ⟨e2,he2,hk2,_⟩:=g.a4M (j:=i') (k:=L[i'].1) (v:=L[i'].2) (by simp [hLi'])
     have:e2=e':=by rw [b3T hi2] at he2; rw [<- hie']; exact (b6E he2).symm
     subst this
     have hkk:L[i'].1=L[i].1:=by
      refine b4V fun hne=>?_
      have h1:=ky.diff _ _ hne
      have h2:=ky.same L[i].1
      rw [<- hk2,hp.1,hqe] at h1; rw [h1] at h2; cases h2
     have hii:i'=i:=by
      have hnd:=g.keys
      have h1:(L.map (·.1))[i']?=some L[i].1:=by simp [hLi',hkk]
      have h2:(L.map (·.1))[i]?=some L[i].1:=by simp [hLi]
      exact (List.getElem?_inj (by simpa using hLi') hnd).1 (h1.trans h2.symm)
     subst hii
     rw [hie] at hie'
     exact hnD (hie' ▸ he')
    refine ⟨.tuple #[.bool true,left[j].key,left[j].val],{ w with drawn:=kk2,heap:=w.heap.setIfInBounds it (.mapIter (some b) clk ((De.map (·.born)).toArray.push left[j].born) clk) },{ w with heap:=w.heap.setIfInBounds it (.mapIter (some b) clk ((De.map (·.born)).toArray.push left[j].born) clk) },?_,⟨kk2,rfl⟩,?_⟩
    . simp only [execOp,hx,Instr.next,b3S,hread1,b3O,hread2]
      rw [hall]
      simp only [b5M,if_false,b3S]
      rw [<- hld,hold,hnew,hc,hrun]
      simp only [b3O]
      have:(left.map some)[j]?=some (some left[j]):=by simp [hj]
      rw [this]
      simp only [b3S,U9 (w:={ w with drawn:=kk2 }) hi (by simp),b3O,b4E]
    . rw [hk,hv]
      refine K1 L[i].1 L[i].2 _ (b5J _) (fun hm=>hkD (b5C.2 ⟨_,hm,rfl⟩)) hkD e (by simp) ⟨es,clk,De++[left[j]],?_,g,?_,?_,?_,?_⟩
      . simp [b5Z hne]; exact hh
      . rw [V7 hi]; simp
      . grind
      . grind
      . simp only [K4,b6W,b4W,List.map_nil] at hDp ⊢
        rw [hDp,hk,hv]
theorem d2s {it:Nat} {D:List (κ×Value)} (hx:ev f x=.pointer (some ⟨it,0,none⟩)) (h:Iter ky w it b L (D++[(k,v)])) (hn:Nat.blt d n=true)
  (K:WL P m n ops Q rest (upd f d (.tuple #[ky.enc k,v])) w):WL P m n ops Q (⟨some d,.entry x,ty,pos,after,none⟩::rest) f w :=
 n7 rfl rfl hn (v:=.tuple #[ky.enc k,v]) (fun w1 hs=>by
  obtain ⟨kk,rfl⟩:=hs
  obtain ⟨es,clk,De,hh,g,hi,hDe,hDn,hDp⟩:=h
  obtain ⟨De',e,rfl⟩:∃ De' e,De=De'++[e]:=by
   rcases List.eq_nil_or_concat De with h | ⟨l,e,h⟩
   . subst h; simp [K4] at hDp
   simp_all
  simp [K4] at hDp
  have hread1:=H3 (P:=P) (w:={ w with drawn:=kk }) hi (by simp)
  have hread2:=H3 (P:=P) (w:={ w with drawn:=kk }) hh (by simp)
  have hke:e.key=ky.enc k/\e.val=v:=hDp.2
  have hfind:es.find? (·.born == e.born)=some e:=by
   have hmem:e∈es.toList:=hDe e (by simp)
   rw [<- Array.find?_toList]
   cases hf:es.toList.find? (·.born == e.born) with
   | none=>grind
   | some e' =>
    have h1:=List.find?_some hf
    have h2:=List.mem_of_find?_eq_some hf
    rw [born_inj g.a3Y h2 hmem (by simp_all)]
  have hback:((De'++[e]).map (·.born)).toArray.back?=some e.born:=by simp
  simp only [execOp,hx,Instr.entry,b3S,hread1,b3O,hback,hread2]
  simp_all) K
end
end Go.Wk
end
section
namespace Go.Wk
open Go
def M5 (f:Fr):List (Nat×Value)->Prop
 | []=>True
 | (d,v)::r=>f d=v/\M5 f r
def a0p (g:Fr):List (Nat×Value)->Fr
 | []=>g
 | (d,v)::r=>upd (a0p g r) d v
theorem M5.eq {f:Fr}:∀ {L:List (Nat×Value)},M5 f L->a0p f L=f:=by
 intro L
 induction L with
 | nil=>intro _; rfl
 | cons p r ih =>
  obtain ⟨d,v⟩:=p
  rintro ⟨h1,h2⟩
  simp only [a0p,ih h2]
  funext t
  rw [M6]
  simp_all
theorem Ext.own {b:Nat} {w0 w w':World} (E:Ext [] w0 w) (e:Ext [b] w w') (hb:w0.heap.size<=b):Ext [] w0 w':=E.trans e (by simp) (fun x hx=>by simp_all)
section
variable {P:Program} {m:Bool} {n:Nat} {c:Code} {ops:List Oper} {Q:Exit->Fr->World->Prop} {rest:List Oper} {f:Fr} {w:World}
theorem F3 {L:List (Nat×Value)} (h:M5 f L) (k:∀ g,W P n c Q (a0p g L) w):W P n c Q f w:=by
 have:=k f
 rwa [h.eq] at this
theorem a4h {dj:Nat} {p:Bool} (_hv:f dj=.bool p) (ht:p=true->WL P m n ops Q rest f w) (hf:p=false->WL P m n ops Q rest f w):WL P m n ops Q rest f w:=by
 grind
end
theorem lrn:(∀ (p:Prop) [Decidable p],(decide p=true)=p)/\(∀ (p:Prop) [Decidable p],(decide p=false)=¬p)/\(∀ b:Bool,((!b)=true)=(b=false))/\(∀ b:Bool,((!b)=false)=(b=true)) /\
  (∀ {α:Type} (a b:α),(a≠b)=¬ a=b)/\(∀ (p:Prop) [Decidable p],(¬¬p)=p)/\(∀ a b:Int,(¬ a<b)=(b<=a))/\(∀ a b:Int,(¬ a<=b)=(b<a)) :=
 ⟨fun _ _=>b6L,fun _ _=>by simp_all,fun b=>by simp_all,fun b=>by simp_all,fun _ _=>rfl,fun _ _=>by simp_all,fun _ _=>by simp_all,fun _ _=>by simp_all⟩
theorem e3k:(∀ b:Bool,((!b)=true)=(b=false))/\(∀ b:Bool,((!b)=false)=(b=true)):=⟨fun b=>by simp_all,fun b=>by simp_all⟩
theorem bT {p:Bool} (h:p=true):Value.bool p=.bool true:=congrArg _ h
theorem bF {p:Bool} (h:p=false):Value.bool p=.bool false:=congrArg _ h
theorem nF {p:Bool} (h:p=false):Value.bool (!p)=.bool true:=by rw [h]; rfl
section
variable {P:Program} {n:Nat} {c:Code} {Q:Exit->Fr->World->Prop} {f:Fr} {w:World}
end
theorem a6a {cs c:List Value} (h:c.length=cs.length):x7 cs 0 c=c:=by
 have:=Y1 c [] cs [] h.symm
 simp_all
section
variable {P:Program} {n:Nat} {ops:List Oper} {Q:Exit->Fr->World->Prop} {rest:List Oper} {f:Fr} {w:World} {d:Nat} {v zv:Value} {T E ty:TypeId} {info:TypeInfo} {pos:String} {after:Array Edge} {x y:Operand} {a:Int}
end
def a79 (pl:List (Nat×Nat)) (cs:List Value):List (Nat×Value)->List Value
 | []=>cs
 | (i,v)::r=>a79 pl (x7 cs (pl.getD i (0,0)).1 v.cells.toList) r
def a5g (pl:List (Nat×Nat)) (n:Nat):List (Nat×Value)->Bool
 | []=>true
 | (i,v)::r=>Nat.blt i pl.length && Nat.beq v.cells.size (pl.getD i (0,0)).2 && Nat.ble ((pl.getD i (0,0)).1+v.cells.size) n && a5g pl n r
theorem b4h {pl:Array (Nat×Nat)}:∀ (ps:List (Nat×Value)) (cs:Array Value),a5g pl.toList cs.size ps=true->Instr.fill (pl[·]?) cs ps=some (a79 pl.toList cs.toList ps).toArray:=by
 intro ps
 induction ps with
 | nil=>intro cs _; simp [Instr.fill,a79]
 | cons p r ih =>
  obtain ⟨i,v⟩:=p
  intro cs h
  simp only [a5g,b3R] at h
  obtain ⟨⟨⟨h1,h2⟩,h3⟩,h4⟩:=h
  have hi:i<pl.size:=by have:=D3 h1; simpa using this
  have hp:pl[i]?=some pl[i]:=by simp [hi]
  have hd:pl.toList.getD i (0,0)=pl[i]:=by simp [b5V,hi]
  rw [hd] at h2 h3
  have h2':=b3Q h2
  have h3':=b4T h3
  simp only [Instr.fill,hp]
  rw [if_neg (by simp_all)]
  have hf:(v.cells.zipIdx.foldl (fun cs (c,j)=>cs.setIfInBounds (pl[i].1+j) c) cs)=(x7 cs.toList pl[i].1 v.cells.toList).toArray:=by
   apply b7L
   rw [<- Array.foldl_toList,Array.toList_zipIdx]
   have:=b0j (cs:=#[]) v.cells.toList 0 pl[i].1 cs
   rw [this]; simp
  rw [hf,ih _ (by simpa [E9] using h4)]
  simp only [a79,hd]
section
variable {P:Program} {m:Bool} {n:Nat} {ops:List Oper} {Q:Exit->Fr->World->Prop} {rest:List Oper} {f:Fr} {w:World} {d:Nat} {zv:Value} {T ty:TypeId} {pos:String} {after:Array Edge} {fs:Array Field}
theorem b2f {ps:Array (Nat×Operand)} {pl:Array (Nat×Nat)} {cs:List Value} (hT:∀ w,(underlying T).run P w=.ok (.struct fs) w) (hz:∀ w,(zeroValue T).run P w=.ok zv w)
  (hpl:∀ w,(fs.mapM fun (fd:Field)=>do pure (fd.offset,<- sizeOf fd.type)).run P w=.ok pl w) (hok:a5g pl.toList zv.cells.size (ps.toList.map fun p=>(p.1,ev f p.2))=true) (hcs:a79 pl.toList zv.cells.toList (ps.toList.map fun p=>(p.1,ev f p.2))=cs) (hn:Nat.blt d n=true)
  (K:WL P m n ops Q rest (upd f d (.agg cs.toArray)) w):WL P m n ops Q (⟨some d,.build T ps,ty,pos,after,none⟩::rest) f w :=
 n7 rfl rfl hn (v:=.agg cs.toArray) (fun w1 _=>by
  subst hcs
  have hmap:(ps.map fun p=>(p.1,ev f p.2)).toList=ps.toList.map fun p=>(p.1,ev f p.2):=by simp
  have hf:=b4h _ _ hok
  simp only [execOp,Instr.build,b3S,hz,hT,b3O]
  simp_all) K
end
section
variable {P:Program} {m:Bool} {n:Nat} {ops:List Oper} {Q:Exit->Fr->World->Prop} {rest:List Oper} {f:Fr} {w:World} {d:Nat} {T E T' ty:TypeId} {pos:String} {after:Array Edge} {x y:Operand} {α:Type} {enc:α->Value} {b:Nat} {L:List α} {k:IntKind}
end
end Go.Wk
end
section
namespace Go.Wk
open Go
section
variable {P:Program} {n:Nat} {l:List Oper} {Q:Exit->Fr->World->Prop} {f0:Fr}
theorem c07 {ro:Option Nat} {ds:List Deferred} {i:Nat} {o:Oper} (ho:l[i]?=some o) {g:Fr} {w w1:World} {a:Act} {S:Fr->World->Prop} {K:Act->World->Prop} {QQ:Exit->Act->World->Prop} (ha:Is a g n) (hds:a.defers=ds) (hs:Sim w w1)
  (h:WL P false n l (fun e g' w'=>e=.normal/\S g' w') [o] g w) (k:∀ g' w' a' w2,S g' w'->Is a' g' n->a'.defers=ds->Sim w' w2->K a' w2):wpOpIn (R7 ro) 0 P l.toArray QQ i K a w1:=by
 unfold wpOpIn
 simp only [b5B,ho]
 have h:=h a w1 ha hs ro
 rw [hds] at h
 unfold wpListIn at h
 have kk:∀ a' w2,lift n ds (fun e g' w'=>e=.normal/\S g' w') .normal a' w2->K a' w2:=by
  rintro a' w2 ⟨g',w',hg,hd,hv,_,q⟩
  exact k g' w' a' w2 q hg hd hv
 have no:∀ e a' w2,lift n ds (fun e g' w'=>e=.normal/\S g' w') e a' w2->e=.normal:=by
  rintro e a' w2 ⟨g',w',hg,hd,hv,q,_⟩; exact q
 split
 . rename_i hw
   rw [if_pos hw] at h
   unfold Oper.wpIn at h ⊢
   refine ⟨h.1,?_⟩
   have h:=h.2
   generalize (o.semAt (R7 ro).round a.eval).run P w1=r at h ⊢
   unfold Oper.uponIn at h ⊢
   split at h
   . exact kk _ _ h
   . exact kk _ _ h
   . exact kk _ _ h
   . refine ⟨h.1,CallsIn.mono h.2 ?_⟩
     intro e w2 q
     cases e with
     | returned v=>exact kk _ _ q
     | panicked c=>grind
     | outgrown=>obtain ⟨a',w3,q⟩:=q; grind
   . exact ⟨h.1,RowsIn.mono h.2 fun v w2 q=>kk _ _ q⟩
   . refine ⟨h.1,RoundIn.mono h.2 ?_⟩
     intro e w2 q
     cases e with
     | returned v=>exact kk _ _ q
     | panicked c=>grind
     | outgrown=>obtain ⟨a',w3,q⟩:=q; grind
   all_goals grind
 . rename_i hw
   rw [if_neg hw] at h
   exact ⟨fun _ _=>trivial,kk _ _ h.2⟩
def X9 (ms:List Nat) (i t:Nat):List Oper->Nat->Bool
 | [],_=>true
 | o::r,j=>(match o.dst with | some d=>!Nat.beq d t || Nat.beq j i || (ms.getD j 0).testBit i | none=>true) && X9 ms i t r (j+1)
theorem b4o {ms:List Nat} {i t:Nat}:∀ {r:List Oper} {k:Nat},(∀ x,r[x]?=l[k+x]?)->X9 ms i t r k=true->∀ j,k<=j->q8 l j=some t->j=i ∨ (ms.getD j 0).testBit i=true:=by
 intro r
 induction r with
 | nil =>
  intro k hr _ j hkj hj
  obtain ⟨o,ho,_⟩:=a0f hj
  have:=hr (j-k)
  simp_all
 | cons o r ih =>
  intro k hr h j hkj hj
  unfold X9 at h
  rw [b3R] at h
  by_cases e:j=k
  . subst e
    have h0:=hr 0
    simp at h0
    have:o.dst=some t:=by rw [<- M1 h0.symm]; exact hj
    simp_all
  . exact ih (k:=k+1) (fun x=>by have:=hr (x+1); grind) h.2 j (by omega) hj
def a97:List Oper->List Nat->Bool
 | [],_=>true
 | o::r,seen=>match o.dst with | some d=>!seen.elem d && a97 r (d::seen) | none=>a97 r seen
theorem c30:∀ {l:List Oper} {seen:List Nat},a97 l seen=true->(∀ (j t:Nat),q8 l j=some t->t ∉ seen)/\(∀ (i j t:Nat),q8 l i=some t->q8 l j=some t->i=j):=by
 intro l
 induction l with
 | nil=>intro seen _; exact ⟨fun j t h=>by simp [q8] at h,fun i j t h=>by simp [q8] at h⟩
 | cons o r ih =>
  intro seen h
  unfold a97 at h
  cases hd:o.dst with
  | none =>
   rw [hd] at h
   have ⟨h1,h2⟩:=ih h
   refine ⟨fun j t hj=>?_,fun i j t hi hj=>?_⟩
   . cases j with
     | zero=>simp [q8,hd] at hj
     | succ j=>exact h1 j t hj
   . cases i with
     | zero=>simp [q8,hd] at hi
     | succ i=>cases j with
      | zero=>simp [q8,hd] at hj
      | succ j=>rw [h2 i j t hi hj]
  | some d =>
   rw [hd] at h
   simp only [b3R] at h
   have hns:d ∉ seen:=by have:=h.1; simp at this; exact this
   have ⟨h1,h2⟩:=ih h.2
   refine ⟨fun j t hj=>?_,fun i j t hi hj=>?_⟩
   . cases j with
     | zero=>simp [q8,hd] at hj; simp_all
     | succ j=>have:=h1 j t hj; simp_all
   . cases i with
     | zero =>
      cases j with
      | zero=>rfl
      | succ j=>simp [q8,hd] at hi; subst hi; have:=h1 j _ hj; simp at this
     | succ i=>cases j with
      | zero=>simp [q8,hd] at hj; subst hj; have:=h1 i _ hi; simp at this
      | succ j=>rw [h2 i j t hi hj]
def b18 (S:List Nat) (n:Nat):List Oper->Bool
 | []=>true
 | o::r=>(match o.dst with | some d=>S.elem d && Nat.blt d n | none=>true) && b18 S n r
theorem c3l {S:List Nat}:∀ {l:List Oper},b18 S n l=true->∀ j t,q8 l j=some t->S.elem t=true/\t<n:=by
 intro l
 induction l with
 | nil=>intro _ j t h; simp [q8] at h
 | cons o r ih =>
  intro h j t hj
  unfold b18 at h
  rw [b3R] at h
  cases j with
  | zero =>
   have hj:o.dst=some t:=hj
   simp_all
  | succ j=>exact ih h.2 j t hj
theorem u7 {o:Oper} {g:Fr} {w:World} {L:List (Nat×Value)} {R:Value->World->Prop} (h:M5 g L) (k:WL P false n l (fun e g' w'=>e=.normal/\∃ v,g'=M0 (a0p g L) o.dst v/\R v w') [o] (a0p g L) w) :
  WL P false n l (fun e g' w'=>e=.normal/\∃ v,g'=M0 g o.dst v/\R v w') [o] g w:=by
 rwa [h.eq] at k
end
end Go.Wk
end
section
namespace Go.Wk
open Go Go.ChangeShapes Go.WideShapes Go.RowKit
def e5a {α:Type} (P:Program) (t:TypeId) (r:Rep α):Prop :=
 ∀ {H:Type} {enc:TypeId×Value->H} {fuel:Nat} {w:World} {sp:Nat->Bool} {cs:List Value} {x:DataW H×List MemPlace},DataW.trod enc P w 0 sp true fuel t cs=some x->∃ y,r.rd [] w cs y
section
variable {P:Program} {t e:TypeId}
theorem e1e {n:Int} (h:(Lit.int .i64 n).wf=true):InI n:=by
 simp [Lit.wf,IntKind.min,IntKind.max,IntKind.signed,IntKind.bits] at h
 exact ⟨by omega,by omega⟩
theorem c4e (ht:P.underlying t=some .string):e5a P t e7w:=fun h=>by
 obtain ⟨s,rfl,hx,hs⟩:=DataW.trod_string ht h
 refine ⟨s.data.toList,?_,?_⟩
 . show _=_
   unfold sv
   cases s; rfl
 . have:s.data.toList.length<=maxLen:=hs
   simp only [maxLen] at this
   omega
theorem b5q {w:World} {a:Addr} {n:Nat} {cs:List Value} (hn:0<n) (h:w.cells? 0 a n=some cs):a.spot=none/\cs.length=n/\x9 w a.block a.off cs:=by
 unfold World.cells? at h
 rw [if_pos (b6N _)] at h
 have hlen:cs.length=n:=by simpa using mapM_some_length h
 have hget:∀ i,i<n->w.cell? (a.add i)=cs[i]? := fun i hi=>mapM_some_get h i i (by simp [hi])
 have h0:=hget 0 hn
 rw [b3T (by omega)] at h0
 have hspot:a.spot=none:=by simpa [Addr.add] using World.cell?_spot h0
 refine ⟨hspot,hlen,?_⟩
 obtain ⟨b,o,s⟩:=a
 simp only at hspot
 subst hspot
 simp only [Addr.add,if_true] at h0
 unfold World.cell? at h0
 cases hh:w.heap[b]? with
 | none=>simp_all
 | some ob =>
  cases ob with
  | cells C T z =>
   refine ⟨C,T,z,hh,fun j hj=>?_⟩
   have:=hget j (by omega)
   unfold World.cell? Addr.add at this
   grind
  | _=>simp [hh] at h0
theorem c2a {w:World} {R:Reach} {b0:Nat} {v:Value} (ht:P.underlying t=some (.slice e)) (h:Value.okWide P w R b0 t v):v.cells.toList=[v]:=by
 obtain ⟨a,n,c,rfl⟩:=okWide_slice ht h; simp [Value.cells]
theorem d2d {w:World} {R:Reach} {b0:Nat} {v:Value} {k:IntKind} (ht:P.underlying t=some (.int k)) (h:Value.okWide P w R b0 t v):v.cells.toList=[v]:=by
 obtain ⟨n,rfl⟩:=okWide_int ht h; simp [Value.cells]
theorem c72 {w:World} {R:Reach} {b0:Nat} {v:Value} (ht:P.underlying t=some .bool) (h:Value.okWide P w R b0 t v):v.cells.toList=[v]:=by
 simp only [Value.okWide,ht,Cell.okWide] at h
 cases v <;> simp_all [Cell.ok,Value.cells]
end
theorem a5k {α:Type} {cs:List α} {o a b:Nat}:(cs.drop o).take (a+b)=(cs.drop o).take a++(cs.drop (o+a)).take b:=by
 rw [List.take_add,b6R]
theorem d8o {α:Type} {cs:List α} {n:Nat} (h:cs.length=n):cs=(cs.drop 0).take n:=by grind
theorem a3a {P:Program} {H:Type} {enc:TypeId×Value->H} {W W':World} {sp:Nat->Bool} (hl:laidOutB P=true):∀ {ts:List TypeId} {vs:List Value} {ds:List (DataW H)} {ps:List MemPlace},(∀ t∈ts,P.readableRec t=true/\t<P.types.size) ->
  DataW.TrodAll enc P W 0 (fun _=>true) true ts vs ds ps->(∀ p∈ps,W.sameAt W' p)->(∀ p∈ps,sp p.block=true)->DataW.TrodAll enc P W' 0 sp true ts vs ds ps
 | [],[],[],_,_,h,_,_=>h
 | t::ts,v::vs,d::ds,ps,ht,⟨p,q,h1,h2,e⟩,hs,hsp=>⟨p,q,WideElems.Trod_stays hl (ht t (by simp)).1 (ht t (by simp)).2 h1 (fun x hx=>hs x (by simp_all)) (fun x hx=>hsp x (by simp_all)),
   a3a hl (fun u hu=>ht u (by simp [hu])) h2 (fun x hx=>hs x (by simp_all)) (fun x hx=>hsp x (by simp_all)),e⟩
theorem b9q {W W':World} (e:Ext [] W W') {b o:Nat} (hb:b<W.heap.size):W'.frozen? ⟨b,o,none⟩=W.frozen? ⟨b,o,none⟩:=by
 unfold World.frozen?
 rw [e.block b hb (by simp)]
theorem c9j {P:Program} {f:Func} {s:ChangeSpec} {tb:TypeId} {H:Type} {enc:TypeId×Value->H} {apart fresh handsOn again:Bool} {W W' W2:World} {args:Array Value} {ds gs:List (DataW H)} {before:List MemPlace}
  (hl:laidOutB P=true) (hr:∀ t∈f.params.toList,P.readableRec t=true/\t<P.types.size) (hrt:f.resultTypes=#[tb]) (htb:P.underlying tb=some .bool) (hvs:s.vars=[])
  (hfn:s.fn H (ds++gs)={ results:=[.lit (.bool true)],args:=ds }) (hW:DataW.Whole enc P f.params.toList s.vars apart W args.toList ds gs before) (e:Ext [] W W') (hs:Sim W' W2) :
  s.post enc P f apart fresh handsOn again W args (.bool true) W2:=by
 have e2:Ext [] W W2:=e.sim hs
 have hlt:=hW.lt
 have hold:∀ p∈before,(fun b=>decide (b<W.heap.size)) p.block=true:=fun p hp=>by simp_all
 obtain ⟨pa,pv,hA,hV,hps,hz,hn⟩:=hW
 have hV':=hV
 rw [hvs] at hV'
 obtain ⟨hg,hpv⟩:=trodVars_none hV'
 subst hg; subst hpv
 rw [b4M] at hps
 subst hps
 have hsame:∀ p∈before,W.sameAt W2 p:=fun p hp=>by
  cases p with
  | cell b off =>
   show W2.cell? _=W.cell? _
   unfold World.cell?
   rw [e2.block b (hlt _ hp) (by simp)]
  | map b=>exact e2.block b (hlt _ hp) (by simp)
 have hargs:∀ sp:Nat->Bool,(∀ p∈before,sp p.block=true)->DataW.TrodAll enc P W2 0 sp true f.params.toList args.toList ds before:=fun sp hsp=>a3a hl hr hA hsame hsp
 have hres:∀ (b:Nat) (sp:Nat->Bool) (hd:Bool),DataW.TrodAll enc P W2 b sp hd f.resultTypes.toList ((Value.bool true).resultList f.resultTypes.size) [.lit (.bool true)] []:=fun b sp hd=>by
  rw [hrt]; exact trodAll_mk1 (shut_bool htb _)
 have hvars:∀ sp:Nat->Bool,DataW.TrodVars enc P W2 sp s.vars [] []:=fun sp=>by rw [hvs]; rfl
 have hok:∀ (j:Nat) (t:TypeId) (r:Value),f.resultTypes[j]?=some t->((Value.bool true).resultList f.resultTypes.size)[j]?=some r->Value.okWide P W2 .any 0 t r:=ok_one hrt rfl (okWide_bool_mk htb _)
 refine ⟨ds,[],before,[],before,[],⟨before,[],hA,hV,by simp,hz,hn⟩,by grind,by simp_all,by simp_all,e2.below.frame _,fun _=>?_⟩
 refine ⟨hok,_,_,([]++before)++[],⟨[]++before,[],trodAll_append (hargs _ (fun _ _=>rfl)) (hres _ _ _),hvars _,rfl,?_,?_⟩,?_⟩
 . intro b off hp
   have hp':MemPlace.cell b off∈before:=by simpa using hp
   rw [b9q e2 (show b<W.heap.size from hlt _ hp')]
   exact hz b off hp'
 all_goals simp_all
theorem c2c {P:Program} {K:FuncId} {f:Func} {s:ChangeSpec} {tb:TypeId} {H:Type} {enc:TypeId×Value->H} {apart fresh handsOn again:Bool} {W:World} {args:Array Value} {ds gs:List (DataW H)} {before:List MemPlace}
  (hl:laidOutB P=true) (hr:∀ t∈f.params.toList,P.readableRec t=true/\t<P.types.size) (hrt:f.resultTypes=#[tb]) (htb:P.underlying tb=some .bool) (hvs:s.vars=[])
  (hfn:s.fn H (ds++gs)={ results:=[.lit (.bool true)],args:=ds }) (hW:DataW.Whole enc P f.params.toList s.vars apart W args.toList ds gs before)
  (h:A6 P K args.toList W fun v w'=>v=.bool true/\Ext [] W w') :
  Calls P K args W fun e W'=>∃ v,e=.returned v/\s.post enc P f apart fresh handsOn again W args v W':=by
 have hc:=h W (Sim.refl W)
 simp only [b9D] at hc
 refine b6O hc ?_
 rintro e W2 ⟨_,w',rfl,hs,rfl,hx⟩
 exact ⟨_,rfl,c9j hl hr hrt htb hvs hfn hW hx hs⟩
end Go.Wk
end
section
namespace Go.Wk
open Go
theorem b0m (s:Str):(⟨s.toArray⟩:ByteArray).toList=s:=by
 simp_all
theorem W8 (s:Str):(⟨s.toArray⟩:ByteArray).size=s.length:=by simp [ByteArray.size]
theorem c49 (s t:Str):(⟨s.toArray⟩:ByteArray)++⟨t.toArray⟩=⟨(s++t).toArray⟩:=by
 apply b9A
 simp
section
variable {P:Program} {m:Bool} {n:Nat} {ops:List Oper} {Q:Exit->Fr->World->Prop} {rest:List Oper} {f:Fr} {w:World} {d:Nat} {T T' ty:TypeId} {pos:String} {after:Array Edge} {x y:Operand} {s t:Str}
theorem e2c (hx:ev f x=sv s) (hy:ev f y=sv t) (hn:Nat.blt d n=true) (K:WL P m n ops Q rest (upd f d (.bool (decide (s=t)))) w) :
  WL P m n ops Q (⟨some d,.binOp .eql T x y T',ty,pos,after,none⟩::rest) f w :=
 n7 rfl rfl hn (v:=.bool (decide (s=t))) (fun _ _=>by
  simp only [sv] at hx hy
  simp [execOp,hx,hy,eqGuard,binOp,go_sem,Op.stringOp,b0m]
  grind) K
theorem d9l (hx:ev f x=sv s) (hy:ev f y=sv t) (hn:Nat.blt d n=true) (K:WL P m n ops Q rest (upd f d (.bool (decide (s≠t)))) w) :
  WL P m n ops Q (⟨some d,.binOp .neq T x y T',ty,pos,after,none⟩::rest) f w :=
 n7 rfl rfl hn (v:=.bool (decide (s≠t))) (fun _ _=>by
  simp only [sv] at hx hy
  simp [execOp,hx,hy,eqGuard,binOp,go_sem,Op.stringOp,b0m]
  grind) K
theorem e00 (hx:ev f x=sv s) (hy:ev f y=sv t) (hl:s.length+t.length<=9223372036854775807) (hn:Nat.blt d n=true) (K:WL P m n ops Q rest (upd f d (sv (s++t))) w) :
  WL P m n ops Q (⟨some d,.binOp .add T x y T',ty,pos,after,none⟩::rest) f w :=
 n7 rfl rfl hn (v:=sv (s++t)) (fun _ _=>by
  simp only [sv] at hx hy ⊢
  have h1:¬ (((⟨s.toArray⟩:ByteArray).size+(⟨t.toArray⟩:ByteArray).size:Nat):Int) > IntKind.i64.max:=by
   rw [W8,W8]
   have:IntKind.i64.max=9223372036854775807:=by decide
   omega
  simp only [execOp,hx,hy,binOp,Op.stringOp,if_neg h1,c49]
  simp [eqGuard,go_sem]) K
end
end Go.Wk
end
section
namespace Go.Wk
open Go
section
variable {P:Program} {n:Nat} {ops:List Oper} {Q:Exit->Fr->World->Prop} {rest:List Oper} {f:Fr} {w:World} {d:Nat} {T T' ty A:TypeId} {pos:String} {after:Array Edge} {x y:Operand} {t t':TypeId} {u v zv:Value} {k:IntKind} {a b:Int} {m:Bool} {info:TypeInfo} {ms want:Array (String×TypeId)}
theorem J1 {X:TypeDesc} (hT:∀ w,(underlying T).run P w=.ok X w) (hX:(match X with | .interface _=>false | _=>true)=true) (hv:ev f x=v) (hn:Nat.blt d n=true) (K:WL P m n ops Q rest (upd f d (.iface T v)) w) :
  WL P m n ops Q (⟨some d,.makeInterface T x,ty,pos,after,none⟩::rest) f w :=
 n7 rfl rfl hn (v:=.iface T v) (fun w1 _=>by
  subst hv
  simp only [execOp,Instr.makeInterface,b3S,hT,b3O]
  cases X <;> first | rfl | (simp at hX)) K
theorem a95 (hT:∀ w,(underlying T).run P w=.ok (.interface ms) w) (w:World):(Op.equal T .nilIface .nilIface).run P w=.ok true w:=by
 have h:∀ d,(Op.equalIn (d+1) T .nilIface .nilIface).run P w=.ok true w:=fun d=>by
  unfold Op.equalIn; rw [b3S,hT,b3O]; rfl
 exact h 9999
theorem O3 (hT:∀ w,(underlying T).run P w=.ok (.interface ms) w) (w:World):(Op.equal T (.iface t v) .nilIface).run P w=.ok false w:=by
 have h:∀ d,(Op.equalIn (d+1) T (.iface t v) .nilIface).run P w=.ok false w:=fun d=>by
  unfold Op.equalIn; rw [b3S,hT,b3O]; rfl
 exact h 9999
theorem a7T (hT:∀ w,(underlying T).run P w=.ok (.interface ms) w) (w:World):(Op.equal T .nilIface (.iface t v)).run P w=.ok false w:=by
 have h:∀ d,(Op.equalIn (d+1) T .nilIface (.iface t v)).run P w=.ok false w:=fun d=>by
  unfold Op.equalIn; rw [b3S,hT,b3O]; rfl
 exact h 9999
theorem e2h (hT:∀ w,(underlying T).run P w=.ok (.interface ms) w) (hx:ev f x=.iface t v) (hn:Nat.blt d n=true) (K:WL P m n ops Q rest (upd f d (.bool true)) w) :
  WL P m n ops Q (⟨some d,.binOp .neq T x (.const .nilIface) T',ty,pos,after,none⟩::rest) f w :=
 n7 rfl rfl hn (v:=.bool true) (fun w1 _=>by
  have hy:ev f (.const .nilIface)=Value.nilIface:=rfl
  simp [execOp,hx,hy,eqGuard,binOp,go_sem,O3 hT]) K
theorem d4i (hT:∀ w,(underlying T).run P w=.ok (.interface ms) w) (hx:ev f x=.nilIface) (hn:Nat.blt d n=true) (K:WL P m n ops Q rest (upd f d (.bool false)) w) :
  WL P m n ops Q (⟨some d,.binOp .neq T x (.const .nilIface) T',ty,pos,after,none⟩::rest) f w :=
 n7 rfl rfl hn (v:=.bool false) (fun w1 _=>by
  have hy:ev f (.const .nilIface)=Value.nilIface:=rfl
  simp [execOp,hx,hy,eqGuard,binOp,go_sem,a95 hT]) K
theorem a9X (hT:∀ w,(underlying T).run P w=.ok (.interface ms) w) (hI:∀ w,(typeInfo t).run P w=.ok info w) (hc:info.comparable=true) (hU:∀ w,(underlying t).run P w=.ok (.int k) w) (w:World) :
  (Op.equal T (.iface t (.int k a)) (.iface t (.int k b))).run P w=.ok (decide (a=b)) w:=by
 have h:∀ d,(Op.equalIn (d+2) T (.iface t (.int k a)) (.iface t (.int k b))).run P w=.ok (decide (a=b)) w:=fun d=>by
  unfold Op.equalIn; rw [b3S,hT,b3O]
  simp only [ne_eq,b8U,if_false,b3S,hI,b3O,hc,Bool.not_true,b5M]
  unfold Op.equalIn; rw [b3S,hU,b3O]
  simp only [if_true,b4E]
  congr 1
 exact h 9998
end
end Go.Wk
end
section
namespace Go.Wl
open Go Go.Wk
structure Rd (α:Type) where
 sz:Nat
 rd:(Nat->Prop)->World->List Value->α->Prop
 len:∀ {D w cs x},rd D w cs x->cs.length=sz
 mono:∀ {D D' B w w' cs x},rd D w cs x->Ext B w w'->(∀ b∈B,D b->w.heap.size<=b)->(∀ b,D b->b<w.heap.size->D' b)->rd D' w' cs x
 plain:∀ {D w cs x},rd D w cs x->cs.all A2=true
section
variable {α β:Type} {D D':Nat->Prop} {B:List Nat} {w w':World} {cs:List Value}
theorem Rd.ext (r:Rd α) {x:α} (h:r.rd D w cs x) (e:Ext [] w w'):r.rd D w' cs x:=r.mono h e (fun _ hb=>by cases hb) (fun _ h _=>h)
theorem Rd.a2T (r:Rd α) {x:α} (h:r.rd D w cs x) (hD:∀ b,D b->b<w.heap.size->D' b):r.rd D' w cs x:=r.mono h (Ext.refl [] w) (fun _ hb=>by cases hb) hD
end
def G2:Rd Int where
 sz:=1
 rd:=fun _ _ cs x=>cs=[.int .i64 x]/\InI x
 len:=fun h=>by rw [h.1]; rfl
 mono:=fun h _ _ _=>h
 plain:=fun h=>by rw [h.1]; rfl
def d5q:Rd Bool where
 sz:=1
 rd:=fun _ _ cs x=>cs=[.bool x]
 len:=fun h=>by rw [h]; rfl
 mono:=fun h _ _ _=>h
 plain:=fun h=>by rw [h]; rfl
def bv (c:UInt8):Value:=.int .u8 c.toNat
def n5:Rd UInt8 where
 sz:=1
 rd:=fun _ _ cs x=>cs=[bv x]
 len:=fun h=>by rw [h]; rfl
 mono:=fun h _ _ _=>h
 plain:=fun h=>by rw [h]; rfl
def a09:Rd Str where
 sz:=1
 rd:=fun _ _ cs s=>cs=[sv s]/\s.length<=9223372036854775807
 len:=fun h=>by rw [h.1]; rfl
 mono:=fun h _ _ _=>h
 plain:=fun h=>by rw [h.1]; rfl
def C6 (n:Nat):Rd Str where
 sz:=n
 rd:=fun _ _ cs s=>cs=s.map bv/\s.length=n
 len:=fun h=>by simp_all
 mono:=fun h _ _ _=>h
 plain:=fun h=>by rw [h.1]; simp [bv,A2]
def q9 {α:Type} (r:Rd α):Rd (List α) where
 sz:=1
 rd:=fun D w cs l=>l.length<=9223372036854775807/\∃ A cap,cs=[.slice A l.length cap]/\((A=none->cap=0)/\l.length<=cap)/\∀ i (h:i<l.length),∃ b o c,A=some ⟨b,o,none⟩/\D b/\x9 w b (o+i * r.sz) c/\r.rd D w c l[i]
 len:=fun ⟨_,A,cap,e,_⟩=>by rw [e]; rfl
 mono:=fun ⟨hl,A,cap,e,h0,h⟩ hx hB hD=>⟨hl,A,cap,e,h0,fun i hi=>by
  obtain ⟨b,o,c,e1,hb,hc,hr⟩:=h i hi
  have hlt:=hc.lt
  exact ⟨b,o,c,e1,hD b hb hlt,hc.ext hx (fun hm=>by grind),r.mono hr hx hB hD⟩⟩
 plain:=fun ⟨_,A,cap,e,_⟩=>by rw [e]; rfl
def Sub {α β:Type} (r:Rd α) (o:Nat) (s:Rd β) (g:α->β):Prop:=o+s.sz<=r.sz/\∀ {D w cs x},r.rd D w cs x->s.rd D w ((cs.drop o).take s.sz) (g x)
theorem Sub.self {α:Type} (r:Rd α):Sub r 0 r (fun x=>x):=⟨by omega,fun h=>by
 have:=r.len h
 grind⟩
section
variable {α:Type} {r:Rd α} {D:Nat->Prop} {w:World}
theorem a0z {v:Value} {l:List α} (h:(q9 r).rd D w [v] l):l.length<=9223372036854775807:=h.1
theorem J7 {v:Value} {l:List α} (h:(q9 r).rd D w [v] l):∃ A cap,v=.slice A l.length cap:=by
 obtain ⟨_,A,cap,e,_⟩:=h; simp_all
theorem V1:(q9 r).rd D w [.slice none 0 0] []:=⟨by simp,none,0,rfl,⟨fun _=>rfl,by simp⟩,fun i hi=>by simp at hi⟩
theorem M3 {A:Option Addr} {cap:Nat} {l:List α} (h:(q9 r).rd D w [.slice A l.length cap] l) {i:Nat} (hi:i<l.length):∃ b o c,A=some ⟨b,o,none⟩/\D b/\x9 w b (o+i * r.sz) c/\r.rd D w c l[i]:=by
 obtain ⟨_,A',cap',e,_,h⟩:=h
 simp_all
end
def ix {α:Type} [Inhabited α] (l:List α) (i:Int):α:=l.getD i.toNat default
theorem C5 {α:Type} [Inhabited α] {l:List α} {i:Int} (h:i.toNat<l.length):ix l i=l[i.toNat]:=by simp [ix,b5V,h]
def eA:Option Addr->Nat->Addr
 | some ⟨b,o,_⟩,k=>⟨b,o+k,none⟩
 | none,k=>⟨0,k,none⟩
theorem c8z (A:Option Addr) (k j:Nat):(eA A k).add j=eA A (k+j):=by
 unfold Addr.add
 split
 . simp_all
 . cases A with
   | none=>simp [eA]
   | some a=>obtain ⟨b,o,s⟩:=a; simp [eA,b8E]
structure It where
 F:List Nat
 O:List Nat
 P:(Nat->Prop)->World->Prop
def It.a2B (t:It):Prop:=∀ (Z Z':Nat->Prop) (B:List Nat) (w w':World),t.P Z w->Ext B w w'->(∀ b∈B,(b∈t.F ∨ Z b)->w.heap.size<=b)->(∀ b,Z b->Z' b)->t.P Z' w'
structure It.Ok (B0:List Nat) (w0:World) (Z:Nat->Prop) (w:World) (t:It):Prop where
 holds:t.P Z w
 a1L:t.a2B
 lt:∀ b∈t.F,b<w.heap.size
 a1X:∀ b∈t.F,¬ Z b
 org:∀ b∈t.F,b∈t.O ∨ w0.heap.size<=b
 a3L:∀ b∈t.O,b∈B0
structure Sep (B0:List Nat) (w0:World) (Z:Nat->Prop) (w:World) (l:List It):Prop where
 ext:Ext B0 w0 w
 zlt:∀ b,Z b->b<w.heap.size
 ok:∀ (k:Nat) (t:It),l[k]?=some t->t.Ok B0 w0 Z w
 apart:∀ (j k:Nat) (s t:It),l[j]?=some s->l[k]?=some t->j≠k->∀ b∈s.F,b ∉ t.F
section
variable {B0:List Nat} {w0 w w':World} {Z Z':Nat->Prop} {l:List It} {t t' s s':It} {k j:Nat}
theorem Sep.nil (zlt:∀ b,Z b->b<w0.heap.size):Sep B0 w0 Z w0 []:=⟨Ext.refl _ _,zlt,fun k t h=>by simp at h,fun j k s t h=>by simp at h⟩
theorem Sep.at (hs:Sep B0 w0 Z w l) (k:Nat) (hk:l[k]?=some t):t.P Z w:=(hs.ok k t hk).holds
theorem Sep.nz (hs:Sep B0 w0 Z w l) (k:Nat) (hk:l[k]?=some t):∀ b∈t.F,¬ Z b:=(hs.ok k t hk).a1X
theorem Sep.lt (hs:Sep B0 w0 Z w l) (k:Nat) (hk:l[k]?=some t):∀ b∈t.F,b<w.heap.size:=(hs.ok k t hk).lt
theorem Sep.org (hs:Sep B0 w0 Z w l) (k:Nat) (hk:l[k]?=some t):∀ b∈t.F,b∈t.O ∨ w0.heap.size<=b:=(hs.ok k t hk).org
theorem Sep.ap (hs:Sep B0 w0 Z w l) (j k:Nat) (hj:l[j]?=some s) (hk:l[k]?=some t) (h:Nat.beq j k=false):∀ b∈s.F,b ∉ t.F:=hs.apart j k s t hj hk (fun e=>by simp_all)
theorem Sep.a9Z (hs:Sep B0 w0 Z w0 l) (h:t.P Z w0) (st:t.a2B) (hlt:∀ b∈t.F,b<w0.heap.size) (hZ:∀ b∈t.F,¬ Z b) (hO:t.O=t.F) (hB:∀ b∈t.F,b∈B0) (ha:∀ (k:Nat) (s:It),l[k]?=some s->∀ b∈t.F,b ∉ s.F):Sep B0 w0 Z w0 (t::l) :=
 ⟨hs.ext,hs.zlt,fun k s hk=>by
  cases k with
  | zero=>simp at hk; subst hk; exact ⟨h,st,hlt,hZ,fun b hb=>.inl (by simp_all),fun b hb=>hB b (by simp_all)⟩
  | succ k=>exact hs.ok k s (by simp_all),fun j k s u hj hk hne=>by
  cases j with
  | zero =>
   grind
  | succ j =>
   cases k with
   | zero=>grind
   | succ k=>exact hs.apart j k s u (by simp_all) (by simp_all) (by omega)⟩
theorem Sep.b3M (hs:Sep B0 w0 Z w l) (k:Nat) (hk:l[k]?=some t) (e:Ext t.F w w') (h:t'.P Z' w') (st:t'.a2B) (hF:∀ b∈t'.F,(b∈t.F ∨ w.heap.size<=b)/\b<w'.heap.size/\¬ Z' b) (hZ:∀ b,Z b->Z' b) (hZ':∀ b,Z' b->Z b ∨ (w.heap.size<=b/\b<w'.heap.size)) (hO:t'.O=t.O) :
  Sep B0 w0 Z' w' (l.set k t'):=by
 have ok:=hs.ok k t hk
 have hsz:=hs.ext.size
 have hkl:k<l.length:=by
  rcases b5N k l.length with h | h
  . exact h
  . simp_all
 have old:∀ (j:Nat) (s:It),l[j]?=some s->∀ b∈s.F,b<w.heap.size:=fun j s hj=>(hs.ok j s hj).lt
 refine ⟨hs.ext.trans e (fun x hx=>.inl hx) (fun x hx=>?_),fun b hb=>?_,fun j s hj=>?_,fun i j s u hi hj hne=>?_⟩
 . rcases ok.org x hx with h | h
   . exact .inl (ok.a3L x h)
   omega
 . rcases hZ' b hb with h | h
   . have:=hs.zlt b h; have:=e.size; omega
   . exact h.2
 . by_cases hjk:j=k
   . subst hjk
     rw [b4Z hkl] at hj; cases hj
     refine ⟨h,st,fun b hb=>(hF b hb).2.1,fun b hb=>(hF b hb).2.2,fun b hb=>?_,fun b hb=>ok.a3L b (by simp_all)⟩
     rw [hO]
     rcases (hF b hb).1 with h | h
     . exact ok.org b h
     omega
   . rw [b5H (b6D hjk)] at hj
     have o:=hs.ok j s hj
     refine ⟨o.a1L Z Z' t.F w w' o.holds e (fun b hb hb'=>?_) hZ,o.a1L,fun b hb=>by have:=o.lt b hb; have:=e.size; omega,fun b hb hz=>?_,o.org,o.a3L⟩
     . rcases hb' with h | h
       . exact absurd h (hs.apart k j t s hk hj (b6D hjk) b hb)
       . exact absurd h (ok.a1X b hb)
     . rcases hZ' b hz with h | h
       . exact o.a1X b hb h
       grind
 . by_cases hik:i=k
   . subst hik
     rw [b4Z hkl] at hi; cases hi
     rw [b5H hne] at hj
     intro b hb hb'
     rcases (hF b hb).1 with h | h
     . exact hs.apart i j t u hk hj hne b h hb'
     grind
   . rw [b5H (b6D hik)] at hi
     by_cases hjk:j=k
     . subst hjk
       rw [b4Z hkl] at hj; cases hj
       intro b hb hb'
       rcases (hF b hb').1 with h | h
       . exact hs.apart i j s t hi hk hne b hb h
       grind
     . rw [b5H (b6D hjk)] at hj
       exact hs.apart i j s u hi hj hne
theorem Sep.upd (hs:Sep B0 w0 Z w l) (k:Nat) (hk:l[k]?=some t) (e:Ext t.F w w') (h:t'.P Z w') (st:t'.a2B) (hF:∀ b∈t'.F,(b∈t.F ∨ w.heap.size<=b)/\b<w'.heap.size) (hO:t'.O=t.O):Sep B0 w0 Z w' (l.set k t') :=
 hs.b3M k hk e h st (fun b hb=>⟨(hF b hb).1,(hF b hb).2,fun hz=>by
  rcases (hF b hb).1 with h | h
  . exact (hs.ok k t hk).a1X b h hz
  . have:=hs.zlt b hz; omega⟩) (fun _ h=>h) (fun _ h=>.inl h) hO
theorem Sep.b3E (hs:Sep B0 w0 Z w l) (e:Ext [] w w') (hZ:∀ b,Z b->Z' b) (hZ':∀ b,Z' b->Z b ∨ (w.heap.size<=b/\b<w'.heap.size)):Sep B0 w0 Z' w' l :=
 ⟨hs.ext.trans e (fun x hx=>.inl hx) (fun x hx=>by cases hx),fun b hb=>by
  rcases hZ' b hb with h | h
  . have:=hs.zlt b h; have:=e.size; omega
  . exact h.2,fun j s hj=>by
  have o:=hs.ok j s hj
  refine ⟨o.a1L Z Z' [] w w' o.holds e (fun b hb=>by cases hb) hZ,o.a1L,fun b hb=>by have:=o.lt b hb; have:=e.size; omega,fun b hb hz=>?_,o.org,o.a3L⟩
  rcases hZ' b hz with h | h
  . exact o.a1X b hb h
  . have:=o.lt b hb; omega,hs.apart⟩
theorem Sep.step (hs:Sep B0 w0 Z w l) (e:Ext [] w w'):Sep B0 w0 Z w' l:=hs.b3E e (fun _ h=>h) (fun _ h=>.inl h)
theorem Sep.add (hs:Sep B0 w0 Z w l) (e:Ext [] w w') (h:t.P Z w') (st:t.a2B) (hF:∀ b∈t.F,w.heap.size<=b/\b<w'.heap.size) (hO:t.O=[]):Sep B0 w0 Z w' (t::l):=by
 have h1:=hs.step e
 have hsz:=hs.ext.size
 refine ⟨h1.ext,h1.zlt,fun k s hk=>?_,fun j k s u hj hk hne=>?_⟩
 . cases k with
   | zero =>
    simp at hk; subst hk
    exact ⟨h,st,fun b hb=>(hF b hb).2,fun b hb hz=>by have:=hs.zlt b hz; grind,fun b hb=>.inr (by grind),fun b hb=>(by simp_all)⟩
   | succ k=>exact h1.ok k s (by simp_all)
 . cases j with
   | zero =>
    cases k with
    | zero=>omega
    | succ k =>
     simp at hj hk; subst hj
     intro b hb hb'
     have:=(hs.ok k u hk).lt b hb'; grind
   | succ j =>
    cases k with
    | zero =>
     simp at hj hk; subst hk
     intro b hb hb'
     have:=(hs.ok j s hj).lt b hb; grind
    | succ k=>exact hs.apart j k s u (by simp_all) (by simp_all) (by omega)
theorem Sep.fact (hs:Sep B0 w0 Z w l) (h:t.P Z w) (st:t.a2B) (hF:t.F=[]) (hO:t.O=[]):Sep B0 w0 Z w (t::l) :=
 hs.add (Ext.refl [] w) h st (fun b hb=>by simp_all) hO
theorem Sep.drop (hs:Sep B0 w0 Z w (t::l)):Sep B0 w0 Z w l :=
 ⟨hs.ext,hs.zlt,fun k s hk=>hs.ok (k+1) s (by simp_all),fun j k s u hj hk hne=>hs.apart (j+1) (k+1) s u (by simp_all) (by simp_all) (by omega)⟩
theorem Sep.pick (hs:Sep B0 w0 Z w l) (ks:List Nat) (hn:(ks.all fun k=>Nat.blt k l.length)=true) (hu:ks.Nodup) {l':List It} (e:ks.map (fun k=>l.getD k ⟨[],[],fun _ _=>True⟩)=l'):Sep B0 w0 Z w l':=by
 subst e
 have get:∀ (j:Nat) (t:It),(ks.map (fun k=>l.getD k ⟨[],[],fun _ _=>True⟩))[j]?=some t->∃ k,ks[j]?=some k/\l[k]?=some t:=by
  intro j t h
  rw [b5S] at h
  cases hk:ks[j]? with
  | none=>simp_all
  | some k =>
   rw [hk] at h; simp only [b9E,b3N] at h
   have hlt:k<l.length:=by
    rw [b5A] at hn
    exact D3 (hn k (b4S hk))
   simp_all
 refine ⟨hs.ext,hs.zlt,fun j t h=>?_,fun i j s t hi hj hne=>?_⟩
 . obtain ⟨k,_,h⟩:=get j t h; exact hs.ok k t h
 . obtain ⟨k1,a1,b1⟩:=get i s hi
   obtain ⟨k2,a2,b2⟩:=get j t hj
   refine hs.apart k1 k2 s t b1 b2 fun e=>hne ?_
   subst e
   have hi':i<ks.length:=by rcases b5N i ks.length with h | h; exact h; rw [b6S h] at a1; cases a1
   have hj':j<ks.length:=by rcases b5N j ks.length with h | h; exact h; rw [b6S h] at a2; cases a2
   rw [b3T hi'] at a1
   rw [b3T hj'] at a2
   exact (List.getElem_inj hu).1 ((b6E a1).trans (b6E a2).symm)
theorem Sep.freeze (hs:Sep B0 w0 Z w l) (k:Nat) (hk:l[k]?=some t) (h:t'.P (fun b=>Z b ∨ b∈t.F) w) (st:t'.a2B) (hF:t'.F=[]) (hO:t'.O=[]):Sep B0 w0 (fun b=>Z b ∨ b∈t.F) w (l.set k t'):=by
 have hkl:k<l.length:=by
  rcases b5N k l.length with h | h
  . exact h
  . simp_all
 refine ⟨hs.ext,fun b hb=>?_,fun j s hj=>?_,fun i j s u hi hj hne=>?_⟩
 . rcases hb with h | h
   . exact hs.zlt b h
   . exact (hs.ok k t hk).lt b h
 . by_cases hjk:j=k
   . subst hjk
     rw [b4Z hkl] at hj; cases hj
     exact ⟨h,st,fun b hb=>(by simp_all),fun b hb=>(by simp_all),fun b hb=>(by simp_all),fun b hb=>(by simp_all)⟩
   . rw [b5H (b6D hjk)] at hj
     have o:=hs.ok j s hj
     refine ⟨o.a1L Z _ [] w w o.holds (Ext.refl _ _) (fun b hb=>(by cases hb)) (fun b hb=>.inl hb),o.a1L,o.lt,fun b hb hz=>?_,o.org,o.a3L⟩
     rcases hz with h | h
     . exact o.a1X b hb h
     . exact hs.apart j k s t hj hk hjk b hb h
 . by_cases hik:i=k
   . simp_all
   . rw [b5H (b6D hik)] at hi
     by_cases hjk:j=k
     . simp_all
     . rw [b5H (b6D hjk)] at hj
       exact hs.apart i j s u hi hj hne
end
end Go.Wl
end
section
namespace Go.Wl
open Go Go.Wk
def S8 (w:World) (b:Nat) (T:TypeId) (cs:List Value):Prop:=∃ z:Nat×Nat,(z=(0,0) ∨ cs.length<=z.1)/\w.heap[b]?=some (.cells cs.toArray T z)
section
variable {w w':World} {b:Nat} {T:TypeId} {cs:List Value} {B:List Nat}
theorem _root_.Go.Wk.Own.z (h:Own w b T cs):S8 w b T cs:=⟨(0,0),.inl rfl,h⟩
theorem S8.lt (h:S8 w b T cs):b<w.heap.size:=by obtain ⟨z,_,h⟩:=h; exact a07 h
theorem S8.ext (h:S8 w b T cs) (e:Ext B w w') (hb:b ∉ B):S8 w' b T cs:=by obtain ⟨z,hz,h⟩:=h; exact ⟨z,hz,e.get hb h⟩
theorem S8.sim (h:S8 w b T cs) (e:Sim w w'):S8 w' b T cs:=by obtain ⟨k,rfl⟩:=e; exact h
theorem S8.a2X (h:S8 w b T cs) {o:Nat} {c:List Value} (hc:∀ j,j<c.length->cs[o+j]?=c[j]?):x9 w b o c:=by
 obtain ⟨z,_,h⟩:=h
 exact ⟨_,_,_,h,fun j hj=>by simpa using hc j hj⟩
theorem S8.setCell (h:S8 w b T cs) (o:Nat) (v:Value) :
  S8 (w.setCell ⟨b,o,none⟩ v) b T (cs.set o v)/\Ext [b] w (w.setCell ⟨b,o,none⟩ v)/\(w.setCell ⟨b,o,none⟩ v).heap.size=w.heap.size:=by
 obtain ⟨z,hz,h⟩:=h
 refine ⟨⟨z,by simpa using hz,?_⟩,⟨rfl,rfl,rfl,by simp [World.setCell],fun k hk hb=>?_⟩,by simp [World.setCell]⟩
 . simp [World.setCell,b6P,h]
 . simp [World.setCell,b6P]
   intro e; subst e; simp at hb
theorem a8y {P:Program} {o:Nat} {v:Value} (h:S8 w b T cs) (ho:o<cs.length) (hv:A2 v=true) :
  (store ⟨b,o,none⟩ v).run P w=.ok () (w.setCell ⟨b,o,none⟩ v):=by
 obtain ⟨z,hz,h⟩:=h
 have hc:w.cell? ⟨b,o,none⟩=some cs[o]:=by simp [World.cell?,h,ho]
 have hf:w.frozen? ⟨b,o,none⟩=false:=by
  rcases hz with rfl | hz
  . simp [World.frozen?,h]
  . simp [World.frozen?,h]; omega
 unfold store
 cases v <;> first | (simp [A2] at hv; done) | simp [Sem.run,hc,hf]
theorem I2 {P:Program}:∀ (c:List Value) (o i:Nat) (cs:List Value) (w:World),S8 w b T cs->o+i+c.length<=cs.length->(∀ v∈c,A2 v=true) ->
  ∃ w',(storeCells ⟨b,o,none⟩ c i).run P w=.ok () w'/\S8 w' b T (x7 cs (o+i) c)/\Ext [b] w w'/\w'.heap.size=w.heap.size/\(∀ k,(storeCells ⟨b,o,none⟩ c i).run P { w with drawn:=k }=.ok () { w' with drawn:=k }):=by
 intro c
 induction c with
 | nil=>intro o i cs w h _ _; exact ⟨w,rfl,h,Ext.refl _ _,rfl,fun _=>rfl⟩
 | cons v r ih =>
  intro o i cs w h hl hv
  have e:(Addr.add ⟨b,o,none⟩ i)=⟨b,o+i,none⟩:=by
   unfold Addr.add; split
   . rename_i h; rw [h]; rfl
   . rfl
  simp at hl
  obtain ⟨h1,h2,h3⟩:=h.setCell (o+i) v
  have hrun:=a8y (P:=P) h (o:=o+i) (v:=v) (by omega) (hv v (by simp))
  obtain ⟨w',hr,ho,he,hs,hk⟩:=ih o (i+1) _ _ h1 (by simp; omega) (fun u hu=>hv u (by simp [hu]))
  refine ⟨w',?_,by simpa [x7,b8E] using ho,h2.trB he,by rw [hs,h3],fun k=>?_⟩
  . simp only [storeCells,e,b3S,hrun,b3O,hr]
  . have hrun':=a8y (P:=P) (w:={ w with drawn:=k }) h (o:=o+i) (v:=v) (by omega) (hv v (by simp))
    simp only [storeCells,e,b3S,hrun',b3O]
    exact hk k
end
section
variable {P:Program} {n:Nat} {ops:List Oper} {Q:Exit->Fr->World->Prop} {rest:List Oper} {f:Fr} {w:World} {ty T E:TypeId} {pos:String} {after:Array Edge} {x y:Operand}
theorem b5d {b o mm:Nat} {cs c:List Value} (hz:∀ w,(sizeOf T).run P w=.ok mm w) (hx:ev f x=.pointer (some ⟨b,o,none⟩)) (hc:(ev f y).cells.toList=c) (hm:c.length=mm) (ho:S8 w b E cs) (hl:o+mm<=cs.length) (hp:c.all A2=true)
  (K:∀ w',Ext [b] w w'->w'.heap.size=w.heap.size->S8 w' b E (x7 cs o c)->WL P false n ops Q rest f w') :
  WL P false n ops Q (⟨none,.store T x y,ty,pos,after,none⟩::rest) f w :=
 b3a rfl rfl fun w1 hs=>by
  obtain ⟨k,rfl⟩:=hs
  obtain ⟨w',hr,ho',he,hsz,hk⟩:=I2 (P:=P) c o 0 cs w ho (by omega) (fun v hv=>by rw [b5A] at hp; exact hp v hv)
  refine ⟨_,w',?_,⟨k,rfl⟩,K w' he hsz (by simpa using ho')⟩
  have hsize:(ev f y).cells.size=mm:=by rw [<- b7C,hc,hm]
  have hrun:(storeVar T ⟨b,o,none⟩ (ev f y)).run P { w with drawn:=k }=.ok () { w' with drawn:=k }:=by
   unfold storeVar
   simp only [b3S,hz,b3O]
   rw [if_neg (by simp only [hsize,ne_eq,b8U,not_false_eq_true]),hc]
   exact hk k
  simp only [execOp,hx,Instr.storeAt,Instr.sureAddr,b3S,b4E,b3O,hrun]
end
end Go.Wl
end
section
namespace Go.Wl
open Go Go.Wk
def Ac {α:Type} (r:Rd α) (Z:Nat->Prop) (w:World) (v:Value) (l:List α) (bs:List Nat):Prop :=
 (v=.slice none 0 0/\l=[]/\bs=[]) ∨
 ∃ b cap C T,v=.slice (some ⟨b,0,none⟩) l.length cap/\bs=[b]/\S8 w b T C/\C.length=cap * r.sz/\l.length<=cap /\
  ∀ i (h:i<l.length),∃ c,c.length=r.sz/\(∀ j,j<r.sz->C[i * r.sz+j]?=c[j]?)/\r.rd Z w c l[i]
def Src {α:Type} (r:Rd α) (Z:Nat->Prop) (w:World) (v:Value) (xs:List α):Prop :=
 ∃ A cap,v=.slice A xs.length cap/\∃ cs:List (List Value),cs.length=xs.length/\(∀ i (h:i<xs.length) (h':i<cs.length),r.rd Z w cs[i] xs[i])/\(xs=[] ∨ ∃ b o,A=some ⟨b,o,none⟩/\x9 w b o cs.flatten)
section
variable {α:Type} {r:Rd α} {Z Z':Nat->Prop} {B bs:List Nat} {w w':World} {v:Value} {l:List α}
theorem Ac.nil:Ac r Z w (.slice none 0 0) [] []:=.inl ⟨rfl,rfl,rfl⟩
theorem Ac.val (h:Ac r Z w v l bs):∃ A cap,v=.slice A l.length cap:=by
 rcases h with ⟨rfl,rfl,rfl⟩ | ⟨b,cap,C,T,rfl,_⟩
 all_goals simp_all
theorem Ac.lt (h:Ac r Z w v l bs):∀ b∈bs,b<w.heap.size:=by
 rcases h with ⟨rfl,rfl,rfl⟩ | ⟨b,cap,C,T,rfl,rfl,ho,_⟩
 . simp
 . intro x hx; simp at hx; subst hx; exact ho.lt
theorem Ac.a1L (h:Ac r Z w v l bs) (e:Ext B w w') (hB:∀ b∈B,(b∈bs ∨ Z b)->w.heap.size<=b) (hZ:∀ b,Z b->Z' b):Ac r Z' w' v l bs:=by
 rcases h with h | ⟨b,cap,C,T,hv,hb,ho,hC,hl,hc⟩
 . exact .inl h
 . have hlt:=ho.lt
   refine .inr ⟨b,cap,C,T,hv,hb,ho.ext e (fun hm=>by grind),hC,hl,fun i hi=>?_⟩
   obtain ⟨c,h1,h2,h3⟩:=hc i hi
   exact ⟨c,h1,h2,r.mono h3 e (fun x hx hz=>hB x hx (.inr hz)) (fun x hx _=>hZ x hx)⟩
theorem Ac.rd (h:Ac r Z w v l bs) (hl:l.length<=9223372036854775807):(q9 r).rd (fun b=>Z b ∨ b∈bs) w [v] l:=by
 rcases h with ⟨rfl,rfl,rfl⟩ | ⟨b,cap,C,T,rfl,rfl,ho,hC,hcap,hc⟩
 . exact V1
 . refine ⟨hl,_,_,rfl,⟨(fun h=>by cases h),hcap⟩,fun i hi=>?_⟩
   obtain ⟨c,h1,h2,h3⟩:=hc i hi
   exact ⟨b,0,c,rfl,.inr (by simp),ho.a2X fun j hj=>by
    simp_all,r.a2T h3 (fun x hx _=>.inl hx)⟩
end
section
variable {α:Type} {r:Rd α} {Z:Nat->Prop} {w:World} {v:Value} {xs:List α}
theorem Src.data (h:(q9 r).rd Z w [v] xs):Src r Z w v xs:=by
 obtain ⟨A,cap,rfl⟩:=J7 h
 refine ⟨A,cap,rfl,?_⟩
 by_cases hne:xs=[]
 . simp_all
 . have hpos:0<xs.length:=List.length_pos_iff.2 hne
   obtain ⟨b,o,c0,hA,_,_,_⟩:=M3 h hpos
   have h':∀ i,i<xs.length->∃ c,x9 w b (o+i * r.sz) c/\∃ hi:i<xs.length,r.rd Z w c xs[i]:=fun i hi=>by
    obtain ⟨b',o',c,hA',_,hc,hr⟩:=M3 h hi
    grind
   obtain ⟨cs,hcl,hcs⟩:=W7 xs.length h'
   have hsz:∀ c∈cs,c.length=r.sz:=fun c hc=>by
    obtain ⟨i,hi,rfl⟩:=b4I hc
    obtain ⟨_,_,hr⟩:=hcs i hi
    exact r.len hr
   refine ⟨cs,hcl,fun i hi hi'=>?_,.inr ⟨b,o,hA,?_⟩⟩
   . simp_all
   . obtain ⟨⟨C,T,z,hh,_⟩,_⟩:=hcs 0 (by omega)
     refine ⟨C,T,z,hh,fun j hj=>?_⟩
     rw [H6 hsz] at hj
     have hsz0:0<r.sz:=by rcases b6Q r.sz with h | h; rw [h] at hj; simp at hj; exact h
     have hjq:j / r.sz<cs.length:=b6X (by grind)
     have hjr:j % r.sz<r.sz:=b8D _ hsz0
     have hjd:j / r.sz * r.sz+j % r.sz=j:=by rw [b7G]; exact b7U j r.sz
     obtain ⟨⟨C',T',z',hh',hc'⟩,_,hr⟩:=hcs (j / r.sz) hjq
     rw [hh] at hh'; cases hh'
     have e1:=hc' (j % r.sz) (by simp_all)
     have e2:=F6 hsz (j / r.sz) (j % r.sz) hjr
     grind
theorem Ac.rows {bs:List Nat} {b cap:Nat} {C:List Value} {T:TypeId} (ho:S8 w b T C) (hc:∀ i (h:i<xs.length),∃ c,c.length=r.sz/\(∀ j,j<r.sz->C[i * r.sz+j]?=c[j]?)/\r.rd Z w c xs[i]) :
  ∃ cs:List (List Value),cs.length=xs.length/\(∀ i (h:i<xs.length) (h':i<cs.length),r.rd Z w cs[i] xs[i])/\x9 w b 0 cs.flatten:=by
 have h':∀ i,i<xs.length->∃ c:List Value,c.length=r.sz/\(∀ j,j<r.sz->C[i * r.sz+j]?=c[j]?)/\∃ hi:i<xs.length,r.rd Z w c xs[i]:=fun i hi=>by
  simp_all
 obtain ⟨os,hol,hos⟩:=W7 xs.length h'
 have hsz:∀ c∈os,c.length=r.sz:=fun c hc=>by
  obtain ⟨i,hi,rfl⟩:=b4I hc
  grind
 refine ⟨os,hol,fun i hi hi'=>(hos i hi').2.2.2,ho.a2X fun j hj=>?_⟩
 rw [H6 hsz] at hj
 have hsz0:0<r.sz:=by rcases b6Q r.sz with h | h; rw [h] at hj; simp at hj; exact h
 have hjq:j / r.sz<os.length:=b6X (by grind)
 have hjr:j % r.sz<r.sz:=b8D _ hsz0
 have hjd:j / r.sz * r.sz+j % r.sz=j:=by rw [b7G]; exact b7U j r.sz
 have e1:=(hos (j / r.sz) hjq).2.1 (j % r.sz) hjr
 have e2:=F6 hsz (j / r.sz) (j % r.sz) hjr
 grind
theorem Src.ac {bs:List Nat} (h:Ac r Z w v xs bs):Src r Z w v xs:=by
 rcases h with ⟨rfl,rfl,rfl⟩ | ⟨b,cap,C,T,rfl,rfl,ho,hC,hcap,hc⟩
 . exact ⟨none,0,rfl,[],rfl,by simp,.inl rfl⟩
 . obtain ⟨cs,h1,h2,h3⟩:=Ac.rows (bs:=[b]) (cap:=cap) ho hc
   exact ⟨_,_,rfl,cs,h1,h2,.inr ⟨b,0,rfl,h3⟩⟩
end
def J5 {α:Type} (r:Rd α) (Z:Nat->Prop) (w:World):List (List Value)->List α->Prop
 | [],[]=>True
 | c::cs,x::xs=>r.rd Z w c x/\J5 r Z w cs xs
 | _,_=>False
theorem J5.get {α:Type} {r:Rd α} {Z:Nat->Prop} {w:World}:∀ {cs:List (List Value)} {xs:List α},J5 r Z w cs xs->cs.length=xs.length/\∀ i (h:i<xs.length) (h':i<cs.length),r.rd Z w cs[i] xs[i]
 | [],[],_=>⟨rfl,fun i h=>by simp at h⟩
 | c::cs,x::xs,⟨h1,h2⟩=>by
  obtain ⟨a,b⟩:=J5.get h2
  grind
theorem J5.rep {α:Type} {r:Rd α} {Z:Nat->Prop} {w:World} {c:List Value} {x:α} (h:r.rd Z w c x):∀ n,J5 r Z w (List.replicate n c) (List.replicate n x)
 | 0=>trivial
 | n+1=>⟨h,J5.rep h n⟩
theorem Ac.lit {α:Type} {r:Rd α} {Z:Nat->Prop} {w:World} {cs:List (List Value)} {l:List α} {b:Nat} {T:TypeId} {C:List Value} (ho:Own w b T C) (hC:C=cs.flatten) (h:J5 r Z w cs l):Ac r Z w (.slice (some ⟨b,0,none⟩) l.length l.length) l [b]:=by
 subst hC
 obtain ⟨h1,h2⟩:=h.get
 have hsz:∀ c∈cs,c.length=r.sz:=fun c hc=>by
  obtain ⟨i,hi,rfl⟩:=b4I hc
  exact r.len (h2 i (by omega) hi)
 refine .inr ⟨b,l.length,_,T,rfl,rfl,ho.z,by rw [H6 hsz,h1],b4H _,fun i hi=>?_⟩
 have hi':i<cs.length:=by omega
 refine ⟨cs[i],hsz _ (b5J _),fun j hj=>?_,h2 i hi hi'⟩
 rw [F6 hsz i j hj,b3T hi']; rfl
abbrev K9 (b:Nat) (T:TypeId) (cs:List Value) (O:List Nat):It:=⟨[b],O,fun _ w=>Own w b T cs⟩
abbrev L7 {κ:Type} (ky:Key κ) (b:Nat) (L:List (κ×Value)) (O:List Nat):It:=⟨[b],O,fun _ w=>F5 ky w b L⟩
abbrev T4 {α:Type} (r:Rd α) (cs:List Value) (x:α):It:=⟨[],[],fun Z w=>r.rd Z w cs x⟩
abbrev iAc {α:Type} (r:Rd α) (v:Value) (l:List α) (bs O:List Nat):It:=⟨bs,O,fun Z w=>Ac r Z w v l bs⟩
structure Ob (α:Type) where
 is:(Nat->Prop)->World->α->List Nat->Prop
 a1L:∀ {x F},It.a2B ⟨F,[],fun Z w=>is Z w x F⟩
 lt:∀ {Z w x F},is Z w x F->∀ b∈F,b<w.heap.size
abbrev iOb {α:Type} (o:Ob α) (x:α) (F O:List Nat):It:=⟨F,O,fun Z w=>o.is Z w x F⟩
section
variable {b it:Nat} {T:TypeId} {cs:List Value} {O bs:List Nat} {v:Value} {α κ:Type} {r:Rd α} {l:List α} {x:α} {ky:Key κ} {L D:List (κ×Value)}
theorem b7m:(K9 b T cs O).a2B:=fun Z Z' B w w' h e hB _=>h.ext e (fun hm=>by have:=hB b hm (.inl (by simp)); have:=Own.lt h; omega)
theorem c6l:(L7 ky b L O).a2B:=fun Z Z' B w w' h e hB _=>h.ext e (fun hm=>by have:=hB b hm (.inl (by simp)); have:=F5.lt h; omega)
theorem d06:(T4 r cs x).a2B:=fun Z Z' B w w' h e hB hZ=>r.mono h e (fun b hb hz=>hB b hb (.inr hz)) (fun b hb _=>hZ b hb)
theorem sAc:(iAc r v l bs O).a2B:=fun Z Z' B w w' h e hB hZ=>Ac.a1L h e hB hZ
theorem sOb {o:Ob α} {F:List Nat}:(iOb o x F O).a2B:=fun Z Z' B w w' h e hB hZ=>o.a1L Z Z' B w w' h e hB hZ
end
section
variable {P:Program} {α:Type} {r:Rd α} {Z:Nat->Prop} {bs:List Nat} {w:World} {v:Value} {l:List α} {T E:TypeId} {info:TypeInfo} {zv:Value}
theorem N9 {sz:Nat} {A:Option Addr} {cap k:Nat} {cs:List (List Value)} (hl:cs.length=k) (hs:∀ c∈cs,c.length=sz) (h:k=0 ∨ ∃ b o,A=some ⟨b,o,none⟩/\x9 w b o cs.flatten) :
  (Builtin.firstCells sz k (.slice A k cap)).run P w=.ok cs.flatten.toArray w:=by
 cases A with
 | none =>
  rcases h with h | ⟨b,o,h,_⟩
  . subst h; have:cs=[]:=b4O hl; subst this; simp [Builtin.firstCells,Sem.run,pure]
  . cases h
 | some a =>
  rcases h with h | ⟨b,o,h,hc⟩
  . subst h; have:cs=[]:=b4O hl; subst this; simp [Builtin.firstCells,loadCells,loadCellsFrom,Sem.run,pure]
  . cases h
    have:=X6 (P:=P) hc
    rw [H6 hs,hl] at this
    simpa [Builtin.firstCells] using this
theorem b9c {xs:List α} {xv:Value} (hT:∀ w,(underlying T).run P w=.ok (.slice E) w) (hI:∀ w,(typeInfo E).run P w=.ok info w) (hE:∀ w,(sizeOf E).run P w=.ok r.sz w) (hz:∀ w,(zeroValue E).run P w=.ok zv w) (hzs:zv.cells.size=r.sz)
  (ha:Ac r Z w v l bs) (hx:Src r Z w xv xs) (hnz:∀ b∈bs,¬ Z b) (hb:(l.length+xs.length) * info.bytes<=140737488355328) (hb1:1<=info.bytes) :
  ∀ w1,Sim w w1->∃ v' w2 w',(Builtin.append_ #[T,T] T #[v,xv]).run P w1=.ok v' w2/\Sim w' w2/\∃ bs',Ac r Z w' v' (l++xs) bs'/\Ext bs w w'/\(∀ b∈bs',b∈bs ∨ w.heap.size<=b):=by
 intro w1 hs
 obtain ⟨kk,rfl⟩:=hs
 obtain ⟨A,cap,rfl⟩:=ha.val
 obtain ⟨B,xcap,rfl,cs,hcl,hcr0,hrow⟩:=hx
 have hcr:∀ i (h:i<xs.length) (h':i<cs.length),r.rd Z w cs[i] xs[i]:=hcr0
 have hcs:∀ c∈cs,c.length=r.sz:=fun c hc=>by
  obtain ⟨i,hi,rfl⟩:=b4I hc
  exact r.len (hcr i (by omega) hi)
 have hrow':xs.length=0 ∨ ∃ b o,B=some ⟨b,o,none⟩/\x9 { w with drawn:=kk } b o cs.flatten:=by
  rcases hrow with h | ⟨b,o,h1,h2⟩
  . simp_all
  . exact .inr ⟨b,o,h1,h2.sim ⟨kk,rfl⟩⟩
 have hnew:(Builtin.firstCells r.sz xs.length (.slice B xs.length xcap)).run P { w with drawn:=kk }=.ok cs.flatten.toArray { w with drawn:=kk }:=N9 hcl hcs hrow'
 by_cases hfit:l.length+xs.length<=cap
 . -- there is room
   rcases ha with ⟨hv,rfl,rfl⟩ | ⟨b,cap',C,T',hv,rfl,ho,hC,hcap,hc⟩
   . simp at hv
     obtain ⟨rfl,rfl⟩:=hv
     have hx0:xs=[]:=b4O (by omega)
     subst hx0
     refine ⟨.slice none 0 0,{ w with drawn:=kk },w,?_,⟨kk,rfl⟩,[],Ac.nil,Ext.refl _ _,by simp⟩
     simp only [Builtin.append_,hT,hE,Builtin.lenOf,b3S,b3O,b4E,b5B,b5D,b4B,b5M,if_false,b7Z,if_true]
     simp_all
   . simp at hv
     obtain ⟨rfl,rfl⟩:=hv
     have hfl:=H6 hcs
     have hpl:∀ u∈cs.flatten,A2 u=true:=by
      intro u hu
      obtain ⟨c,hc1,hc2⟩:=b9Z.1 hu
      obtain ⟨i,hi,rfl⟩:=b4I hc1
      have:=r.plain (hcr i (by omega) hi)
      rw [b5A] at this
      exact this u hc2
     have hroom:l.length * r.sz+0+cs.flatten.length<=C.length:=by
      rw [hfl,hC,hcl,b5Q,<- b5X]; exact b4C _ hfit
     obtain ⟨w',hr,ho',he,hsz,hk⟩:=I2 (P:=P) cs.flatten (l.length * r.sz) 0 C w ho hroom hpl
     refine ⟨.slice (some ⟨b,0,none⟩) (l.length+xs.length) cap,{ w' with drawn:=kk },w',?_,⟨kk,rfl⟩,[b],?_,he,by simp⟩
     . have e:(Addr.add ⟨b,0,none⟩ (l.length * r.sz))=⟨b,l.length * r.sz,none⟩:=by
         unfold Addr.add; split
         . simp_all
         . simp
       simp only [Builtin.append_,hT,hE,Builtin.lenOf,b3S,b3O,b4E,b5B,b5D,b4B,b5M,if_false,b7Z,if_true]
       simp_all
     . refine .inr ⟨b,cap,x7 C (l.length * r.sz+0) cs.flatten,T',by simp,rfl,ho',by rw [E9,hC],by simp_all,fun i hi=>?_⟩
       have hget:=fun k=>V3 cs.flatten C (l.length * r.sz+0) k hroom
       by_cases hil:i<l.length
       . obtain ⟨c,h1,h2,h3⟩:=hc i hil
         refine ⟨c,h1,fun j hj=>?_,?_⟩
         . have hlt:i * r.sz+j<l.length * r.sz:=by
             have:(i+1) * r.sz<=l.length * r.sz:=b4C _ hil
             rw [b5X] at this; omega
           grind
         . rw [b6Y hil]
           exact r.mono h3 he (fun x hx hz=>absurd hz (hnz x hx)) (fun x hx _=>hx)
       . have hix:i-l.length<xs.length:=by simp at hi; omega
         have hic:i-l.length<cs.length:=by omega
         refine ⟨cs[i-l.length],hcs _ (b5J _),fun j hj=>?_,?_⟩
         . have e1:i * r.sz+j-(l.length * r.sz+0)=(i-l.length) * r.sz+j:=by
             rw [b9M]; have:l.length * r.sz<=i * r.sz:=b4C _ (by omega); omega
           have hlt:(i-l.length) * r.sz+j<cs.flatten.length:=by
            rw [hfl]
            have:(i-l.length+1) * r.sz<=cs.length * r.sz:=b4C _ hic
            rw [b5X] at this; omega
           have hge:l.length * r.sz<=i * r.sz:=b4C _ (by omega)
           rw [hget,if_pos (by omega),e1,F6 hcs _ _ hj,b3T hic]; rfl
         . rw [b6U (by omega)]
           exact r.mono (hcr _ hix hic) he (fun x hx hz=>absurd hz (hnz x hx)) (fun x hx _=>hx)
 . -- there is none
   have hneed:¬ l.length+xs.length<=cap:=hfit
   have hns:=Wk.nextslicecap_le (need:=l.length+xs.length) (cap:=cap) (by omega)
   have hns':¬ (Builtin.nextslicecap (l.length+xs.length) cap * info.bytes > 2 ^ 48):=by
    have:=b4C info.bytes hns
    have e:(2:Nat) ^ 48=281474976710656:=by decide
    rw [Nat.mul_assoc] at this; omega
   have hlen:l.length+xs.length<=140737488355328:=by
    have:=b8H (l.length+xs.length) hb1; omega
   have hold:∃ os:List (List Value),os.length=l.length/\(∀ c∈os,c.length=r.sz)/\(∀ i (h:i<l.length) (h':i<os.length),r.rd Z w os[i] l[i])/\(Builtin.firstCells r.sz l.length (.slice A l.length cap)).run P { w with drawn:=kk+1 }=.ok os.flatten.toArray { w with drawn:=kk+1 }:=by
    rcases ha with ⟨hv,rfl,rfl⟩ | ⟨b,cap',C,T',hv,rfl,ho,hC,hcap,hc⟩
    . simp at hv
      obtain ⟨rfl,rfl⟩:=hv
      exact ⟨[],rfl,by simp,by simp,by simp [Builtin.firstCells,Sem.run,pure]⟩
    . simp at hv
      obtain ⟨rfl,rfl⟩:=hv
      have h':∀ i,i<l.length->∃ c:List Value,c.length=r.sz/\(∀ j,j<r.sz->C[i * r.sz+j]?=c[j]?)/\∃ hi:i<l.length,r.rd Z w c l[i]:=fun i hi=>by
       simp_all
      obtain ⟨os,hol,hos⟩:=W7 l.length h'
      have hsz:∀ c∈os,c.length=r.sz:=fun c hc=>by
       obtain ⟨i,hi,rfl⟩:=b4I hc
       grind
      refine ⟨os,hol,hsz,fun i hi hi'=>(hos i hi').2.2.2,N9 hol hsz (.inr ⟨b,0,rfl,(ho.sim ⟨kk+1,rfl⟩).a2X fun j hj=>?_⟩)⟩
      rw [H6 hsz] at hj
      have hsz0:0<r.sz:=by rcases b6Q r.sz with h | h; rw [h] at hj; simp at hj; exact h
      have hjq:j / r.sz<os.length:=b6X (by grind)
      have hjr:j % r.sz<r.sz:=b8D _ hsz0
      have hjd:j / r.sz * r.sz+j % r.sz=j:=by rw [b7G]; exact b7U j r.sz
      have e1:=(hos (j / r.sz) hjq).2.1 (j % r.sz) hjr
      have e2:=F6 hsz (j / r.sz) (j % r.sz) hjr
      grind
   obtain ⟨os,hol,hos,hor,holdr⟩:=hold
   have hnew1:(Builtin.firstCells r.sz xs.length (.slice B xs.length xcap)).run P { w with drawn:=kk+1 }=.ok cs.flatten.toArray { w with drawn:=kk+1 }:=N9 hcl hcs (by
    rcases hrow with h | ⟨b,o,h1,h2⟩
    . simp_all
    . exact .inr ⟨b,o,h1,h2.sim ⟨kk+1,rfl⟩⟩)
   let nc:=(Question.appendCap (l.length+xs.length) cap E).cut (w.tape kk (Question.appendCap (l.length+xs.length) cap E))
   have hnc:l.length+xs.length<=nc:=by show _<=_+_ % _; omega
   let row:=os.flatten.toArray++cs.flatten.toArray++Builtin.zeroCells zv.cells (nc-(l.length+xs.length))
   refine ⟨.slice (some ⟨w.heap.size,0,none⟩) (l.length+xs.length) nc,{ w with drawn:=kk+1,heap:=w.heap.push (.cells row E) },{ w with heap:=w.heap.push (.cells row E) },?_,⟨kk+1,rfl⟩,[w.heap.size],?_,(Ext.push w _).mono (by simp),by simp⟩
   . have hch:(choose (.appendCap (l.length+xs.length) cap E)).run P { w with drawn:=kk }=.ok nc { w with drawn:=kk+1 }:=by
       simp [choose,Sem.run,Question.forced,nc]
     have hroom:∀ m (w:World),(askRoom m).run P w=.ok () w:=fun m w=>by simp_all
     have hnl:¬ ((l.length:Int)+(xs.length:Int) > 9223372036854775807/\(false=true ∨ info.bytes=0)):=by omega
     simp only [Builtin.append_,hT,hE,Builtin.lenOf,b3S,b3O,b4E,b5B,b5D,b4B,b5M,if_false,b7Z,if_true]
     rw [if_neg hfit]
     simp only [b5M,if_false,b3S,hI,b3O,false_or]
     rw [if_neg (by omega)]
     simp only [b3S,hI,b3O]
     rw [if_neg hns']
     simp only [b3S,b4E,hch,hI,hroom,holdr,hnew1,hz,b3O,newRow,newObj,Sem.run]
     rfl
   . have hlo:=H6 hos
     have hlc:=H6 hcs
     refine .inr ⟨w.heap.size,nc,row.toList,E,by simp,rfl,Own.z (by simp [Own]),?_,by simp_all,fun i hi=>?_⟩
     . simp only [row,Array.toList_append,b3P,b7C,b8S,hlo,hlc,a33,hzs,hol,hcl]
       rw [<- b5X,<- b5X]; simp_all
     . have hrow:row.toList=os.flatten++(cs.flatten++(Builtin.zeroCells zv.cells (nc-(l.length+xs.length))).toList):=by simp [row]
       rw [hrow]
       by_cases hil:i<l.length
       . have hio:i<os.length:=by omega
         refine ⟨os[i],hos _ (b5J _),fun j hj=>?_,?_⟩
         . have hlt:i * r.sz+j<os.flatten.length:=by
             rw [hlo]; have:(i+1) * r.sz<=os.length * r.sz:=b4C _ hio
             rw [b5X] at this; omega
           rw [b3Z hlt,F6 hos _ _ hj,b3T hio]; rfl
         . rw [b6Y hil]
           exact r.mono (hor i hil hio) (Ext.push w _) (fun x hx=>by cases hx) (fun x hx _=>hx)
       . have hix:i-l.length<xs.length:=by simp at hi; omega
         have hic:i-l.length<cs.length:=by omega
         refine ⟨cs[i-l.length],hcs _ (b5J _),fun j hj=>?_,?_⟩
         . have hge:l.length * r.sz<=i * r.sz:=b4C _ (by omega)
           have e1:i * r.sz+j-os.flatten.length=(i-l.length) * r.sz+j:=by rw [hlo,hol,b9M]; omega
           have hlt:(i-l.length) * r.sz+j<cs.flatten.length:=by
            rw [hlc]; have:(i-l.length+1) * r.sz<=cs.length * r.sz:=b4C _ hic
            rw [b5X] at this; omega
           rw [b4A (by grind),e1,b3Z hlt,F6 hcs _ _ hj,b3T hic]; rfl
         . rw [b6U (by omega)]
           exact r.mono (hcr _ hix hic) (Ext.push w _) (fun x hx=>by cases hx) (fun x hx _=>hx)
end
end Go.Wl
end
section
namespace Go.Wl
open Go Go.Wk
def a5f (w:World) (a:Addr) (cs:List Value):Prop:=a.spot=none/\x9 w a.block a.off cs
section
variable {α β:Type} {r:Rd α} {s:Rd β} {D:Nat->Prop} {w:World} {A:Option Addr} {nn cap:Nat} {l:List α}
theorem a4a (h:(q9 r).rd D w [.slice A nn cap] l):l.length=nn:=by
 obtain ⟨_,A',cap',e,_⟩:=h
 simp_all
theorem c1x [Inhabited α] {o q sz:Nat} {i:Int} {g:α->β} (h:(q9 r).rd D w [.slice A nn cap] l) (sub:Sub r o s g) (hsz:r.sz=sz) (hq:q=i.toNat * sz+o) (h0:0<=i) (h1:i<nn) :
  ∃ c,a5f w (eA A q) c/\s.rd D w c (g (ix l i)):=by
 subst hsz; subst hq
 have hn:=a4a h
 subst hn
 have hi:i.toNat<l.length:=by omega
 obtain ⟨b,o',c,rfl,_,hc,hr⟩:=M3 h hi
 have hl:=r.len hr
 have hs:=sub.1
 refine ⟨(c.drop o).take s.sz,⟨rfl,?_⟩,by rw [C5 hi]; exact sub.2 hr⟩
 obtain ⟨C,T,z,hh,hcc⟩:=hc
 refine ⟨C,T,z,hh,fun j hj=>?_⟩
 simp only [b3U,b3W] at hj
 have:=hcc (o+j) (by omega)
 rw [b9N,if_pos (by omega),List.getElem?_drop,<- this]
 show C[o'+(i.toNat * r.sz+o)+j]?=_
 grind
end
section
variable {P:Program} {m:Bool} {n:Nat} {ops:List Oper} {Q:Exit->Fr->World->Prop} {rest:List Oper} {f:Fr} {w w0:World} {d:Nat} {Z D:Nat->Prop} {B0:List Nat} {L:List It}
variable {ty T T' T2 E:TypeId} {pos:String} {after:Array Edge} {x y z:Operand} {k:IntKind} {v zv:Value} {i:Int} {p:Bool}
variable {α β:Type} {r:Rd α} {s:Rd β} {A:Option Addr} {nn cap q sz b:Nat} {l:List α} {cs O bs:List Nat}
theorem c0z (h:(q9 r).rd D w [.slice A nn cap] l) (hT:∀ w,(underlying T).run P w=.ok (.slice E) w) (hE:∀ w,(sizeOf E).run P w=.ok sz w) (hsz:r.sz=sz) (hx:ev f x=.slice A nn cap) (hy:ev f y=.int k i)
  (h0:0<=i) (h1:i<nn) (hn:Nat.blt d n=true) (K:WL P m n ops Q rest (upd f d (.pointer (some (eA A (i.toNat * sz))))) w) :
  WL P m n ops Q (⟨some d,.indexAddr T x y,ty,pos,after,none⟩::rest) f w:=by
 have hl:=a4a h
 subst hl
 obtain ⟨b,o,c,rfl,_,_,_⟩:=M3 h (show i.toNat<l.length by omega)
 refine n7 rfl rfl hn (v:=.pointer (some ⟨b,o+i.toNat * sz,none⟩)) (fun w1 hs=>?_) K
 simp only [execOp,hx,hy,b3S,Y9 hT hE h0 h1]
 rfl
theorem c1c {fi:Nat} {fs:Array Field} {fd:Field} {mm:Nat} (hT:∀ w,(underlying T).run P w=.ok (.struct fs) w) (hf:fs[fi]?=some fd) (hz:∀ w,(sizeOf fd.type).run P w=.ok (mm+1) w) (hx:ev f x=.pointer (some (eA A q))) (hn:Nat.blt d n=true)
  (K:WL P m n ops Q rest (upd f d (.pointer (some (eA A (q+fd.offset))))) w):WL P m n ops Q (⟨some d,.fieldAddr T x fi,ty,pos,after,none⟩::rest) f w :=
 n7 rfl rfl hn (v:=.pointer (some (eA A (q+fd.offset)))) (fun w1 hs=>by
  simp [execOp,hx,Instr.fieldAt,Instr.sureAddr,fieldPlace,hT,hf,hz,go_sem,c8z]) K
theorem c9s {a:Addr} (hA:∀ w,(isAgg T).run P w=.ok false w) (hx:ev f x=.pointer (some a)) (hc:a5f w a [v]) (hn:Nat.blt d n=true) (K:WL P m n ops Q rest (upd f d v) w) :
  WL P m n ops Q (⟨some d,.load T x,ty,pos,after,none⟩::rest) f w:=by
 obtain ⟨b,o,s⟩:=a
 obtain ⟨h1,h2⟩:=hc
 simp only at h1 h2; subst h1
 exact C3 hA hx h2 hn K
theorem b1j {a:Addr} {mm:Nat} {cs:List Value} (hA:∀ w,(isAgg T).run P w=.ok true w) (hz:∀ w,(sizeOf T).run P w=.ok mm w) (hl:cs.length=mm) (hx:ev f x=.pointer (some a)) (hc:a5f w a cs) (hn:Nat.blt d n=true)
  (K:WL P m n ops Q rest (upd f d (.agg cs.toArray)) w):WL P m n ops Q (⟨some d,.load T x,ty,pos,after,none⟩::rest) f w:=by
 obtain ⟨b,o,s⟩:=a
 obtain ⟨h1,h2⟩:=hc
 simp only at h1 h2; subst h1
 exact a5c hA hz hl hx h2 hn K
theorem c17 (hs:Sep B0 w0 Z w L) (hz:∀ w,(zeroValue T).run P w=.ok zv w) (hn:Nat.blt d n=true) (K:∀ b w',Sep B0 w0 Z w' (K9 b T zv.cells.toList []::L)->WL P false n ops Q rest (upd f d (.pointer (some ⟨b,0,none⟩))) w') :
  WL P false n ops Q (⟨some d,.alloc T,ty,pos,after,none⟩::rest) f w :=
 c0q hz hn fun b w' e h1 h2 ho=>K b w' (hs.add e ho b7m (fun x hx=>by simp_all) rfl)
theorem d0p (hs:Sep B0 w0 Z w L) (hn:Nat.blt d n=true) (K:∀ b w',Sep B0 w0 Z w' (K9 b T (ev f x).cells.toList []::L)->WL P false n ops Q rest (upd f d (.pointer (some ⟨b,0,none⟩))) w') :
  WL P false n ops Q (⟨some d,.box T x,ty,pos,after,none⟩::rest) f w :=
 e4h hn fun b w' e h1 h2 ho=>K b w' (hs.add e ho b7m (fun x hx=>by simp_all) rfl)
theorem a6y {o mm:Nat} {cs c:List Value} (hs:Sep B0 w0 Z w L) (j:Nat) (hj:L[j]?=some (K9 b E cs O)) (hz:∀ w,(sizeOf T).run P w=.ok mm w) (hx:ev f x=.pointer (some ⟨b,o,none⟩)) (hc:(ev f y).cells.toList=c) (hm:c.length=mm) (hl:o+mm<=cs.length) (hp:c.all A2=true)
  (K:∀ w',Sep B0 w0 Z w' (L.set j (K9 b E (x7 cs o c) O))->WL P false n ops Q rest f w') :
  WL P false n ops Q (⟨none,.store T x y,ty,pos,after,none⟩::rest) f w :=
 c16 hz hx hc hm (hs.at j hj) hl hp fun w' e h1 ho=>K w' (hs.upd j hj e ho b7m (fun x hx=>⟨.inl hx,by have:=hs.lt j hj x hx; omega⟩) rfl)
theorem a3z {xs al:List α} {info:TypeInfo} (hs:Sep B0 w0 Z w L) (j:Nat) (hj:L[j]?=some (iAc r (ev f x) al bs O)) (hx:Src r Z w (ev f y) xs)
  (hT:∀ w,(underlying T).run P w=.ok (.slice E) w) (hI:∀ w,(typeInfo E).run P w=.ok info w) (hE:∀ w,(sizeOf E).run P w=.ok r.sz w) (hz:∀ w,(zeroValue E).run P w=.ok zv w) (hzs:zv.cells.size=r.sz)
  (hb:(al.length+xs.length) * info.bytes<=140737488355328) (hb1:1<=info.bytes) (hn:Nat.blt d n=true)
  (K:∀ A cap bs' w',Sep B0 w0 Z w' (L.set j (iAc r (.slice A (al++xs).length cap) (al++xs) bs' O))->WL P false n ops Q rest (upd f d (.slice A (al++xs).length cap)) w') :
  WL P false n ops Q (⟨some d,.call ⟨.builtin .append,#[x,y],#[T,T]⟩,T,pos,after,none⟩::rest) f w :=
 T5 rfl rfl hn fun w1 hw=>by
  obtain ⟨v',w2,w',hr,hs',bs',h1,h2,h3⟩:=b9c hT hI hE hz hzs (hs.at j hj) hx (hs.nz j hj) hb hb1 w1 hw
  obtain ⟨A,cap,rfl⟩:=h1.val
  refine ⟨_,w2,w',?_,hs',K A cap bs' w' (hs.upd j hj h2 h1 sAc (fun b hb=>⟨h3 b hb,h1.lt b hb⟩) rfl)⟩
  simp only [execOp,resolve,invoke,builtin,b3S,b4E,b3O]
  simp_all
theorem a0o {len:Nat} {ps:Array (Nat×Operand)} {vs:List (Nat×Value)} {css:List (List Value)} {al:List α} (hs:Sep B0 w0 Z w L) (hT:∀ w,(underlying T).run P w=.ok (.slice E) w) (hE:∀ w,(sizeOf E).run P w=.ok sz w) (hz:∀ w,(zeroValue E).run P w=.ok zv w)
  (hv:ps.toList.map (fun p=>(p.1,ev f p.2))=vs) (hlen:vs.length=len) (hord:W6 0 vs=true) (hsz:vs.all (fun p=>Nat.beq p.2.cells.size sz)=true) (hcs:(vs.flatMap fun p=>p.2.cells.toList)=css.flatten) (hsmall:Nat.ble (len * sz) 16777216=true) (hal:al.length=len) (hr:J5 r Z w css al) (hn:Nat.blt d n=true)
  (K:∀ b w',Sep B0 w0 Z w' (iAc r (.slice (some ⟨b,0,none⟩) len len) al [b] []::L)->WL P false n ops Q rest (upd f d (.slice (some ⟨b,0,none⟩) len len)) w') :
  WL P false n ops Q (⟨some d,.buildSlice T len ps,ty,pos,after,none⟩::rest) f w :=
 a4p hT hE hz hv hlen hord hsz hcs hsmall hn fun b w' e h1 h2 ho=>by
  have all:∀ {cs:List (List Value)} {xs:List α},J5 r Z w cs xs->J5 r Z w' cs xs:=by
   intro cs
   induction cs with
   | nil=>intro xs h; cases xs <;> exact h
   | cons c cs ih=>intro xs h; cases xs with
    | nil=>exact h
    | cons x xs=>exact ⟨r.ext h.1 e,ih h.2⟩
  have ha:=Ac.lit ho rfl (all hr)
  rw [hal] at ha
  exact K b w' (hs.add e ha sAc (fun x hx=>by simp_all) rfl)
theorem c5s {c:List Value} {k sz:Nat} (h:c.length=sz) (hp:0<sz):(List.replicate k c).flatten=(List.range (k * sz)).map (fun i=>c.getD (i % sz) default):=by
 apply b8V
 intro i
 have hsz:∀ x∈List.replicate k c,x.length=sz:=fun x hx=>by simp_all
 by_cases hi:i<k * sz
 . have e:=F6 hsz (i / sz) (i % sz) (b8D _ hp)
   rw [b7G (i / sz),b7U] at e
   have hq:i / sz<k:=b6X (by grind)
   have hm:i % sz<c.length:=by rw [h]; exact b8D _ hp
   simp_all
 simp_all
theorem a64 {a:Int} {info:TypeInfo} {zc:List Value} {zx:α} (hs:Sep B0 w0 Z w L) (hT:∀ w,(underlying T).run P w=.ok (.slice E) w) (hI:∀ w,(typeInfo E).run P w=.ok info w) (hE:∀ w,(sizeOf E).run P w=.ok sz w) (hz:∀ w,(zeroValue E).run P w=.ok zv w)
  (hzc:zv.cells=zc.toArray) (hsz:r.sz=sz) (hpos:0<sz) (hzr:∀ Z w,r.rd Z w zc zx)
  (hx:ev f x=.int .i64 a) (hy:ev f y=.int .i64 a) (h0:0<=a) (h1:info.bytes * a<=140737488355328) (h2:a<=9223372036854775807) (hn:Nat.blt d n=true)
  (K:∀ b w',Sep B0 w0 Z w' (iAc r (.slice (some ⟨b,0,none⟩) a.toNat a.toNat) (List.replicate a.toNat zx) [b] []::L)->WL P false n ops Q rest (upd f d (.slice (some ⟨b,0,none⟩) a.toNat a.toNat)) w') :
  WL P false n ops Q (⟨some d,.makeSlice T x y,ty,pos,after,none⟩::rest) f w:=by
 have hzl:zc.length=sz:=by have:=r.len (hzr Z w); omega
 refine c1u (mk:=fun b=>.slice (some ⟨b,0,none⟩) a.toNat a.toNat) (e:=E) (cs:=(List.replicate a.toNat zc).flatten.toArray) rfl rfl hn (fun w1=>?_) (fun b w' e h1 h2 ho=>?_)
 . have hw:IntKind.i64.wrap a=a:=Z8 ⟨by omega,h2⟩
   have hpow:(2:Int) ^ 48=281474976710656:=by decide
   have hroom:∀ m (w:World),(askRoom m).run P w=.ok () w:=fun m w=>by simp_all
   simp only [execOp,Instr.makeSlice,hx,hy,asInt,asIntOf,b3S,b4E,hT,hI,b3O,hw]
   rw [if_neg (by grind)]
   simp only [b3S,hroom,b3O,hE]
   by_cases hz0:a.toNat=0
   . simp only [hz0,Nat.zero_mul,if_true,b3S,b4E,b3O,newRow,newObj,Sem.run]
     grind
   . have hne:¬ a.toNat * sz=0:=by
       intro h; rcases Nat.mul_eq_zero.1 h with h | h <;> omega
     simp only [hne,if_false,b3S,b4E,hz,b3O,newRow,newObj,Sem.run]
     have:(Array.range (a.toNat * sz)).map (fun i=>zv.cells[i % zv.cells.size]!)=(List.replicate a.toNat zc).flatten.toArray:=by
      rw [hzc,c5s hzl hpos]
      apply b7L
      simp only [Array.toList_map,Array.toList_range,b8S,hzl]
      apply List.map_congr_left
      intro i _
      simp [b5V]
     rw [this]
 . have ho':Own w' b E (List.replicate a.toNat zc).flatten:=by simpa using ho
   have ha:=Ac.lit ho' rfl (J5.rep (hzr Z w') a.toNat)
   rw [b3X] at ha
   exact K b w' (hs.add e ha sAc (fun x hx=>by simp_all) rfl)
theorem Ac.put {o:Nat} {al:List α} {c:List Value} {e:α} {w1:World} (h:Ac r Z w (.slice A nn cap) al bs) (hi:0<=i/\i<nn) (hcs:∀ c0,r.rd Z w c0 (al.getD i.toNat e)->c0.length=r.sz->o+c.length<=r.sz/\r.rd Z w (x7 c0 o c) e) (hp:c.all A2=true) (hnz:∀ b∈bs,¬ Z b) :
  ∃ b T C,A=some ⟨b,0,none⟩/\bs=[b]/\S8 w b T C/\i.toNat * r.sz+o+c.length<=C.length/\∀ w',Ext [b] w w'->S8 w' b T (x7 C (i.toNat * r.sz+o) c)->Ac r Z w' (.slice A nn cap) (al.set i.toNat e) bs:=by
 rcases h with ⟨h1,rfl,rfl⟩ | ⟨b,cap',C,T,hv,rfl,ho,hC,hle,hc⟩
 . grind
 . simp at hv
   obtain ⟨rfl,rfl,rfl⟩:=hv
   have hil:i.toNat<al.length:=by omega
   obtain ⟨c0,g1,g2,g3⟩:=hc i.toNat hil
   obtain ⟨k1,k2⟩:=hcs c0 (by simp_all) g1
   have hroom:i.toNat * r.sz+o+c.length<=C.length:=by
    have:(i.toNat+1) * r.sz<=cap * r.sz:=b4C _ (by omega)
    rw [b5X] at this; omega
   refine ⟨b,T,C,rfl,rfl,ho,hroom,fun w' e' ho'=>.inr ⟨b,cap,_,T,by simp,rfl,ho',by rw [E9,hC],by simp_all,fun j hj=>?_⟩⟩
   have hget:=fun q=>V3 c C (i.toNat * r.sz+o) q hroom
   by_cases hji:j=i.toNat
   . subst hji
     refine ⟨x7 c0 o c,by rw [E9,g1],fun q hq=>?_,?_⟩
     . rw [hget,V3 c c0 o q (by omega)]
       grind
     . rw [List.getElem_set_self]; exact r.mono k2 e' (fun x hx hz=>absurd hz (hnz x hx)) (fun x hx _=>hx)
   . have hj':j<al.length:=by simpa using hj
     obtain ⟨c1,f1,f2,f3⟩:=hc j hj'
     refine ⟨c1,f1,fun q hq=>?_,?_⟩
     . rw [hget,if_neg]
       . exact f2 q hq
       . rintro ⟨a1,a2⟩
         rcases Nat.lt_or_gt_of_ne hji with h | h
         . have:(j+1) * r.sz<=i.toNat * r.sz:=b4C _ h
           grind
         . have:(i.toNat+1) * r.sz<=j * r.sz:=b4C _ h
           grind
     . rw [List.getElem_set_ne (b6D hji)]; exact r.mono f3 e' (fun x hx hz=>absurd hz (hnz x hx)) (fun x hx _=>hx)
theorem a56 {o mm:Nat} {al:List α} {c:List Value} {e:α} (hs:Sep B0 w0 Z w L) (j:Nat) (hj:L[j]?=some (iAc r (.slice A nn cap) al bs O)) (hz:∀ w,(sizeOf T).run P w=.ok mm w) (hx:ev f x=.pointer (some (eA A q))) (hsz:r.sz=sz) (hq:q=i.toNat * sz+o)
  (hc:(ev f y).cells.toList=c) (hm:c.length=mm) (h0:0<=i) (h1:i<nn) (hcs:∀ c0,r.rd Z w c0 (al.getD i.toNat e)->c0.length=r.sz->o+c.length<=r.sz/\r.rd Z w (x7 c0 o c) e) (hp:c.all A2=true)
  (K:∀ w',Sep B0 w0 Z w' (L.set j (iAc r (.slice A nn cap) (al.set i.toNat e) bs O))->WL P false n ops Q rest f w') :
  WL P false n ops Q (⟨none,.store T x y,ty,pos,after,none⟩::rest) f w:=by
 subst hsz; subst hq
 obtain ⟨b,T1,C,rfl,rfl,ho,hroom,hk⟩:=Ac.put (w1:=w) (hs.at j hj) ⟨h0,h1⟩ hcs hp (hs.nz j hj)
 refine b5d hz (o:=i.toNat * r.sz+o) (by rw [hx]; simp [eA]) hc hm ho (by omega) hp fun w' e' _ ho'=>K w' (hs.upd j hj e' (hk w' e' ho') sAc (fun x hx=>⟨.inl hx,by have:=hs.lt j hj x hx; omega⟩) rfl)
theorem c05 {X Y U:Type} {val:X->Y->U->Value} {R:X->Y->U->World->Prop} {Kf:FuncId} {xs:Array Operand} {Ts:Array TypeId} {args:List Value} (hK:∀ ars w,(callFunc Kf ars).run P w=.ok (.enter Kf ars) w) (ha:xs.toList.map (ev f)=args)
  (hc:A6 P Kf args w (fun v w'=>∃ x y u,v=val x y u/\R x y u w')) (hn:Nat.blt d n=true) (K:∀ x y u w',R x y u w'->WL P false n ops Q rest (upd f d (val x y u)) w'):WL P false n ops Q (⟨some d,.call ⟨.value (.func Kf),xs,Ts⟩,ty,pos,after,none⟩::rest) f w :=
 b1y hK ha hc hn (fun _ _ ⟨x,y,u,h1,h2⟩=>by simp_all)
theorem r7 {a:Addr} (hx:ev f x=.pointer (some a)) (hn:Nat.blt d n=true) (K:WL P m n ops Q rest (upd f d (.pointer (some a))) w):WL P m n ops Q (⟨some d,.nilCheck x,ty,pos,after,none⟩::rest) f w :=
 n7 rfl rfl hn (v:=.pointer (some a)) (fun _ _=>by simp [execOp,hx,go_sem]) K
theorem a4v {e:TypeId} (hT:∀ w,(underlying T).run P w=.ok (.pointer e) w) {a:Addr} (w:World):(Op.equal T (.pointer (some a)) (.pointer none)).run P w=.ok false w:=by
 have h:∀ d,(Op.equalIn (d+1) T (.pointer (some a)) (.pointer none)).run P w=.ok false w:=fun d=>by
  unfold Op.equalIn; rw [b3S,hT,b3O]; rfl
 exact h 9999
theorem a7z {e:TypeId} (hT:∀ w,(underlying T).run P w=.ok (.pointer e) w) (w:World):(Op.equal T (.pointer none) (.pointer none)).run P w=.ok true w:=by
 have h:∀ d,(Op.equalIn (d+1) T (.pointer none) (.pointer none)).run P w=.ok true w:=fun d=>by
  unfold Op.equalIn; rw [b3S,hT,b3O]; rfl
 exact h 9999
theorem e25 {e:TypeId} {a:Addr} (hT:∀ w,(underlying T).run P w=.ok (.pointer e) w) (hx:ev f x=.pointer (some a)) (hn:Nat.blt d n=true) (K:WL P m n ops Q rest (upd f d (.bool false)) w) :
  WL P m n ops Q (⟨some d,.binOp .eql T x (.const (.pointer none)) T',ty,pos,after,none⟩::rest) f w :=
 n7 rfl rfl hn (v:=.bool false) (fun w1 _=>by
  have hy:ev f (.const (.pointer none))=Value.pointer none:=rfl
  simp [execOp,hx,hy,eqGuard,binOp,go_sem,a4v hT]) K
theorem d4d {e:TypeId} (hT:∀ w,(underlying T).run P w=.ok (.pointer e) w) (hx:ev f x=.pointer none) (hn:Nat.blt d n=true) (K:WL P m n ops Q rest (upd f d (.bool true)) w) :
  WL P m n ops Q (⟨some d,.binOp .eql T x (.const (.pointer none)) T',ty,pos,after,none⟩::rest) f w :=
 n7 rfl rfl hn (v:=.bool true) (fun w1 _=>by
  have hy:ev f (.const (.pointer none))=Value.pointer none:=rfl
  simp [execOp,hx,hy,eqGuard,binOp,go_sem,a7z hT]) K
theorem c4w {e:TypeId} {a:Addr} (hT:∀ w,(underlying T).run P w=.ok (.pointer e) w) (hx:ev f x=.pointer (some a)) (hn:Nat.blt d n=true) (K:WL P m n ops Q rest (upd f d (.bool true)) w) :
  WL P m n ops Q (⟨some d,.binOp .neq T x (.const (.pointer none)) T',ty,pos,after,none⟩::rest) f w :=
 n7 rfl rfl hn (v:=.bool true) (fun w1 _=>by
  have hy:ev f (.const (.pointer none))=Value.pointer none:=rfl
  simp [execOp,hx,hy,eqGuard,binOp,go_sem,a4v hT]) K
theorem c61 {e:TypeId} {a:Addr} (hT:∀ w,(underlying T).run P w=.ok (.slice e) w) (w:World):(Op.equal T (.slice (some a) nn cap) (.slice none 0 0)).run P w=.ok false w:=by
 have h:∀ d,(Op.equalIn (d+1) T (.slice (some a) nn cap) (.slice none 0 0)).run P w=.ok false w:=fun d=>by
  unfold Op.equalIn; rw [b3S,hT,b3O]; rfl
 exact h 9999
theorem c4t {e:TypeId} (hT:∀ w,(underlying T).run P w=.ok (.slice e) w) (w:World):(Op.equal T (.slice none nn cap) (.slice none 0 0)).run P w=.ok true w:=by
 have h:∀ d,(Op.equalIn (d+1) T (.slice none nn cap) (.slice none 0 0)).run P w=.ok true w:=fun d=>by
  unfold Op.equalIn; rw [b3S,hT,b3O]; rfl
 exact h 9999
theorem d8i {e:TypeId} (hT:∀ w,(underlying T).run P w=.ok (.slice e) w) (hx:ev f x=.slice A nn cap) (hn:Nat.blt d n=true) (K:WL P m n ops Q rest (upd f d (.bool A.isNone)) w) :
  WL P m n ops Q (⟨some d,.binOp .eql T x (.const (.slice none 0 0)) T',ty,pos,after,none⟩::rest) f w :=
 n7 rfl rfl hn (v:=.bool A.isNone) (fun w1 _=>by
  have hy:ev f (.const (.slice none 0 0))=Value.slice none 0 0:=rfl
  cases A with
  | none=>simp [execOp,hx,hy,eqGuard,binOp,go_sem,c4t hT]
  | some a=>simp [execOp,hx,hy,eqGuard,binOp,go_sem,c61 hT]) K
def I5 (T:TypeId) (e:Int):Value:=@ite Value (e=0) (Classical.propDecidable _) .nilIface (.iface T (.int .i64 e))
theorem r8 {T:TypeId}:Value.nilIface=I5 T 0:=by rw [I5,if_pos rfl]
theorem b3n {ms:Array (String×TypeId)} {Te:TypeId} {e:Int} (hT:∀ w,(underlying T).run P w=.ok (.interface ms) w) (hx:ev f x=I5 Te e) (hn:Nat.blt d n=true) (K:WL P m n ops Q rest (upd f d (.bool (decide (e≠0)))) w) :
  WL P m n ops Q (⟨some d,.binOp .neq T x (.const .nilIface) T',ty,pos,after,none⟩::rest) f w:=by
 by_cases h:e=0
 . subst h
   rw [b5K (by simp)] at K
   exact d4i hT (hx.trans r8.symm) hn K
 . have hx':ev f x=.iface Te (.int .i64 e):=by rw [hx,I5,if_neg h]
   refine e2h hT hx' hn ?_
   simp_all
theorem o6 {T:TypeId} {e:Int} (h:e≠0):Value.iface T (.int .i64 e)=I5 T e:=by rw [I5,if_neg h]
end
end Go.Wl
end
section
namespace Go.Wl
open Go Go.Wk
def a27 (D:Nat->Bool) (i:Nat):Nat->Bool:=fun j=>bif Nat.beq j i then true else D j
def U5 (V:Nat->Value) (i:Nat) (v:Value):Nat->Value:=fun j=>bif Nat.beq j i then v else V j
theorem a2r {D:Nat->Bool} {i:Nat}:a27 D i i=true:=by unfold a27; rw [b7Y]; rfl
theorem M7 {D:Nat->Bool} {i j:Nat} (h:j≠i):a27 D i j=D j:=by unfold a27; rw [a1s h]; rfl
theorem T9 {V:Nat->Value} {i:Nat} {v:Value}:U5 V i v i=v:=by unfold U5; rw [b7Y]; rfl
theorem a2v {V:Nat->Value} {i j:Nat} {v:Value} (h:j≠i):U5 V i v j=V j:=by unfold U5; rw [a1s h]; rfl
abbrev JP:=(Nat->Bool)->(Nat->Value)->World->Prop
section
variable {P:Program} {n:Nat} {l:List Oper} {Q:Exit->Fr->World->Prop} {f0:Fr}
def c88 (P:Program) (n:Nat) (l:List Oper) (ms:List Nat) (J:JP) (f0:Fr) (i:Nat) (o:Oper):Prop :=
 ∀ D V g w,J D V w->D i=false->(∀ j,(ms.getD i 0).testBit j=true->D j=true)->(∀ j,(ms.getD j 0).testBit i=true->D j=false)->(∀ j t,D j=true->q8 l j=some t->g t=V j)->(∀ t,X9 ms i t l 0=true->g t=f0 t) ->
  WL P false n l (fun e g' w'=>e=.normal/\∃ v,g'=M0 g o.dst v/\J (a27 D i) (U5 V i v) w') [o] g w
inductive a3d (P:Program) (n:Nat) (l:List Oper) (ms:List Nat) (J:JP) (f0:Fr):Nat->List Oper->Prop
 | nil {i:Nat}:a3d P n l ms J f0 i []
 | cons {i:Nat} {o:Oper} {r:List Oper}:c88 P n l ms J f0 i o->a3d P n l ms J f0 (i+1) r->a3d P n l ms J f0 i (o::r)
theorem a3d.get {ms:List Nat} {J:JP} {k:Nat} {r:List Oper} (h:a3d P n l ms J f0 k r):∀ x o,r[x]?=some o->c88 P n l ms J f0 (k+x) o:=by
 induction h with
 | nil=>intro x o h; simp at h
 | @cons i o r h _ ih=>intro x o' ho; cases x with
  | zero=>simp at ho; subst ho; exact h
  | succ x =>
   have:=ih x o' (by simpa using ho)
   rwa [show i+1+x=i+(x+1) by omega] at this
structure d2y (l:List Oper) (J:JP) (f0:Fr) (L:Array Bool) (V:Nat->Value) (g:Fr) (w:World):Prop where
 size:L.size=l.length
 inv:J (fun j=>L.getD j false) V w
 done:∀ j t,L[j]?=some true->q8 l j=some t->g t=V j
 kept:∀ t,(∀ j,L[j]?=some true->q8 l j≠some t)->g t=f0 t
 closed:∀ (j:Nat) (o:Oper),L[j]?=some true->l[j]?=some o->∀ e∈o.after,Region.binds .any e=true->L[e.on]?=some true
theorem d2y.old {J:JP} {L:Array Bool} {V:Nat->Value} {g:Fr} {w:World} (h:d2y l J f0 L V g w):Inv l (fun _=>True) (fun _ _ _=>True) f0 L g w :=
 ⟨h.size,trivial,fun _ _ _ _=>trivial,h.kept,h.closed⟩
theorem a2f {L:Array Bool} {j:Nat} (h:L.getD j false=true):L[j]?=some true:=by
 rw [b5E] at h
 cases hL:L[j]? with
 | none=>rw [hL] at h; cases h
 | some b=>rw [hL] at h; simp at h; rw [h]
theorem L8 {id:Nat} {w:World} (J:JP) (S:List Nat) (hm:P.follows .mixedOrders=true) (ha:(K6 l && a97 l [] && b18 S n l)=true)
  (ms:List Nat) (hms:b15 l=ms) (h0:∀ V,J (fun _=>false) V w) (step:a3d P n l ms J f0 0 l)
  (fin:∀ D V g w',(∀ j,Nat.blt j l.length=true->D j=true)->J D V w'->(∀ j t,Nat.blt j l.length=true->q8 l j=some t->g t=V j)->(∀ t,S.elem t=false->g t=f0 t)->∃ L,M5 g L/\∀ g',Q .normal (a0p g' L) w') :
  W P n (.region id l.toArray true) Q f0 w:=by
 subst hms
 rw [b3R,b3R] at ha
 obtain ⟨⟨ha,hu⟩,hin⟩:=ha
 obtain ⟨_,huniq⟩:=c30 hu
 have hlt:=c3l hin
 have main:∀ (ro:Option Nat) (ds:List Deferred) (fuel:Nat) (L:Array Bool) (a:Act) (V:Nat->Value) (g:Fr) (w' w1:World),count L=fuel->Is a g n->a.defers=ds->Sim w' w1->d2y l J f0 L V g w'->wpAnyIn (R7 ro) 0 P .any l.toArray (lift n ds Q) fuel L a w1:=by
  intro ro ds
  have finish:∀ (L:Array Bool) (a:Act) (V:Nat->Value) (g:Fr) (w' w1:World),Is a g n->a.defers=ds->Sim w' w1->d2y l J f0 L V g w'->(∀ i,i<l.length->L[i]?=some true)->lift n ds Q .normal a w1:=by
   intro L a V g w' w1 hg hds hs hinv hall
   have ⟨L',h1,h2⟩:=fin _ V g w' (fun j hj=>by rw [b5E,hall j (D3 hj)]; rfl) hinv.inv (fun j t hj hjt=>hinv.done j t (hall j (D3 hj)) hjt) (fun t ht=>hinv.kept t fun j _ hj=>by have:=(hlt j t hj).1; rw [this] at ht; cases ht)
   have h3:=h2 g
   rw [h1.eq] at h3
   exact ⟨g,w',hg,hds,hs,h3⟩
  intro fuel
  induction fuel with
  | zero =>
   intro L a V g w' w1 hc hg hds hs hinv
   have hall:∀ i,i<l.length->L[i]?=some true:=by
    intro i hi
    cases hL:L[i]? with
    | none=>rw [b9Q,hinv.size] at hL; omega
    | some b=>cases b with
     | true=>rfl
     | false=>have:=count_set hL; omega
   refine ⟨?_,finish L a V g w' w1 hg hds hs hinv hall⟩
   cases hr:Region.ready .any l.toArray L with
   | nil=>rfl
   | cons i r =>
    have hm:i∈Region.ready .any l.toArray L:=by rw [hr]; simp
    obtain ⟨o,ho,h1,_⟩:=Q3.1 hm
    have hlt:i<l.length:=by
     rcases b5N i l.length with h | h
     . exact h
     . rw [b6S h] at ho; cases ho
    simp [hall i hlt] at h1
  | succ fuel ih =>
   intro L a V g w' w1 hc hg hds hs hinv
   refine ⟨fun hr=>finish L a V g w' w1 hg hds hs hinv (a3s ha hinv.size hr),fun i hi=>?_⟩
   obtain ⟨o,ho,h1,h2⟩:=Q3.1 hi
   have hil:i<l.length:=by
    rcases b5N i l.length with h | h
    . exact h
    . rw [b6S h] at ho; cases ho
   have hiL:i<L.size:=by rw [hinv.size]; exact hil
   have hLi:L[i]?=some false:=by
    simp [hiL] at h1 ⊢
    exact h1
   have hdeps:∀ e∈o.after,Region.binds .any e=true->L[e.on]?=some true:=fun e he hb=>by
    have:=h2 e he hb
    cases hx:L[e.on]? with
    | none=>simp [hx] at this
    | some b=>simp [hx] at this; rw [this]
   have hone:=step.get i o ho
   rw [b6J] at hone
   have hone:=hone (fun j=>L.getD j false) V g w' hinv.inv (by rw [b5E,hLi]; rfl)
    (fun j hb=>by
     have:=(a03 i j hb).listed hinv.old fun o' ho'=>by rw [ho] at ho'; cases ho'; exact hdeps
     rw [b5E,this]; rfl)
    (fun j hb=>by
     cases hx:L.getD j false with
     | false=>rfl
     | true =>
      exfalso
      have hj:=a2f hx
      have:=(a03 j i hb).listed hinv.old fun o' ho' e he hbe=>hinv.closed j o' hj ho' e he hbe
      rw [hLi] at this; cases this)
    (fun j t hj hjt=>hinv.done j t (a2f hj) hjt)
    (fun t hk=>hinv.kept t fun j hj hjt=>by
     rcases b4o (l:=l) (k:=0) (by simp) hk j (b6N _) hjt with e | hb
     . subst e; rw [hLi] at hj; cases hj
     . have:=(a03 j i hb).listed hinv.old fun o' ho' e he hbe=>hinv.closed j o' hj ho' e he hbe
       rw [hLi] at this; cases this)
   refine c07 ho hg hds hs (S:=fun g' w2=>∃ v,g'=M0 g o.dst v/\J (a27 (fun j=>L.getD j false) i) (U5 V i v) w2) hone ?_
   rintro g' w2 a' w3 ⟨v,rfl,hv⟩ hg' hds' hs'
   have hdo:q8 l i=o.dst:=M1 ho
   have hget:∀ j,(L.setIfInBounds i true)[j]?=some true->j=i ∨ L[j]?=some true:=by
    intro j hj
    by_cases hji:j=i
    . exact .inl hji
    . rw [b5Z (b6D hji)] at hj; exact .inr hj
   have hgo:∀ t,o.dst≠some t->M0 g o.dst v t=g t:=by
    intro t ht
    unfold M0
    cases hdd:o.dst with
    | none=>rfl
    | some u=>simp only; rw [M6,if_neg (fun e=>ht (by rw [hdd,e]))]
   have hDD:a27 (fun j=>L.getD j false) i=fun j=>(L.setIfInBounds i true).getD j false:=by
    funext j
    by_cases hji:j=i
    . subst hji; rw [a2r,b5E,b6H hiL]; rfl
    . rw [M7 hji,b5E,b5E,b5Z (b6D hji)]
   rw [hDD] at hv
   refine ih _ a' (U5 V i v) (M0 g o.dst v) w2 w3 (by have:=count_set hLi; omega) hg' hds' hs' ⟨by simp [hinv.size],hv,fun j t hj hjt=>?_,fun t ht=>?_,fun j p hj hp e he hb=>?_⟩
   . rcases hget j hj with e | hj'
     . rw [e] at hjt ⊢
       rw [T9]; rw [hdo] at hjt; unfold M0; simp only [hjt]; rw [M6,if_pos rfl]
     . have hji:j≠i:=fun e=>by rw [e,hLi] at hj'; cases hj'
       have hne:o.dst≠some t:=fun e=>hji (huniq j i t hjt (hdo.trans e))
       rw [hgo t hne,a2v hji]; exact hinv.done j t hj' hjt
   . have hne:o.dst≠some t:=fun e=>ht i (by rw [b6H hiL]) (hdo.trans e)
     rw [hgo t hne]
     refine hinv.kept t fun j hj=>ht j ?_
     by_cases hji:j=i
     . subst hji; rw [hLi] at hj; cases hj
     . rw [b5Z (b6D hji)]; exact hj
   . have mark:L[e.on]?=some true->(L.setIfInBounds i true)[e.on]?=some true:=fun h=>by
       by_cases hei:e.on=i
       . rw [hei,b6H hiL]
       . rw [b5Z (b6D hei)]; exact h
     rcases hget j hj with rfl | hj'
     . rw [ho] at hp; cases hp; exact mark (hdeps e he hb)
     . exact mark (hinv.closed j p hj' hp e he hb)
 intro a w1 hf hs ro
 have hrep:∀ j,(Array.replicate l.toArray.size false)[j]?≠some true:=fun j h=>by
  rw [Array.getElem?_replicate] at h; split at h <;> cases h
 refine wpIn_region_any hm (main ro a.defers _ _ a (fun _=>undef) f0 w _ ?_ hf rfl (hs.trans (Sim.drawn _ _)) ⟨by simp,?_,fun j t hj=>absurd hj (hrep j),fun _ _=>rfl,fun j o hj=>absurd hj (hrep j)⟩)
 . simp [count]
 . have:(fun j=>(Array.replicate l.toArray.size false).getD j false)=fun _=>false:=by
     funext j
     cases h:(Array.replicate l.toArray.size false).getD j false with
     | false=>rfl
     | true=>exact absurd (a2f h) (hrep j)
   rw [this]; exact h0 _
end
end Go.Wl
namespace Go.Wl
open Go Go.Wk
section
variable {α β:Type} {r:Rd α} {s:Rd β} {Z:Nat->Prop} {w:World} {A:Option Addr} {nn cap:Nat} {l:List α} {bs:List Nat}
theorem b2j [Inhabited α] {o q sz:Nat} {i:Int} {g:α->β} (h:Ac r Z w (.slice A nn cap) l bs) (sub:Sub r o s g) (hsz:r.sz=sz) (hq:q=i.toNat * sz+o) (h0:0<=i) (h1:i<nn) :
  ∃ c,a5f w (eA A q) c/\s.rd Z w c (g (ix l i)):=by
 subst hsz; subst hq
 rcases h with ⟨e,rfl,rfl⟩ | ⟨b,cap',C,T,hv,rfl,ho,hC,hle,hc⟩
 . simp at e; omega
 . simp at hv
   obtain ⟨rfl,rfl,rfl⟩:=hv
   have hi:i.toNat<l.length:=by omega
   obtain ⟨c,g1,g2,g3⟩:=hc i.toNat hi
   have hs:=sub.1
   obtain ⟨z,_,ho⟩:=ho
   refine ⟨(c.drop o).take s.sz,⟨rfl,_,_,_,ho,fun j hj=>?_⟩,by rw [C5 hi]; exact sub.2 g3⟩
   simp only [b3U,b3W] at hj
   have:=g2 (o+j) (by omega)
   rw [b9N,if_pos (by omega),List.getElem?_drop,<- this]
   show C.toArray[0+(i.toNat * r.sz+o)+j]?=_
   simp only [b5B]
   congr 1; omega
theorem Ac.len (h:Ac r Z w (.slice A nn cap) l bs):l.length=nn:=by
 obtain ⟨A',cap',e⟩:=h.val
 simp at e; exact e.2.1.symm
section
variable {P:Program} {m:Bool} {n:Nat} {ops:List Oper} {Q:Exit->Fr->World->Prop} {rest:List Oper} {f:Fr} {d sz:Nat} {ty T E:TypeId} {pos:String} {after:Array Edge} {x y:Operand} {k:IntKind} {i:Int}
theorem U1 (h:Ac r Z w (.slice A nn cap) l bs) (hT:∀ w,(underlying T).run P w=.ok (.slice E) w) (hE:∀ w,(sizeOf E).run P w=.ok sz w) (hx:ev f x=.slice A nn cap) (hy:ev f y=.int k i)
  (h0:0<=i) (h1:i<nn) (hn:Nat.blt d n=true) (K:WL P m n ops Q rest (upd f d (.pointer (some (eA A (i.toNat * sz))))) w) :
  WL P m n ops Q (⟨some d,.indexAddr T x y,ty,pos,after,none⟩::rest) f w:=by
 rcases h with ⟨e,rfl,rfl⟩ | ⟨b,cap',C,T,hv,rfl,ho,hC,hle,hc⟩
 . simp at e; omega
 . simp at hv
   obtain ⟨rfl,rfl,rfl⟩:=hv
   refine n7 rfl rfl hn (v:=.pointer (some ⟨b,0+i.toNat * sz,none⟩)) (fun w1 hs=>?_) K
   simp only [execOp,hx,hy,b3S,Y9 hT hE h0 h1]
   rfl
end
end
def S5 (w w':World) (F F':List Nat):Prop:=Ext F w w'/\∀ b∈F',b∈F ∨ w.heap.size<=b
theorem Sep.turn {B0:List Nat} {w0 w w':World} {Z:Nat->Prop} {l:List It} {α:Type} {o:Ob α} {x x':α} {F F' O:List Nat} (hs:Sep B0 w0 Z w l) (k:Nat) (hk:l[k]?=some (iOb o x F O)) (h:o.is Z w' x' F') (t:S5 w w' F F') :
  Sep B0 w0 Z w' (l.set k (iOb o x' F' O)):=hs.upd k hk t.1 h sOb (fun b hb=>⟨t.2 b hb,o.lt h b hb⟩) rfl
theorem Sep.a7J {B0:List Nat} {w0 w w':World} {Z:Nat->Prop} {l:List It} {α:Type} {r:Rd α} {v:Value} {x:List α} {bs:List Nat} (hs:Sep B0 w0 Z w l) (e:Ext [] w w') (h:Ac r Z w' v x bs) (hF:∀ b∈bs,w.heap.size<=b) :
  Sep B0 w0 Z w' (iAc r v x bs []::l):=hs.add e h sAc (fun b hb=>⟨hF b hb,h.lt b hb⟩) rfl
theorem Sep.split {B0:List Nat} {w0 w:World} {Z:Nat->Prop} {l ts:List It} {t:It} (hs:Sep B0 w0 Z w (t::l)) (h:∀ u∈ts,u.P Z w/\u.a2B/\(∀ b∈u.F,b∈t.F)/\u.O=t.O) (ha:ts.Pairwise (fun a b=>∀ x∈a.F,x ∉ b.F)):Sep B0 w0 Z w (ts++l):=by
 have ok:=hs.ok 0 t rfl
 have get:∀ (j:Nat) (u:It),(ts++l)[j]?=some u->(j<ts.length/\ts[j]?=some u/\u∈ts) ∨ (ts.length<=j/\l[j-ts.length]?=some u):=by
  intro j u hj
  by_cases h1:j<ts.length
  . rw [b3Z h1] at hj; exact .inl ⟨h1,hj,b4S hj⟩
  . rw [b4A (by omega)] at hj; exact .inr ⟨by omega,hj⟩
 have pw:=b7N.1 ha
 refine ⟨hs.ext,hs.zlt,fun j u hj=>?_,fun i j a b hi hj hne=>?_⟩
 . rcases get j u hj with ⟨_,_,hm⟩ | ⟨h1,h2⟩
   . obtain ⟨p,st,hF,hO⟩:=h u hm
     exact ⟨p,st,fun b hb=>ok.lt b (hF b hb),fun b hb=>ok.a1X b (hF b hb),fun b hb=>by rw [hO]; exact ok.org b (hF b hb),by rw [hO]; exact ok.a3L⟩
   . exact hs.ok (j-ts.length+1) u (by simpa using h2)
 . rcases get i a hi with ⟨i1,i2,im⟩ | ⟨i1,i2⟩
   . rcases get j b hj with ⟨j1,j2,jm⟩ | ⟨j1,j2⟩
     . rw [b3T i1] at i2; rw [b3T j1] at j2
       cases i2; cases j2
       rcases Nat.lt_or_gt_of_ne hne with hlt | hlt
       . exact pw i j i1 j1 hlt
       . exact fun x hx hx'=>pw j i j1 i1 hlt x hx' hx
     . exact fun x hx=>hs.apart 0 (j-ts.length+1) t b rfl (by simpa using j2) (by omega) x ((h a im).2.2.1 x hx)
   . rcases get j b hj with ⟨j1,j2,jm⟩ | ⟨j1,j2⟩
     . exact fun x hx hx'=>hs.apart (i-ts.length+1) 0 a t (by simpa using i2) rfl (by omega) x hx ((h b jm).2.2.1 x hx')
     . exact hs.apart (i-ts.length+1) (j-ts.length+1) a b (by simpa using i2) (by simpa using j2) (by omega)
theorem Sep.one {w0:World} {Z:Nat->Prop} {α:Type} {o:Ob α} {x:α} {F:List Nat} (h:o.is Z w0 x F) (zlt:∀ b,Z b->b<w0.heap.size) (hZ:∀ b∈F,¬ Z b):Sep F w0 Z w0 [iOb o x F F] :=
 Sep.a9Z (Sep.nil zlt) h sOb (o.lt h) hZ rfl (fun b hb=>hb) (fun k s hk=>by simp at hk)
theorem a2u {P:Program} {n:Nat} {c:Code} {Q:Exit->Fr->World->Prop} {f:Fr} {w:World} (I:Nat->Fr->World->Prop) (h0:∃ m,I m f w)
  (round:∀ m f w,I m f w->W P n c (c1p (fun f' w'=>∃ m',m'<m/\I m' f' w') Q) f w):W P n (.loop c) Q f w:=by
 obtain ⟨m,h0⟩:=h0
 exact d8q I m h0 round
end Go.Wl
end
section
namespace Go.Rx
open Go Go.Wk Go.Wl
section
variable {P:Program} {n:Nat} {l:List Oper} {Q:Exit->Fr->World->Prop} {f0:Fr}
theorem b3f {id:Nat} {w:World} (hm:P.follows .mixedOrders=true) (ha:K6 l=true) (G:(Nat->Bool)->Fr->World->Prop) (h0:G (fun _=>false) f0 w)
  (step:∀ D g w',G D g w'->∀ i o,l[i]?=some o->D i=false->(∀ e∈o.after,Region.binds .any e=true->D e.on=true)->WL P false n l (fun e g2 w2=>e=.normal/\G (a27 D i) g2 w2) [o] g w')
  (fin:∀ D g w',G D g w'->(∀ j,j<l.length->D j=true)->Q .normal g w'):W P n (.region id l.toArray true) Q f0 w:=by
 have main:∀ (ro:Option Nat) (ds:List Deferred) (fuel:Nat) (L:Array Bool) (a:Act) (g:Fr) (w' w1:World),count L=fuel->Is a g n->a.defers=ds->Sim w' w1->L.size=l.length->G (fun j=>L.getD j false) g w'->wpAnyIn (R7 ro) 0 P .any l.toArray (lift n ds Q) fuel L a w1:=by
  intro ro ds
  have finish:∀ (L:Array Bool) (a:Act) (g:Fr) (w' w1:World),Is a g n->a.defers=ds->Sim w' w1->G (fun j=>L.getD j false) g w'->(∀ i,i<l.length->L[i]?=some true)->lift n ds Q .normal a w1:=fun L a g w' w1 hg hds hs hG hall =>
   ⟨g,w',hg,hds,hs,fin _ g w' hG fun j hj=>by simp_all⟩
  intro fuel
  induction fuel with
  | zero =>
   intro L a g w' w1 hc hg hds hs hsz hG
   have hall:∀ i,i<l.length->L[i]?=some true:=by
    intro i hi
    cases hL:L[i]? with
    | none=>simp_all
    | some b=>cases b with
     | true=>rfl
     | false=>have:=count_set hL; omega
   refine ⟨?_,finish L a g w' w1 hg hds hs hG hall⟩
   cases hr:Region.ready .any l.toArray L with
   | nil=>rfl
   | cons i r =>
    have hm:i∈Region.ready .any l.toArray L:=by rw [hr]; simp
    obtain ⟨o,ho,h1,_⟩:=Q3.1 hm
    have hlt:i<l.length:=by
     rcases b5N i l.length with h | h
     . exact h
     . simp_all
    simp_all
  | succ fuel ih =>
   intro L a g w' w1 hc hg hds hs hsz hG
   refine ⟨fun hr=>finish L a g w' w1 hg hds hs hG (a3s ha hsz hr),fun i hi=>?_⟩
   obtain ⟨o,ho,h1,h2⟩:=Q3.1 hi
   have hil:i<l.length:=by
    rcases b5N i l.length with h | h
    . exact h
    . simp_all
   have hiL:i<L.size:=by rw [hsz]; exact hil
   have hLi:L[i]?=some false:=by
    simp [hiL] at h1 ⊢
    exact h1
   refine c07 ho hg hds hs (S:=fun g' w2=>G (a27 (fun j=>L.getD j false) i) g' w2) (step _ g w' hG i o ho (by simp_all) h2) ?_
   intro g' w2 a' w3 hv hg' hds' hs'
   have hDD:a27 (fun j=>L.getD j false) i=fun j=>(L.setIfInBounds i true).getD j false:=by
    funext j
    by_cases hji:j=i
    . subst hji; rw [a2r,b5E,b6H hiL]; rfl
    . rw [M7 hji,b5E,b5E,b5Z (b6D hji)]
   rw [hDD] at hv
   exact ih _ a' g' w2 w3 (by have:=count_set hLi; omega) hg' hds' hs' (by simp [hsz]) hv
 intro a w1 hf hs ro
 refine wpIn_region_any hm (main ro a.defers _ _ a f0 w _ ?_ hf rfl (hs.trans (Sim.drawn _ _)) (by simp) ?_)
 . simp [count]
 . have:(fun j=>(Array.replicate l.toArray.size false).getD j false)=fun _=>false:=by
     funext j
     cases h:(Array.replicate l.toArray.size false).getD j false with
     | false=>rfl
     | true =>
      exfalso
      have h:=a2f h
      grind
   simp_all
end
end Go.Rx
end
section
namespace Go.Wl
open Go Go.Wk
def u9 {κ α:Type} (enc:α->Value) (L:List (κ×α)):List (κ×Value):=L.map fun p=>(p.1,enc p.2)
theorem b0a {κ α:Type} {enc:α->Value} {L:List (κ×α)}:(u9 enc L).map (·.1)=L.map (·.1):=by simp [u9]
section
variable {κ α:Type} [DecidableEq κ]
def s9:List (κ×α)->κ->Option α
 | [],_=>none
 | p::r,k=>if k=p.1 then some p.2 else s9 r k
def O4:List (κ×α)->κ->α->List (κ×α)
 | [],k,v=>[(k,v)]
 | p::r,k,v=>if k=p.1 then (k,v)::r else p::O4 r k v
def a6g (L:List (κ×α)) (k:κ):List (κ×α):=L.filter fun p=>¬ k=p.1
theorem b44 {L:List (κ×α)} {k j:κ} {v:α}:s9 (O4 L k v) j=if j=k then some v else s9 L j:=by
 induction L with
 | nil=>by_cases h:j=k <;> simp [O4,s9,h]
 | cons p r ih =>
  simp only [O4]
  by_cases hk:k=p.1
  . rw [if_pos hk]
    by_cases hj:j=k
    . simp [s9,hj]
    . simp [s9,hj,<- hk]
  . rw [if_neg hk]
    simp only [s9,ih]
    grind
theorem a9q {L:List (κ×α)} {k j:κ}:s9 (a6g L k) j=if j=k then none else s9 L j:=by
 induction L with
 | nil=>simp [a6g,s9]
 | cons p r ih =>
  unfold a6g at ih ⊢
  by_cases hk:k=p.1
  . rw [List.filter_cons_of_neg (by simp [hk]),ih]
    by_cases hj:j=k
    . simp_all
    . rw [if_neg hj,if_neg hj]; simp only [s9]; simp_all
  . rw [List.filter_cons_of_pos (by simp [hk])]
    simp only [s9,ih]
    grind
theorem c69 {L:List (κ×α)} {k:κ}:(s9 L k).isSome=true↔k∈L.map (·.1):=by
 induction L with
 | nil=>simp [s9]
 | cons p r ih =>
  simp only [s9]
  grind
theorem d6s {L:List (κ×α)} (h:(L.map (·.1)).Nodup) {k:κ} {v:α} (hm:(k,v)∈L):s9 L k=some v:=by
 induction L with
 | nil=>cases hm
 | cons p r ih =>
  simp only [b4W,b5U] at h
  simp only [s9]
  grind
theorem b87 {L:List (κ×α)} {k:κ} {v:α} (h:(L.map (·.1)).Nodup):((O4 L k v).map (·.1)).Nodup:=by
 have keys:∀ (L:List (κ×α)) x,x∈(O4 L k v).map (·.1)->x=k ∨ x∈L.map (·.1):=by
  intro L
  induction L with
  | nil=>intro x hx; simp [O4] at hx; exact .inl hx
  | cons p r ih =>
   intro x hx
   simp only [O4] at hx
   grind
 induction L with
 | nil=>simp [O4]
 | cons p r ih =>
  simp only [b4W,b5U] at h
  simp only [O4]
  grind
variable {enc:α->Value} {L:List (κ×α)} {k:κ} {v:α}
theorem a8d:a8c (u9 enc L) k=(s9 L k).map enc:=by
 induction L with
 | nil=>rfl
 | cons p r ih => simp only [  u9,           b4W,  a8c,   s9]; split
                  . rfl
                  . exact ih
theorem c8y:a30 (u9 enc L) k (enc v)=u9 enc (O4 L k v):=by
 induction L with
 | nil=>rfl
 | cons p r ih =>
  simp only [u9,b4W,a30,O4]
  by_cases h:k=p.1
  . simp_all
  . rw [if_neg h,if_neg h,b4W]; exact congrArg _ ih
theorem c6d:a6k (u9 enc L) k=u9 enc (a6g L k):=by
 unfold a6k u9 a6g
 rw [List.filter_map]; rfl
end
abbrev av (s:Str):Value:=.agg (s.map bv).toArray
section
variable {P:Program} {m:Bool} {n:Nat} {ops:List Oper} {Q:Exit->Fr->World->Prop} {rest:List Oper} {f:Fr} {w w0:World} {d:Nat} {Z D:Nat->Prop} {B0:List Nat} {L:List It}
variable {ty T T' T2 E Kt:TypeId} {pos:String} {after:Array Edge} {x y z:Operand} {k:IntKind} {v zv:Value} {i:Int} {p:Bool}
variable {α β κ:Type} {r:Rd α} {A:Option Addr} {nn cap q sz b it:Nat} {O bs:List Nat} {s t:Str} {c:UInt8} {ky:Key κ} {enc:α->Value} {am:List (κ×α)} {key:κ}
theorem b1a (ky:Key κ) (enc:α->Value) (hs:Sep B0 w0 Z w L) (hn:Nat.blt d n=true) (K:∀ b w',Sep B0 w0 Z w' (L7 ky b (u9 enc []) []::L)->WL P false n ops Q rest (upd f d (.map (some b))) w') :
  WL P false n ops Q (⟨some d,.makeMap T none,ty,pos,after,none⟩::rest) f w :=
 c4n hn fun b w' e h1 h2 hm=>K b w' (hs.add e hm c6l (fun x hx=>by simp_all) rfl)
theorem a1n [DecidableEq κ] {vv:α} (hs:Sep B0 w0 Z w L) (j:Nat) (hj:L[j]?=some (L7 ky b (u9 enc am) O)) (hT:∀ w,(underlying T).run P w=.ok (.map Kt E) w) (hK:∀ w,(underlying Kt).run P w=.ok ky.kind w) (hx:ev f x=.map (some b)) (hy:ev f y=ky.enc key) (hv:ev f z=enc vv)
  (K:∀ w',Sep B0 w0 Z w' (L.set j (L7 ky b (u9 enc (O4 am key vv)) O))->WL P false n ops Q rest f w'):WL P false n ops Q (⟨none,.mapUpdate T x y z,ty,pos,after,none⟩::rest) f w :=
 b4u hT hK hx hy hv (hs.at j hj) fun w' e h1 hm=>K w' (hs.upd j hj e (by rw [<- c8y]; exact hm) c6l (fun x hx=>⟨.inl hx,by have:=hs.lt j hj x hx; omega⟩) rfl)
theorem c7x [DecidableEq κ] (hs:Sep B0 w0 Z w L) (j:Nat) (hj:L[j]?=some (L7 ky b (u9 enc am) O)) (hT:∀ w,(underlying T).run P w=.ok (.map Kt E) w) (hK:∀ w,(underlying Kt).run P w=.ok ky.kind w) (hx:ev f x=.map (some b)) (hy:ev f y=ky.enc key)
  (K:∀ w',Sep B0 w0 Z w' (L.set j (L7 ky b (u9 enc (a6g am key)) O))->WL P false n ops Q rest f w'):WL P false n ops Q (⟨none,.call ⟨.builtin .delete,#[x,y],#[T,Kt]⟩,ty,pos,after,none⟩::rest) f w :=
 c8v hT hK hx hy (hs.at j hj) fun w' e h1 hm=>K w' (hs.upd j hj e (by rw [<- c6d]; exact hm) c6l (fun x hx=>⟨.inl hx,by have:=hs.lt j hj x hx; omega⟩) rfl)
theorem c6z [DecidableEq κ] {z0:α} (h:F5 ky w b (u9 enc am)) (hT:∀ w,(underlying T).run P w=.ok (.map Kt E) w) (hK:∀ w,(underlying Kt).run P w=.ok ky.kind w) (hz:∀ w,(zeroValue E).run P w=.ok zv w) (hz0:zv=enc z0) (hx:ev f x=.map (some b)) (hy:ev f y=ky.enc key)
  (hn:Nat.blt d n=true) (K:WL P m n ops Q rest (upd f d (enc ((s9 am key).getD z0))) w):WL P m n ops Q (⟨some d,.lookup T x y false,ty,pos,after,none⟩::rest) f w :=
 c4q hT hK hz hx hy h (by rw [a8d,hz0]; simp_all) hn K
theorem a3i [DecidableEq κ] {z0:α} (h:F5 ky w b (u9 enc am)) (hT:∀ w,(underlying T).run P w=.ok (.map Kt E) w) (hK:∀ w,(underlying Kt).run P w=.ok ky.kind w) (hz:∀ w,(zeroValue E).run P w=.ok zv w) (hz0:zv=enc z0) (hx:ev f x=.map (some b)) (hy:ev f y=ky.enc key)
  (hn:Nat.blt d n=true) (K:WL P m n ops Q rest (upd f d (.tuple #[enc ((s9 am key).getD z0),.bool (s9 am key).isSome])) w):WL P m n ops Q (⟨some d,.lookup T x y true,ty,pos,after,none⟩::rest) f w :=
 b95 hT hK hz hx hy h (by rw [a8d,hz0]; simp_all) (by rw [a8d]; simp_all) hn K
theorem d4e {dm:List (κ×α)} {kk:κ} {vv:α} (h:Iter ky w it b (u9 enc am) (u9 enc (dm++[(kk,vv)]))) (hx:ev f x=.pointer (some ⟨it,0,none⟩)) (hn:Nat.blt d n=true)
  (K:WL P m n ops Q rest (upd f d (.tuple #[ky.enc kk,enc vv])) w):WL P m n ops Q (⟨some d,.entry x,ty,pos,after,none⟩::rest) f w :=
 d2s hx (D:=u9 enc dm) (by simpa [u9] using h) hn K
theorem F5.keys {dm:List (κ×α)} (h:F5 ky w b (u9 enc dm)):(dm.map (·.1)).Nodup:=by have:=F5.nodup h; rwa [b0a] at this
theorem e01 (hT:∀ w,(underlying T).run P w=.ok .string w) (hx:ev f x=sv s) (hn:Nat.blt d n=true) (K:WL P m n ops Q rest (upd f d (.int .i64 s.length)) w) :
  WL P m n ops Q (⟨some d,.call ⟨.builtin .len,#[x],#[T]⟩,ty,pos,after,none⟩::rest) f w :=
 e0c hT hx hn (by rw [W8]; exact K)
theorem c6s (hT:∀ w,(underlying T).run P w=.ok .string w) (hx:ev f x=sv s) (hy:ev f y=.int k i) (h0:0<=i) (h1:i<s.length) (hn:Nat.blt d n=true) (K:WL P m n ops Q rest (upd f d (bv (ix s i))) w) :
  WL P m n ops Q (⟨some d,.index T x y,ty,pos,after,none⟩::rest) f w :=
 n7 rfl rfl hn (v:=bv (ix s i)) (fun _ _=>by
  have hi:i.toNat<s.length:=by omega
  have e:(⟨s.toArray⟩:ByteArray)[i.toNat]?=some (ix s i):=by
   rw [C5 hi]
   have h':i.toNat<(⟨s.toArray⟩:ByteArray).size:=by rw [W8]; exact hi
   rw [getElem?_pos (⟨s.toArray⟩:ByteArray) i.toNat h']
   rfl
  simp [execOp,hx,hy,sv,Instr.index,asIntOf,hT,go_sem,h0,e,bv]) K
theorem b98 {s:Str} {a b:Nat} (h:a<=b) (h2:b<=s.length):(⟨s.toArray⟩:ByteArray).extract a b=⟨((s.take b).drop a).toArray⟩:=by
 apply b9A
 apply b7L
 simp [ByteArray.data_extract,b6T]
theorem c6u {lo hi:Option Operand} {a e:Int} (hT:∀ w,(underlying T).run P w=.ok .string w) (hx:ev f x=sv s) (hlo:match lo with | some o=>ev f o=.int .i64 a | none=>a=0) (hhi:match hi with | some o=>ev f o=.int .i64 e | none=>e=s.length) (h0:0<=a/\a<=e/\e<=s.length) (hn:Nat.blt d n=true)
  (K:WL P m n ops Q rest (upd f d (sv ((s.take e.toNat).drop a.toNat))) w):WL P m n ops Q (⟨some d,.slice T x lo hi none,ty,pos,after,none⟩::rest) f w :=
 n7 rfl rfl hn (v:=sv ((s.take e.toNat).drop a.toNat)) (fun _ _=>by
  have hx':=b98 (s:=s) (a:=a.toNat) (b:=e.toNat) (by omega) (by omega)
  have hz:=W8 s
  cases lo with
  | none =>
   simp only at hlo; subst hlo
   cases hi with
   | none =>
    simp only at hhi; subst hhi
    simp only [sv] at hx ⊢
    simp [execOp,hx,Instr.sliceAt,Instr.slice,Instr.sliceBounds,hT,go_sem] at hx' ⊢
    try exact hx'
   | some o2 =>
    simp only at hhi
    simp only [sv] at hx ⊢
    simp [execOp,hx,hhi,Instr.sliceAt,Instr.slice,Instr.sliceBounds,Instr.sliceBound,asIntOf,hT,go_sem,h0] at hx' ⊢
    try exact hx'
  | some o1 =>
   simp only at hlo
   cases hi with
   | none =>
    simp only at hhi; subst hhi
    simp only [sv] at hx ⊢
    simp [execOp,hx,hlo,Instr.sliceAt,Instr.slice,Instr.sliceBounds,Instr.sliceBound,asIntOf,hT,go_sem,h0] at hx' ⊢
    try exact hx'
   | some o2 =>
    simp only at hhi
    simp only [sv] at hx ⊢
    simp [execOp,hx,hlo,hhi,Instr.sliceAt,Instr.slice,Instr.sliceBounds,Instr.sliceBound,asIntOf,hT,go_sem,h0,show e<=(s.length:Int) from h0.2.2,show 0<=e by omega,b9I (show 0<=e by omega)] at hx' ⊢
    try exact hx') K
end
end Go.Wl
end
section
namespace Go.Wl
open Go Go.Wk
abbrev iAr (b:Nat) (T:TypeId) (s:Str) (O:List Nat):It:=⟨[b],O,fun _ w=>Own w b T (s.map bv)⟩
theorem sAr {b:Nat} {T:TypeId} {s:Str} {O:List Nat}:(iAr b T s O).a2B:=fun Z Z' B w w' h e hB _=>h.ext e (fun hm=>by have:=hB b hm (.inl (by simp)); have:=Own.lt h; omega)
theorem a2c (s:Str):(s.map bv).all A2=true:=by simp [bv,A2]
theorem a4i (s:Str):(av s).cells.toList=s.map bv:=by simp [Value.cells]
theorem a69 {n:Nat} {Z:Nat->Prop} {w:World} {s:Str} (hs:s.length=n) (c0:List Value) (h:c0.length=n):0+(s.map bv).length<=n/\(C6 n).rd Z w (x7 c0 0 (s.map bv)) s:=by
 refine ⟨by simp [hs],?_⟩
 rw [a6a (by simp [hs,h])]
 exact ⟨rfl,hs⟩
theorem Ac.b3J {Z:Nat->Prop} {w:World} {b:Nat} {T:TypeId} {s:Str} (h:Own w b T (s.map bv)):Ac n5 Z w (.slice (some ⟨b,0,none⟩) s.length s.length) s [b] :=
 .inr ⟨b,s.length,_,T,rfl,rfl,h.z,by simp [n5],b4H _,fun i hi=>⟨[bv s[i]],rfl,fun j hj=>by
  have:j=0:=by simp [n5] at hj; omega
  subst this
  simp [n5,hi],rfl⟩⟩
theorem Sep.b3C {B0:List Nat} {w0 w:World} {Z:Nat->Prop} {L:List It} {b nn:Nat} {T:TypeId} {s:Str} {O:List Nat} (hs:Sep B0 w0 Z w L) (j:Nat) (hj:L[j]?=some (iAr b T s O)) (hn:s.length=nn):Sep B0 w0 Z w (L.set j (iAc n5 (.slice (some ⟨b,0,none⟩) nn nn) s [b] O)):=by
 subst hn
 exact hs.upd j hj (Ext.refl _ _) (Ac.b3J (hs.at j hj)) sAc (fun x hx=>⟨.inl hx,hs.lt j hj x hx⟩) rfl
theorem Ac.n {α:Type} {r:Rd α} {Z:Nat->Prop} {w:World} {A:Option Addr} {nn cap:Nat} {l:List α} {bs:List Nat} (h:Ac r Z w (.slice A nn cap) l bs):l.length=nn:=by
 obtain ⟨A',cap',e⟩:=h.val
 simp_all
theorem c4a {P:Program} (s:Str):∀ (acc:ByteArray) (w:World),(forIn (m:=Sem) (s.map bv) acc (fun (c:Value) (t:ByteArray)=>match c with | .int .u8 n=>pure (ForInStep.yield (t.push (UInt8.ofNat n.toNat))) | _=>do stuck "bytesToString: byte expected"; pure (ForInStep.yield t))).run P w=.ok (acc++⟨s.toArray⟩) w:=by
 induction s with
 | nil =>
  intro acc w
  have:acc++(⟨#[]⟩:ByteArray)=acc:=by apply b9A; simp
  simp_all
 | cons c r ih =>
  intro acc w
  simp only [b4W,List.forIn_cons,b3S]
  have e:UInt8.ofNat ((c.toNat:Int).toNat)=c:=by simp
  have h1:((match bv c with | .int .u8 n=>pure (ForInStep.yield (acc.push (UInt8.ofNat n.toNat))) | _=>do stuck "bytesToString: byte expected"; pure (ForInStep.yield acc):Sem (ForInStep ByteArray))).run P w=.ok (.yield (acc.push c)) w:=by
   simp only [bv,e]; rfl
  rw [h1,b3O]
  refine (ih (acc.push c) w).trans ?_
  congr 1
  apply b9A
  simp
section
variable {P:Program} {m:Bool} {n:Nat} {ops:List Oper} {Q:Exit->Fr->World->Prop} {rest:List Oper} {f:Fr} {w w0:World} {d:Nat} {Z D:Nat->Prop} {B0:List Nat} {L:List It}
variable {ty T T' T2 E S:TypeId} {pos:String} {after:Array Edge} {x y z:Operand} {k:IntKind} {v zv:Value} {i:Int} {p:Bool}
variable {A:Option Addr} {nn cap q sz b:Nat} {O bs:List Nat} {s t:Str} {c:UInt8}
theorem a5t (hs:Sep B0 w0 Z w L) (hz:∀ w,(zeroValue T).run P w=.ok zv w) (hz0:zv=av s) (hn:Nat.blt d n=true) (K:∀ b w',Sep B0 w0 Z w' (iAr b T s []::L)->WL P false n ops Q rest (upd f d (.pointer (some ⟨b,0,none⟩))) w') :
  WL P false n ops Q (⟨some d,.alloc T,ty,pos,after,none⟩::rest) f w :=
 c0q hz hn fun b w' e h1 h2 ho=>K b w' (hs.add e (by subst hz0; rw [a4i] at ho; exact ho) sAr (fun x hx=>by simp_all) rfl)
theorem a2i (hs:Sep B0 w0 Z w L) (j:Nat) (hj:L[j]?=some (iAr b E s O)) (hz:∀ w,(sizeOf T).run P w=.ok nn w) (hx:ev f x=.pointer (some ⟨b,0,none⟩)) (hy:ev f y=av t) (h1:s.length=nn) (h2:t.length=nn)
  (K:∀ w',Sep B0 w0 Z w' (L.set j (iAr b E t O))->WL P false n ops Q rest f w') :
  WL P false n ops Q (⟨none,.store T x y,ty,pos,after,none⟩::rest) f w :=
 c16 hz hx (by rw [hy,a4i]) (by simp [h2]) (hs.at j hj) (by simp [h1]) (a2c t) fun w' e _ ho=>K w' (hs.upd j hj e (by rw [a6a (by simp [h1,h2])] at ho; exact ho) sAr (fun x hx=>⟨.inl hx,by have:=hs.lt j hj x hx; omega⟩) rfl)
theorem d0l (hA:∀ w,(isAgg T).run P w=.ok true w) (hz:∀ w,(sizeOf T).run P w=.ok nn w) (ho:Own w b E (s.map bv)) (hl:s.length=nn) (hx:ev f x=.pointer (some ⟨b,0,none⟩)) (hn:Nat.blt d n=true) (K:WL P m n ops Q rest (upd f d (av s)) w) :
  WL P m n ops Q (⟨some d,.load T x,ty,pos,after,none⟩::rest) f w :=
 a5c hA hz (by simp [hl]) hx ho.all hn K
theorem a9h (hT:∀ w,(underlying T).run P w=.ok (.array nn E) w) (hx:ev f x=.slice A q cap) (hl:nn<=q) (hn:Nat.blt d n=true) (K:WL P m n ops Q rest (upd f d (.pointer A)) w) :
  WL P m n ops Q (⟨some d,.sliceToArrayPointer T x,ty,pos,after,none⟩::rest) f w :=
 n7 rfl rfl hn (v:=.pointer A) (fun _ _=>by simp [execOp,hx,Instr.arrayAt,hT,go_sem,Nat.not_lt.2 hl]) K
theorem a5m (hA:∀ w,(isAgg T).run P w=.ok true w) (hz:∀ w,(sizeOf T).run P w=.ok nn w) (h:(q9 n5).rd D w [.slice A q cap] s) (hl:nn<=q) (hp:0<nn) (hx:ev f x=.pointer A) (hn:Nat.blt d n=true) (K:WL P m n ops Q rest (upd f d (av (s.take nn))) w) :
  WL P m n ops Q (⟨some d,.load T x,ty,pos,after,none⟩::rest) f w:=by
 have hq:=a4a h
 subst hq
 obtain ⟨b,o,c0,rfl,_,⟨C,T1,z,hh,_⟩,_⟩:=M3 h (show 0<s.length by omega)
 refine b1j hA hz (cs:=(s.take nn).map bv) (by simp; omega) hx ⟨rfl,C,T1,z,hh,fun j hj=>?_⟩ hn K
 simp only [b6F,b3U] at hj
 obtain ⟨b',o',c,hA',_,⟨C',T',z',hh',hc'⟩,hr⟩:=M3 h (show j<s.length by omega)
 simp only [b3N,b9R] at hA'
 obtain ⟨rfl,rfl,_⟩:=hA'
 rw [hh] at hh'; cases hh'
 have hr':c=[bv s[j]]:=hr
 subst hr'
 have:=hc' 0 (by simp)
 simp only [n5,b8Y,b5Q,b5D] at this
 grind
theorem b1g {hi:Option Operand} {e:Int} (hT:∀ w,(underlying T).run P w=.ok (.array nn E) w) (hE:∀ w,(sizeOf E).run P w=.ok 1 w) (hx:ev f x=.pointer (some (eA A q))) (hhi:match hi with | some o=>ev f o=.int .i64 e | none=>e=nn) (h0:0<=e/\e<=nn) (hn:Nat.blt d n=true)
  (K:WL P m n ops Q rest (upd f d (.slice (some (eA A q)) e.toNat nn)) w):WL P m n ops Q (⟨some d,.slice T x none hi none,ty,pos,after,none⟩::rest) f w :=
 n7 rfl rfl hn (v:=.slice (some (eA A q)) e.toNat nn) (fun _ _=>by
  have e0:(eA A q).add 0=eA A q:=by rw [c8z,b5Q]
  cases hi with
  | none =>
   simp only at hhi; subst hhi
   simp [execOp,hx,Instr.sliceAt,Instr.sureAddr,Instr.sliceBounds,hT,hE,go_sem,e0]
  | some o =>
   simp only at hhi
   simp [execOp,hx,hhi,Instr.sliceAt,Instr.sureAddr,Instr.sliceBounds,Instr.sliceBound,asIntOf,hT,hE,go_sem,h0,e0]) K
theorem a3e {hi:Option Operand} {e:Int} (hT:∀ w,(underlying T).run P w=.ok (.array nn E) w) (hE:∀ w,(sizeOf E).run P w=.ok 1 w) (hx:ev f x=.pointer (some ⟨b,0,none⟩)) (hhi:match hi with | some o=>ev f o=.int .i64 e | none=>e=nn) (h0:0<=e/\e<=nn) (hn:Nat.blt d n=true)
  (K:WL P m n ops Q rest (upd f d (.slice (some ⟨b,0,none⟩) e.toNat nn)) w):WL P m n ops Q (⟨some d,.slice T x none hi none,ty,pos,after,none⟩::rest) f w :=
 b1g (A:=some ⟨b,0,none⟩) (q:=0) hT hE hx hhi h0 hn K
theorem c4f {al:List Str} {T3:TypeId} {e:Int} (hs:Sep B0 w0 Z w L) (j:Nat) (hj:L[j]?=some (iAc (C6 sz) (.slice A nn cap) al bs O)) (ho:Own w b S (s.map bv)) (hT:∀ w,(underlying T).run P w=.ok (.slice E) w) (hE:∀ w,(sizeOf E).run P w=.ok 1 w)
  (hx:ev f x=.slice (some (eA A q)) sz sz) (hq:q=i.toNat * sz) (hy:ev f y=.slice (some ⟨b,0,none⟩) e.toNat sz) (h0:0<=i) (h1:i<nn) (hsl:s.length=sz) (he:0<=e/\e<=sz) (hn:Nat.blt d n=true)
  (K:∀ w',Sep B0 w0 Z w' (L.set j (iAc (C6 sz) (.slice A nn cap) (al.set i.toNat (s.take e.toNat++(ix al i).drop e.toNat)) bs O))->WL P false n ops Q rest (upd f d (.int .i64 e)) w') :
  WL P false n ops Q (⟨some d,.call ⟨.builtin .copy,#[x,y],#[T,T2]⟩,T3,pos,after,none⟩::rest) f w:=by
 subst hq
 have hnl:=Ac.n (hs.at j hj)
 have hlen:e.toNat<=s.length:=by omega
 obtain ⟨b',T1,C,rfl,rfl,hown,hroom,hk⟩:=Ac.put (w1:=w) (o:=0) (c:=(s.take e.toNat).map bv) (e:=s.take e.toNat++(ix al i).drop e.toNat) (hs.at j hj) ⟨h0,h1⟩ (fun c0 hr hc0=>by
  have hget:∀ dd,al.getD i.toNat dd=ix al i:=fun dd=>by rw [C5 (by omega),b5V,b3T (by omega)]; rfl
  rw [hget] at hr
  obtain ⟨rfl,hl0⟩:=hr
  refine ⟨by grind,?_,by grind⟩
  have hsp:=Y1 ((s.take e.toNat).map bv) [] (((ix al i).take e.toNat).map bv) (((ix al i).drop e.toNat).map bv) (by simp; omega)
  simp_all) (a2c _) (hs.nz j hj)
 refine T5 rfl rfl hn fun w1 hw=>?_
 obtain ⟨kk,rfl⟩:=hw
 obtain ⟨w',hr,ho',he',hsz',hk'⟩:=I2 (P:=P) ((s.take e.toNat).map bv) (i.toNat * sz) 0 C w hown (by have:=hroom; simp only [C6] at this; omega) (by have:=a2c (s.take e.toNat); simp_all)
 refine ⟨.int .i64 e,{ w' with drawn:=kk },w',?_,⟨kk,rfl⟩,K w' (hs.upd j hj he' (hk w' he' (by simpa [C6] using ho')) sAc (fun x hx=>⟨.inl hx,by have:=hs.lt j hj x hx; omega⟩) rfl)⟩
 have hcells:x9 { w with drawn:=kk } b 0 ((s.take e.toNat).map bv):=(ho.cells 0 _ ((s.drop e.toNat).map bv) (by simp_all)).sim ⟨kk,rfl⟩
 have hload:=X6 (P:=P) hcells
 have hl2:((s.take e.toNat).map bv).length=e.toNat:=by simp; omega
 rw [hl2] at hload
 have:(#[x,y]:Array Operand).map (ev f)=#[ev f x,ev f y]:=by simp
 simp only [execOp,resolve,invoke,builtin,b3S,b4E,b3O,this,hx,hy,Builtin.copy_,b5B,b5D,b4B,hT,Builtin.lenOf,hE]
 have hmin:Nat.min e.toNat sz=e.toNat:=by show min _ _=_; omega
 simp only [hmin,Builtin.firstCells,b8Y,hload,b3O,b9G]
 have ha:eA (some ⟨b',0,none⟩) (i.toNat * sz)=⟨b',i.toNat * sz,none⟩:=by simp [eA]
 rw [ha,hk' kk]
 simp [go_sem,goInt,b9I he.1]
theorem a7k {U:TypeId} (hS:∀ w,(underlying S).run P w=.ok (.slice E) w) (hT:∀ w,(underlying T).run P w=.ok .string w) (hE:∀ w,(underlying E).run P w=.ok (.int .u8) w) (h:Src n5 Z w (ev f x) s) (hn:Nat.blt d n=true) (K:WL P m n ops Q rest (upd f d (sv s)) w) :
  WL P m n ops Q (⟨some d,.convert S T x,U,pos,after,none⟩::rest) f w :=
 n7 rfl rfl hn (v:=sv s) (fun w1 hs=>by
  obtain ⟨A,cap,hv,cs,hcl,hcr,hrow⟩:=h
  have hflat:cs.flatten=s.map bv:=by
   apply b8V
   intro j
   have hsz:∀ c∈cs,c.length=1:=fun c hc=>by
    obtain ⟨i,hi,rfl⟩:=b4I hc
    exact n5.len (hcr i (by omega) hi)
   have e:=F6 hsz j 0 (by omega)
   simp only [b8Y,b5Q] at e
   rw [e,b5S]
   by_cases hj:j<s.length
   . have hr:cs[j]'(by omega)=[bv s[j]]:=hcr j hj (by omega)
     simp_all
   . simp_all
  simp only [execOp,hv,convert,b3S,hS,hT,hE,b3O]
  have hfold:=c4a (P:=P) s ByteArray.empty w1
  rcases A with _ | a
  . rcases hrow with h0 | ⟨b,o,h0,_⟩
    . subst h0; simp [Conv.bytesToString,go_sem,sv]; rfl
    . cases h0
  . rcases hrow with h0 | ⟨b,o,h0,hc⟩
    . subst h0; simp [Conv.bytesToString,go_sem,sv,loadCells,loadCellsFrom]; rfl
    . simp at h0; subst h0
      have hload:=X6 (P:=P) (hc.sim hs)
      rw [hflat,b6F] at hload
      simp only [Conv.bytesToString,b3S,hload,b3O]
      have h2:Sem.run P (forIn (List.map bv s).toArray ByteArray.empty fun c __s=>match c with | Value.int IntKind.u8 n=>pure (ForInStep.yield (__s.push (UInt8.ofNat n.toNat))) | x=>do { stuck "bytesToString: byte expected"; pure (ForInStep.yield __s) }) w1=.ok (ByteArray.empty++⟨s.toArray⟩) w1:=by
       rw [List.forIn_toArray]; exact hfold
      refine Eq.trans (congrArg (fun r=>(Result.andThen r fun a w'=>Sem.run P (pure (Value.string a)) w').andThen fun a w'=>Sem.run P (pure (Next.value a)) w') h2) ?_
      have:ByteArray.empty++(⟨s.toArray⟩:ByteArray)=⟨s.toArray⟩:=by apply b9A; simp
      simp [go_sem,sv,this]) K
theorem b36 {U:TypeId} {k2:IntKind} {a:Int} {dk:TypeDesc} (hS:∀ w,(underlying S).run P w=.ok dk w) (hT:∀ w,(underlying T).run P w=.ok (.int k2) w) (hx:ev f x=.int k a) (hn:Nat.blt d n=true) (K:WL P m n ops Q rest (upd f d (.int k2 (k2.wrap a))) w) :
  WL P m n ops Q (⟨some d,.convert S T x,U,pos,after,none⟩::rest) f w :=
 n7 rfl rfl hn (v:=.int k2 (k2.wrap a)) (fun _ _=>by simp [execOp,hx,convert,hS,hT,Conv.intToInt,go_sem]) K
theorem c28 (a:Int):Value.int .u8 (IntKind.u8.wrap a)=bv (UInt8.ofInt a):=by
 unfold bv
 congr 1
 have h1:IntKind.u8.wrap a=a % 256:=by simp [IntKind.wrap,IntKind.bits,IntKind.signed]
 rw [h1]
 have h2:(UInt8.ofInt a).toNat=(a % 256).toNat:=by
  simp [UInt8.ofInt,b8M]
  omega
 omega
theorem d2j {U:TypeId} {a:Int} {dk:TypeDesc} (hS:∀ w,(underlying S).run P w=.ok dk w) (hT:∀ w,(underlying T).run P w=.ok (.int .u8) w) (hx:ev f x=.int k a) (hn:Nat.blt d n=true) (K:WL P m n ops Q rest (upd f d (bv (UInt8.ofInt a))) w) :
  WL P m n ops Q (⟨some d,.convert S T x,U,pos,after,none⟩::rest) f w :=
 b36 hS hT hx hn (by rw [c28]; exact K)
end
abbrev J6 (b:Nat) (T:TypeId) (cs:List Value):It:=⟨[],[],fun Z w=>Z b/\Own w b T cs⟩
abbrev J3 {κ:Type} (ky:Key κ) (b:Nat) (L:List (κ×Value)):It:=⟨[],[],fun Z w=>Z b/\F5 ky w b L⟩
abbrev U7 {α:Type} (r:Rd α) (v:Value) (l:List α):It:=⟨[],[],fun Z w=>∃ bs,(∀ b∈bs,Z b)/\Ac r Z w v l bs⟩
theorem d5m {b:Nat} {T:TypeId} {cs:List Value}:(J6 b T cs).a2B:=fun Z Z' B w w' h e hB hZ=>⟨hZ _ h.1,h.2.ext e (fun hm=>by have:=hB b hm (.inr h.1); have:=Own.lt h.2; omega)⟩
theorem d5v {κ:Type} {ky:Key κ} {b:Nat} {L:List (κ×Value)}:(J3 ky b L).a2B:=fun Z Z' B w w' h e hB hZ=>⟨hZ _ h.1,h.2.ext e (fun hm=>by have:=hB b hm (.inr h.1); have:=F5.lt h.2; omega)⟩
theorem e4z {α:Type} {r:Rd α} {v:Value} {l:List α}:(U7 r v l).a2B:=fun Z Z' B w w' ⟨bs,hb,h⟩ e hB hZ=>⟨bs,fun b hm=>hZ b (hb b hm),h.a1L e (fun b hm hz=>hB b hm (.inr (hz.elim (hb b) id))) hZ⟩
abbrev Y3 {κ:Type} (ky:Key κ) (it b:Nat) (L D:List (κ×Value)):It:=⟨[it],[],fun Z w=>Z b/\Iter ky w it b L D⟩
theorem d1b {κ:Type} {ky:Key κ} {it b:Nat} {L D:List (κ×Value)}:(Y3 ky it b L D).a2B:=fun Z Z' B w w' h e hB hZ=>⟨hZ _ h.1,Iter.ext h.2 e (fun hm=>by have:=hB b hm (.inr h.1); have:=F5.lt (Iter.map h.2); omega) (fun hm=>by have:=hB it hm (.inl (by simp)); have:=Iter.lt h.2; omega)⟩
section
variable {P:Program} {n:Nat} {ops:List Oper} {Q:Exit->Fr->World->Prop} {rest:List Oper} {f:Fr} {w w0:World} {d:Nat} {Z:Nat->Prop} {B0:List Nat} {L:List It}
variable {ty T E Kt:TypeId} {pos:String} {after:Array Edge} {x y:Operand} {b it:Nat} {α κ:Type} {ky:Key κ} {enc:α->Value} {am:List (κ×α)}
theorem c4v (hs:Sep B0 w0 Z w L) (j:Nat) (hj:L[j]?=some (J3 ky b (u9 enc am))) (hT:∀ w,(underlying T).run P w=.ok (.map Kt E) w) (hx:ev f x=.map (some b)) (hn:Nat.blt d n=true)
  (K:∀ it w',Sep B0 w0 Z w' (Y3 ky it b (u9 enc am) (u9 enc [])::L)->WL P false n ops Q rest (upd f d (.pointer (some ⟨it,0,none⟩))) w') :
  WL P false n ops Q (⟨some d,.range T x,ty,pos,after,none⟩::rest) f w :=
 d4z hT hx (hs.at j hj).2 hn fun it w' e h1 h2 hi=>K it w' (hs.add e ⟨(hs.at j hj).1,hi⟩ d1b (fun x hx=>by simp_all) rfl)
theorem d4w [DecidableEq κ] {dm:List (κ×α)} {N:TypeId} (hs:Sep B0 w0 Z w L) (j:Nat) (hj:L[j]?=some (Y3 ky it b (u9 enc am) (u9 enc dm))) (hx:ev f x=.pointer (some ⟨it,0,none⟩)) (hn:Nat.blt d n=true)
  (K1:∀ k v w',(k,v)∈am->k ∉ dm.map (·.1)->Sep B0 w0 Z w' (L.set j (Y3 ky it b (u9 enc am) (u9 enc (dm++[(k,v)]))))->WL P false n ops Q rest (upd f d (.tuple #[.bool true,ky.enc k,enc v])) w')
  (K2:(∀ k,k∈am.map (·.1)->k∈dm.map (·.1))->WL P false n ops Q rest (upd f d (.tuple #[.bool false])) w) :
  WL P false n ops Q (⟨some d,.next x false,N,pos,after,none⟩::rest) f w:=by
 refine d7n hx (hs.at j hj).2 hn ?_ ?_
 . intro k v w' hm _ hk e h1 hi
   obtain ⟨⟨k',v'⟩,hm',e'⟩:=b5C.1 hm
   simp only [b4P] at e'
   obtain ⟨rfl,rfl⟩:=e'
   rw [b0a] at hk
   refine K1 k' v' w' hm' hk (hs.upd j hj e ⟨(hs.at j hj).1,by simpa [u9] using hi⟩ d1b (fun x hx=>⟨.inl hx,by have:=hs.lt j hj x hx; omega⟩) rfl)
 . intro h
   refine K2 fun k hk=>?_
   obtain ⟨⟨k',v'⟩,hm,rfl⟩:=b5C.1 hk
   have:=h (k',enc v') (b5C.2 ⟨(k',v'),hm,rfl⟩)
   obtain ⟨⟨k2,v2⟩,h2,e⟩:=b5C.1 this
   grind
end
end Go.Wl
end
section
namespace Go.Wl
open Go Go.Wk
def srt (l:List Int):List Int:=l.mergeSort fun x y=>decide (x<=y)
theorem a73 (l:List Int):(srt l).length=l.length:=(b9J l _).length_eq
theorem a6z {l:List Int} {x:Int}:x∈srt l↔x∈l:=(b9J l _).mem_iff
theorem d8w (l:List Int):(srt l).Pairwise (· <= ·):=by
 have h:=List.pairwise_mergeSort (le:=fun x y:Int=>decide (x<=y)) (fun a b c h1 h2=>by simp at *; omega) (fun a b=>by simp; omega) l
 exact h.imp fun h=>by simpa using h
theorem b0i {l:List Int} (h:l.Nodup):(srt l).Nodup:=(b9J l _).nodup_iff.2 h
theorem c6q {l:List Int} (h:l.Nodup):(srt l).Pairwise (· < ·):=by
 have h1:=d8w l
 have h2:(srt l).Pairwise (· ≠ ·):=b0i h
 exact (h1.and h2).imp fun ⟨a,b⟩=>by omega
theorem d3l {P:Program} {K:FuncId} (hN:∀ (p:Option Addr) (cap:Nat) (w:World),Calls P K #[.slice p 0 cap] w fun e w'=>e=.returned (.tuple #[])/\w'=w)
  (hS:∀ (blk off cap:Nat) (zs:List Int) (w:World),Sort.Holds (Value.int .i64) w blk off zs.toArray->blk<w.heap.size->zs.length<4611686018427387904 ->
   Calls P K #[.slice (some ⟨blk,off,none⟩) zs.length cap] w fun e w'=>e=.returned (.tuple #[])/\∃ n os,w'=Sort.grow (Sort.putRow (Value.int .i64) (Sort.ahead w n) blk off (zs.mergeSort fun x y=>decide (x<=y)).toArray) os)
  {Z:Nat->Prop} {bs:List Nat} {w:World} {v:Value} {l:List Int} (h:Ac G2 Z w v l bs) (hl:l.length<4611686018427387904) :
  A6 P K [v] w fun _ w'=>Ac G2 Z w' v (srt l) bs/\Ext bs w w':=by
 intro w1 hs
 obtain ⟨k,rfl⟩:=hs
 rcases h with ⟨rfl,rfl,rfl⟩ | ⟨b,cap,C,T,rfl,rfl,ho,hC,hle,hc⟩
 . refine b6O (hN none 0 _) ?_
   rintro e w2 ⟨rfl,rfl⟩
   exact ⟨_,w,rfl,⟨k,rfl⟩,.inl ⟨rfl,by simp [srt],rfl⟩,Ext.refl _ _⟩
 . have hlt:=ho.lt
   obtain ⟨z,hz,ho⟩:=ho
   have hsz:C.length=cap:=by simpa [G2] using hC
   have hget:∀ i (h:i<l.length),C[i]?=some (.int .i64 l[i])/\InI l[i]:=by
    intro i hi
    obtain ⟨c,h1,h2,h3⟩:=hc i hi
    have:=h2 0 (by simp [G2])
    simp only [G2,b8Y,b5Q] at this h3
    rw [this,h3.1]; exact ⟨rfl,h3.2⟩
   refine b6O (hS b 0 cap l { w with drawn:=k } (fun j hj=>?_) hlt hl) ?_
   . have hj':j<l.length:=by simpa using hj
     constructor
     . simp only [World.cell?,show ({ w with drawn:=k }:World).heap[b]?=_ from ho]
       simp [(hget j hj').1,hj']
     . rcases hz with rfl | hz
       . simp [World.frozen?,show ({ w with drawn:=k }:World).heap[b]?=_ from ho]
       . simp [World.frozen?,show ({ w with drawn:=k }:World).heap[b]?=_ from ho]; omega
   . rintro e w2 ⟨rfl,n,os,rfl⟩
     have hh:(Sort.grow (Sort.putRow (Value.int .i64) (Sort.ahead w n) b 0 (srt l).toArray) os).heap[b]?=some (.cells (Sort.putCells (Value.int .i64) 0 (srt l).toArray C.toArray) T z):=by
      rw [Sort.heap_grow_old _ _ (by simpa using hlt)]
      simp only [Sort.putRow,Sort.mapBlock,Sort.ahead,b6P,if_true]
      rw [show w.heap[b]?=_ from ho]; rfl
     have ho':S8 (Sort.grow (Sort.putRow (Value.int .i64) (Sort.ahead w n) b 0 (srt l).toArray) os) b T (Sort.putCells (Value.int .i64) 0 (srt l).toArray C.toArray).toList:=by
      refine ⟨z,?_,by rw [hh]⟩
      simpa [Sort.putCells] using hz
     refine ⟨_,Sort.grow (Sort.putRow (Value.int .i64) (Sort.ahead w n) b 0 (srt l).toArray) os,rfl,⟨k+n,rfl⟩,.inr ⟨b,cap,_,T,by rw [a73],rfl,ho',?_,by rw [a73]; exact hle,?_⟩,⟨rfl,rfl,rfl,?_,?_⟩⟩
     . simp [Sort.putCells,G2,hsz]
     . intro i hi
       have hi':i<l.length:=by rw [<- a73]; exact hi
       refine ⟨[.int .i64 (srt l)[i]],rfl,fun j hj=>?_,rfl,?_⟩
       . have:j=0:=by simp [G2] at hj; omega
         subst this
         have hci:i<C.length:=by omega
         simp [Sort.putCells,G2,Array.getElem?_mapIdx,hci,hi]
       . obtain ⟨j,hj,e⟩:=b4I (a6z.1 (b5J hi))
         rw [<- e]; exact (hget j hj).2
     . simp [Sort.ahead]
     . intro x hx hn
       have hne:x≠b:=by simpa using hn
       rw [Sort.heap_grow_old _ _ (by simpa using hx)]
       simp only [Sort.putRow,Sort.mapBlock,Sort.ahead,b6P]
       rw [if_neg (b6D hne)]
theorem Sep.sorted {B0:List Nat} {w0 w w':World} {Z:Nat->Prop} {L:List It} {v:Value} {l:List Int} {bs O:List Nat} (hs:Sep B0 w0 Z w L) (k:Nat) (hk:L[k]?=some (iAc G2 v l bs O)) (h:Ac G2 Z w' v (srt l) bs) (e:Ext bs w w'):Sep B0 w0 Z w' (L.set k (iAc G2 v (srt l) bs O)) :=
 hs.upd k hk e h sAc (fun b hb=>⟨.inl hb,h.lt b hb⟩) rfl
end Go.Wl
end
section
namespace Go.Wl
open Go Go.Wk
section
variable {B0:List Nat} {w0 w:World} {Z:Nat->Prop} {l ts r:List It} {t:It} {F:List Nat}
end
section
variable {P:Program} {m:Bool} {n:Nat} {ops:List Oper} {Q:Exit->Fr->World->Prop} {rest:List Oper} {f:Fr} {w:World} {d:Nat} {ty T:TypeId} {pos:String} {after:Array Edge} {x:Operand} {s:Str} {v v':Value}
end
section
variable {P:Program} {m:Bool} {n:Nat} {ops:List Oper} {Q:Exit->Fr->World->Prop} {rest:List Oper} {f:Fr} {w:World} {d:Nat} {ty T T':TypeId} {pos:String} {after:Array Edge} {x y:Operand} {a b:UInt8}
theorem d9j (a b:UInt8):Value.int .u8 (IntKind.u8.wrap ((a.toNat:Int)+(b.toNat:Int)))=bv (a+b):=by
 rw [c28]
 congr 1
 apply b8I.1
 simp [UInt8.ofInt,b8M,UInt8.toNat_add]
 omega
theorem e02 (hx:ev f x=bv a) (hy:ev f y=bv b) (hn:Nat.blt d n=true) (K:WL P m n ops Q rest (upd f d (bv (a+b))) w) :
  WL P m n ops Q (⟨some d,.binOp .add T x y T',ty,pos,after,none⟩::rest) f w :=
 c77 hx hy hn (by rw [d9j]; exact K)
end
end Go.Wl
end
section
namespace Go.Wl
open Go Go.Wk Go.ChangeShapes Go.WideShapes Go.RowKit
def a3k {α:Type} (P:Program) (t:TypeId) (r:Rd α):Prop :=
 ∀ {H:Type} {enc:TypeId×Value->H} {fuel:Nat} {w:World} {sp:Nat->Bool} {cs:List Value} {x:DataW H×List MemPlace},DataW.trod enc P w 0 sp true fuel t cs=some x->∃ y,r.rd (fun _=>True) w cs y
section
variable {P:Program} {t e:TypeId}
theorem V8 (ht:P.underlying t=some (.int .i64)):a3k P t G2:=fun h=>by
 obtain ⟨n,rfl,_,hw⟩:=DataW.trod_int ht h
 exact ⟨n,rfl,e1e hw⟩
theorem b5u (ht:P.underlying t=some .bool):a3k P t d5q:=fun h=>by
 obtain ⟨b,rfl,_⟩:=DataW.trod_bool ht h
 exact ⟨b,rfl⟩
theorem a8q (ht:P.underlying t=some .string):a3k P t a09:=fun h=>by
 obtain ⟨y,e⟩:=c4e ht h
 exact ⟨y,e⟩
theorem a16 {α:Type} {r:Rd α} (ht:P.underlying t=some (.slice e)) (hsz:P.cellsOf e=r.sz) (hp:0<r.sz) (ho:a3k P e r):a3k P t (q9 r):=fun {H enc fuel w sp cs x} h=>by
 rcases DataW.trod_slice ht h with ⟨rfl,_⟩ | ⟨a,len,cap,elems,rest,n,_,rfl,_,_,hlc,hcm,hel,hget,_⟩
 . exact ⟨[],V1⟩
 . have each:∀ i,i<len->∃ c y,x9 w a.block (a.off+i * r.sz) c/\r.rd (fun _=>True) w c y/\a.spot=none:=by
     intro i hi
     have h1:=hget i hi
     rw [b3T (by omega)] at h1
     simp only [b5L] at h1
     obtain ⟨c,hc,hx⟩:=h1
     obtain ⟨y,hy⟩:=ho hx
     rw [hsz] at hc
     have hc':=b5q hp hc
     have hs0:a.spot=none:=by
      have h0:=hget 0 (by omega)
      rw [b3T (by omega)] at h0
      simp only [b5L] at h0
      obtain ⟨c0,hc0,_⟩:=h0
      rw [hsz] at hc0
      have:=(b5q hp hc0).1
      simpa [Addr.add] using this
     refine ⟨c,y,?_,hy,hs0⟩
     have:=hc'.2.2
     unfold Addr.add at this
     split at this
     . simp_all
     . exact this
   have each':∀ i:Fin len,∃ y:α,∃ c,x9 w a.block (a.off+i * r.sz) c/\r.rd (fun _=>True) w c y:=fun i=>by
    grind
   have ⟨f,hf⟩:=Classical.axiomOfChoice each'
   refine ⟨List.ofFn f,?_,some a,cap,by simp,⟨fun h=>(by cases h),by simp_all⟩,fun i hi=>?_⟩
   . simp [maxLen] at hcm ⊢; omega
   . have hi':i<len:=by simpa using hi
     obtain ⟨c,h1,h2⟩:=hf ⟨i,hi'⟩
     obtain ⟨_,_,_,_,hs0⟩:=each i hi'
     refine ⟨a.block,a.off,c,?_,trivial,h1,?_⟩
     . obtain ⟨b,o,s⟩:=a; simp_all
     simp_all
theorem a3p {α:Type} {r:Rd α} (ho:a3k P t r) {H:Type} {enc:TypeId×Value->H} {w:World} {sp:Nat->Bool} {v:Value} {d:DataW H} {ps:List MemPlace} (hv:v.cells.toList=[v]) (h:DataW.Trod enc P w 0 sp true t v d ps):∃ y,r.rd (fun _=>True) w [v] y:=by
 obtain ⟨n,h⟩:=h
 rw [hv] at h
 exact ho h
end
end Go.Wl
end
section
namespace Go.Wl
open Go Go.Wk
theorem d0i {Z:Nat->Prop} {w:World} {s:Str} {b cap:Nat} {E:TypeId} (hc:s.length<=cap) (h:w.heap[b]?=some (.cells (bytesRow ⟨s.toArray⟩ cap) E ((bytesRow ⟨s.toArray⟩ cap).size,(bytesRow ⟨s.toArray⟩ cap).size+1))):Ac n5 Z w (.slice (some ⟨b,0,none⟩) s.length cap) s [b]:=by
 refine .inr ⟨b,cap,(bytesRow ⟨s.toArray⟩ cap).toList,E,rfl,rfl,⟨((bytesRow ⟨s.toArray⟩ cap).size,(bytesRow ⟨s.toArray⟩ cap).size+1),.inr (by simp),by simpa using h⟩,?_,hc,fun i hi=>⟨[bv s[i]],rfl,fun j hj=>?_,rfl⟩⟩
 . have:(bytesRow ⟨s.toArray⟩ cap).size=cap:=by
     unfold bytesRow
     rw [b9U,Array.size_map,Array.size_replicate]
     have:(⟨s.toArray⟩:ByteArray).data.size=s.length:=by simp
     have e2:(⟨s.toArray⟩:ByteArray).size=s.length:=by simp [ByteArray.size]
     omega
   simp [n5,this]
 . have hj0:j=0:=by simp [n5] at hj; omega
   subst hj0
   have:=bytesRow_at ⟨s.toArray⟩ cap i (by simpa using hi)
   simp only [n5,b8Y,b5Q]
   rw [Array.getElem?_toList,this]
   simp [bv]
section
variable {P:Program} {n:Nat} {ops:List Oper} {Q:Exit->Fr->World->Prop} {rest:List Oper} {f:Fr} {w w0:World} {d:Nat} {Z:Nat->Prop} {B0:List Nat} {L:List It}
variable {ty T E S:TypeId} {pos:String} {after:Array Edge} {x:Operand} {s:Str}
theorem d1u (hs:Sep B0 w0 Z w L) (hS:P.underlying S=some .string) (hT:P.underlying T=some (.slice E)) (hE:P.underlying E=some (.int .u8)) (hx:ev f x=sv s) (hn:Nat.blt d n=true)
  (K:∀ b cap w',Sep B0 w0 Z w' (iAc n5 (.slice (some ⟨b,0,none⟩) s.length cap) s [b] []::L)->WL P false n ops Q rest (upd f d (.slice (some ⟨b,0,none⟩) s.length cap)) w') :
  WL P false n ops Q (⟨some d,.convert S T x,ty,pos,after,none⟩::rest) f w :=
 T5 rfl rfl hn fun w1 hsim=>by
  obtain ⟨k,rfl⟩:=hsim
  have hr:=run_bytes_of_string (P:=P) { w with drawn:=k } S T E ⟨s.toArray⟩ hS hT hE
  have hge:=grownCap_ge { w with drawn:=k } (⟨s.toArray⟩:ByteArray).size 0 E
  have e2:(⟨s.toArray⟩:ByteArray).size=s.length:=by simp [ByteArray.size]
  generalize grownCap { w with drawn:=k } (⟨s.toArray⟩:ByteArray).size 0 E=cap at hr hge
  rw [e2] at hr hge
  refine ⟨_,_,{ w with heap:=w.heap.push (.cells (bytesRow ⟨s.toArray⟩ cap) E ((bytesRow ⟨s.toArray⟩ cap).size,(bytesRow ⟨s.toArray⟩ cap).size+1)) },?_,⟨k+1,rfl⟩,K w.heap.size cap _ ?_⟩
  . simp only [execOp,hx,sv,b3S]
    rw [hr]; rfl
  . exact hs.add (Ext.push w _) (d0i (E:=E) hge (by simp)) sAc (fun y hy=>by simp at hy; subst hy; simp) rfl
end
end Go.Wl
end
