/- 32 texts, one behind the other. -/
import Derived.Tactics
import Derived.OrdersIn
import Derived.TacticsIn
import Derived.WalkKit
import Derived.ProofKit
import Derived.Sort.Grow
import Derived.Laws.IdiomStrings
import Derived.Laws.AppendOwn
set_option linter.defProp false
set_option linter.unusedVariables false
set_option linter.unusedSimpArgs false
set_option maxRecDepth 100000
noncomputable section
abbrev bR(p A B:Prop):Prop:=(p->A)/\(¬p->B)
def d4T:=@Option.some.injEq
def d4U:=@Bool.and_eq_true
def d4V:=@Go.Result.andThen_ok
def d4W:=@Nat.eq_of_beq_eq_true
def d4X:=@Go.Sem.run_bind
def d4Y:=@List.length_append
def d5B:=@Nat.lt_or_ge
def d5C:=@List.append_nil
def d5D:=@List.all_eq_true
def d5F:=@List.getElem?_cons_succ
def d5J:=@List.getElem?_set_self
def d5K:=@Int.not_lt
def d5O:=@Go.Sem.run_pure
def d5S:=@List.mem_append_left
def d5U:=@Array.getD_eq_getD_getElem?
def d5V:=@Bool.or_eq_true
def d5W:=@List.getElem?_set_ne
def d5X:=@Nat.le_of_ble_eq_true
def d5Y:=@Bool.false_eq_true
def d5Z:=@List.getD_eq_getElem?_getD
def d5a:=@List.mem_singleton
def d5c:=@List.mem_of_getElem?
def d5d:=@List.getElem?_append_right
def d5f:=@Nat.le_trans
def d5h:=@List.length_cons
def d5i:=@List.getElem?_eq_getElem
def d5l:=@List.getElem?_append_left
def d5m:=@Nat.le_refl
def d5n:=@List.length_take
def d5r:=@cond_true
def d5s:=@Nat.mul_le_mul_right
def d5u:=@List.mem_filter
def d5w:=@List.getElem_of_mem
def d5x:=@List.append_assoc
def d5y:=@cond_false
def d6B:=@Nat.zero_le
def d6E:=@List.drop_eq_getElem_cons
def d6F:=@List.getElem?_map
def d6G:=@Go.Value.slice.injEq
def d6H:=@List.mem_append_right
def d6I:=@Nat.zero_add
def d6N:=@List.length_drop
def d6Q:=@Go.wpIn_mono
def d6R:=@Array.getElem?_setIfInBounds_self_of_lt
def d6V:=@List.getElem?_eq_none
def d6a:=@List.nil_append
def d6c:=@List.length_replicate
def d6d:=@Go.Calls.mono
def d6f:=@List.map_cons
def d6g:=@Option.some.inj
def d6h:=@List.length_map
def d6j:=@List.getElem_mem
def d6k:=@Nat.add_mul
def d6l:=@Ne.symm
def d6m:=@List.getElem?_toArray
def d6n:=@Array.getElem?_modify
def d6r:=@Nat.add_zero
def d6s:=@List.eq_nil_of_length_eq_zero
def d6v:=@List.mergeSort_perm
def d6x:=@Array.getElem?_setIfInBounds_ne
def d6z:=@Nat.lt_of_lt_of_le
def d7E:=@Nat.add_assoc
def d7H:=@List.length_pos_iff
def d7K:=@Nat.div_add_mod
def d7N:=@List.mem_filterMap
def d7O:=@Go.Sort.heap_grow_old
def d7W:=@List.pairwise_mergeSort
def d7Y:=@List.size_toArray
def d7Z:=@Go.Oper.uponIn_value
def d7c:=@List.getElem_append_left
def d7e:=@List.getElem?_cons_zero
def d7h:=@Nat.beq_refl
def d7j:=@List.take_append_drop
def d7m:=@Array.getElem?_eq_getElem
def d7n:=@Nat.div_lt_of_lt_mul
def d7o:=@List.getElem_append_right
def d7q:=@Nat.mul_comm
def d7r:=@Array.length_toList
def d7t:=@Array.ext'
def d7u:=@Option.map_some
def d8B:=@Array.getElem?_eq_none_iff
def d8E:=@Go.Oper.uponIn_enter
def d8F:=@not_false_eq_true
def d8V:=@UInt8.toNat_inj
def d8a:=@List.ext_getElem?
def d8e:=@ByteArray.ext
def d8g:=@Array.getElem?_append
def d8h:=@Array.getElem?_mapIdx
def d8i:=@Array.getElem?_toList
def d8k:=@Array.toArray_toList
def d8l:=@Nat.mod_lt
def d8q:=@Nat.mul_le_mul_left
def d8u:=@Bool.not_false
def d8w:=@Nat.mul_one
def d8x:=@Nat.eq_zero_or_pos
def d8y:=@UInt8.toNat_ofNat'
namespace Go.Wk
open Go
abbrev Fr:=Nat->Value
def D5(f:Fr)(d:Nat)(v:Value):Fr:=fun t=>bif Nat.beq t d then v else f t
def W8(f:Fr)(d:Nat)(v:Value)(t:Nat):D5 f d v t=if t=d then v else f t:=by unfold D5;simp_all
def a02{t d:Nat}(h:t≠d):Nat.beq t d=false:=by cases hc:Nat.beq t d with|false=>rfl|true=>simp_all
def ev(f:Fr):Operand->Value
 |.tmp t=>f t
 |.const v=>v
 |.global g=>.pointer (some ⟨g,0,none⟩)
 |.func k=>.func (.func k) #[] #[]
structure Is(a:Act)(f:Fr)(n:Nat):Prop where
 size:a.tmps.size=n
 get:∀t,a.tmps.getD t undef=f t
def Is.eval{a:Act}{f:Fr}{n:Nat}(h:Is a f n):a.eval=ev f:=by
 funext x;cases x with
 |tmp t=>exact h.get t
 |_=>rfl
def Is.put{a:Act}{f:Fr}{n:Nat}(h:Is a f n){d:Nat}(hd:d<n)(v:Value):Is (a.put (some d) v) (D5 f d v) n:=by
 refine⟨by simp[Act.put,h.size],fun t=>?_⟩;rw[W8];have hs:=h.size;by_cases ht:t=d
 . subst ht;simp[Act.put,hs,hd]
 . rw[if_neg ht,<- h.get t];simp[Act.put,d6l ht]
def F8(w w1:World):Prop:=∃k,w1={ w with drawn:=k }
def F8.refl(w:World):F8 w w:=⟨w.drawn,rfl⟩
def F8.symm{a b:World}(h:F8 a b):F8 b a:=by obtain⟨k,rfl⟩:=h;exact⟨a.drawn,rfl⟩
def F8.trans{a b c:World}(h:F8 a b)(k:F8 b c):F8 a c:=by obtain⟨_,rfl⟩:=h;obtain⟨m,rfl⟩:=k;exact⟨m,rfl⟩
def F8.heap{a b:World}(h:F8 a b):b.heap=a.heap:=by obtain⟨_,rfl⟩:=h;rfl
def F8.drawn(a:World)(k:Nat):F8 a { a with drawn:=k }:=⟨k,rfl⟩
def P6(ro:Option Nat):Fence:={ fn:=fun _=>True,depth:=none,alive:=false,round:=ro }
def lift(n:Nat)(ds:List Deferred)(Q:Exit->Fr->World->Prop):Exit->Act->World->Prop:=fun e a w1=>∃f w,Is a f n/\a.defers=ds/\F8 w w1/\Q e f w
def W(P:Program)(n:Nat)(c:Code)(Q:Exit->Fr->World->Prop)(f:Fr)(w:World):Prop:=∀a w1,Is a f n->F8 w w1->∀ro,c.wpIn (P6 ro) 0 P (lift n a.defers Q) a w1
section
variable{P:Program}{n:Nat}{Q:Exit->Fr->World->Prop}{f:Fr}{w:World}
def b7E{ds:List Deferred}{Q':Exit->Fr->World->Prop}{e:Exit}{a:Act}{w1:World}(h:lift n ds Q e a w1)(hq:∀f w,Q e f w->Q' e f w):lift n ds Q' e a w1:=
 let⟨g,v,hg,hd,hv,q⟩:=h;⟨g,v,hg,hd,hv,hq _ _ q⟩
def a2s{c:Code}{Q':Exit->Fr->World->Prop}(h:W P n c Q f w)(hq:∀e f w,Q e f w->Q' e f w):W P n c Q' f w:=
 fun a w1 ha hs ro=>d6Q (h a w1 ha hs ro) fun _ _ _ h=>b7E h (hq _)
def c7g(h:Q .normal f w):W P n .skip Q f w:=fun _ _ ha hs _=>wpIn_skip ⟨f,w,ha,rfl,hs,h⟩
def d2Y(h:Q .ret f w):W P n .ret Q f w:=fun _ _ ha hs _=>wpIn_ret ⟨f,w,ha,rfl,hs,h⟩
def c7L{i:Nat}(h:Q (.exit i) f w):W P n (.exit i) Q f w:=fun _ _ ha hs _=>wpIn_exit ⟨f,w,ha,rfl,hs,h⟩
def b6S(next:Fr->World->Prop)(Q:Exit->Fr->World->Prop):Exit->Fr->World->Prop
 |.normal,f,w=>next f w
 |e,f,w=>Q e f w
def c6f{x y:Code}(h:W P n x (b6S (W P n y Q) Q) f w):W P n (.seq x y) Q f w:=fun a w1 ha hs ro =>
 wpIn_seq (d6Q (h a w1 ha hs ro) fun e a' w' ⟨g,v,hg,hd,hv,q⟩=>by cases e <;> first|exact hd ▸ q a' w' hg hv ro|exact⟨g,v,hg,hd,hv,q⟩)
def b4J{c:Operand}{x y:Code}{b:Bool}(hc:ev f c=.bool b)(ht:b=true->W P n x Q f w)(hf:b=false->W P n y Q f w):W P n (.cond c x y) Q f w:=fun a w1 ha hs ro =>
 wpIn_cond_split (t:=b) (by rw[ha.eval];exact hc) (fun h=>ht h a w1 ha hs ro) (fun h=>hf h a w1 ha hs ro)
def b2Y{c:Operand}{x y:Code}(hc:ev f c=.bool true)(h:W P n x Q f w):W P n (.cond c x y) Q f w:=b4J hc (fun _=>h) (fun h=>by cases h)
def a9P{c:Operand}{x y:Code}(hc:ev f c=.bool false)(h:W P n y Q f w):W P n (.cond c x y) Q f w:=b4J hc (fun h=>by cases h) (fun _=>h)
def b9z(id:Nat)(Q:Exit->Fr->World->Prop):Exit->Fr->World->Prop
 |.exit j,f,w=>bif Nat.beq j id then Q .normal f w else Q (.exit j) f w
 |e,f,w=>Q e f w
def c48{id:Nat}{c:Code}(h:W P n c (b9z id Q) f w):W P n (.block id c) Q f w:=fun a w1 ha hs ro =>
 wpIn_block (d6Q (h a w1 ha hs ro) fun e a' w' ⟨g,v,hg,hd,hv,q⟩=>by
  cases e with
  |exit j =>
   simp only[Exit.inBlock];unfold b9z at q;by_cases hj:j=id
   . subst hj;simp only[d7h,d5r]at q;rw[if_pos rfl];exact⟨g,v,hg,hd,hv,q⟩
   . simp only[a02 hj,d5y]at q;rw[if_neg hj];exact⟨g,v,hg,hd,hv,q⟩
  |_=>exact⟨g,v,hg,hd,hv,q⟩)
def S8{p:Nat->Prop}(h:∃m,p m):∃m,p m/\∀k,p k->m<=k:=by
 obtain⟨m,hm⟩:=h
 induction m using Nat.strongRecOn with
 |_ m ih =>
  grind
def c8F{c:Code}(I:Nat->Fr->World->Prop)(m:Nat)(h0:I m f w)
  (round:∀m f w,I m f w->W P n c (b6S (fun f' w'=>∃m',m'<m/\I m' f' w') Q) f w):W P n (.loop c) Q f w:=by
 intro a w1 ha hs ro
 classical
 obtain⟨ds,hds⟩:∃ds,a.defers=ds:=⟨_,rfl⟩;rw[hds]
 let J:Act->World->Prop:=fun a w1=>∃m f w,Is a f n/\a.defers=ds/\F8 w w1/\I m f w
 let μ:Act->World->Nat:=fun a w1=>if h:∃m,∃f w,Is a f n/\a.defers=ds/\F8 w w1/\I m f w then Classical.choose (S8 h)else 0
 refine wpIn_loop J μ ⟨m,f,w,ha,hds,hs,h0⟩ ?_;intro a w1 hJ;have hmin:∃f w,Is a f n/\a.defers=ds/\F8 w w1/\I (μ a w1) f w:=by have hex:∃m,∃f w,Is a f n/\a.defers=ds/\F8 w w1/\I m f w:=hJ;have e:μ a w1=Classical.choose (S8 hex):=dif_pos hex;rw[e];exact(Classical.choose_spec (S8 hex)).1
 obtain⟨f,w,hf,hds,hw,hI⟩:=hmin;refine d6Q (round _ f w hI a w1 hf hw ro) ?_;intro e a' w' ⟨g,v,hg,hd,hv,q⟩;have hd:=hd.trans hds;cases e with
 |normal =>
  obtain⟨m',hlt,hI'⟩:=q;refine⟨⟨m',g,v,hg,hd,hv,hI'⟩,?_⟩;have hex:∃m,∃f w,Is a' f n/\a'.defers=ds/\F8 w w'/\I m f w:=⟨m',g,v,hg,hd,hv,hI'⟩;have e:μ a' w'=Classical.choose (S8 hex):=dif_pos hex;rw[e];exact Nat.lt_of_le_of_lt ((Classical.choose_spec (S8 hex)).2 m' ⟨g,v,hg,hd,hv,hI'⟩) hlt
 |_=>exact⟨g,v,hg,hd,hv,q⟩
end
def G2(P:Program)(K:FuncId)(args:List Value)(w:World)(R:Value->World->Prop):Prop:=
 ∀w1,F8 w w1->Calls P K args.toArray w1 fun e w2=>∃v w',e=.returned v/\F8 w' w2/\R v w'
def G2.mono{P:Program}{K:FuncId}{args:List Value}{w:World}{R R':Value->World->Prop}(h:G2 P K args w R)(hr:∀v w',R v w'->R' v w'):G2 P K args w R':=
 fun w1 hs=>d6d (h w1 hs) fun _ _ ⟨v,w',e,s,r⟩=>⟨v,w',e,s,hr _ _ r⟩
def a0w(P:Program)(l:Nat)(args:List Value)(w:World)(R:Value->World->Prop):Prop:=
 ∀w1,F8 w w1->∃fn tmps assign body,(Instr.yield l args.toArray).run P w1=.ok (.round l fn tmps assign body) w1/\RoundIn (P6 none) 0 P l fn tmps assign body w1 fun e w2=>∃v w',e=.returned v/\F8 w' w2/\R v w'
def a0w.mono{P:Program}{l:Nat}{args:List Value}{w:World}{R R':Value->World->Prop}(h:a0w P l args w R)(hr:∀v w',R v w'->R' v w'):a0w P l args w R':=
 fun w1 hs=>let⟨fn,tmps,ars,bd,h1,h2⟩:=h w1 hs;⟨fn,tmps,ars,bd,h1,RoundIn.mono h2 fun _ _ ⟨v,w',e,s,r⟩=>⟨v,w',e,s,hr _ _ r⟩⟩
def nth:List Value->Nat->Value
 |[],_=>undef
 |v::_,0=>v
 |_::r,t+1=>nth r t
def c8g(l:List Value):∀t,l.toArray.getD t undef=nth l t:=by
 induction l with
 |nil=>intro t;simp[nth]
 |cons v r ih=>intro t;cases t with
  |zero=>simp[nth]
  |succ t=>have:=ih t;simp[nth]at this ⊢;exact this
def b2O(args:List Value)(n:Nat)(h:args.length<=n):Is { tmps:=args.toArray++Array.replicate (n-args.toArray.size) undef,defers:=[] } (nth args) n:=by
 refine⟨by simp;omega,fun t=>?_⟩;rw[<- c8g];by_cases ht:t<args.length
 . simp[d8g,ht]
 . have:args.toArray[t]?=none:=by simp;omega
   simp only[d5U,this,d8g,d7Y,ht,if_false];grind
section
variable{P:Program}{K:FuncId}{fn:Func}{c:Code}{args:List Value}{w:World}{R:Value->World->Prop}{n:Nat}
def b42(hf:P.funcs[K]?=some fn)(hb:fn.body=some c)(hn:fn.ntmps=n)(hs:Nat.ble args.length n=true)(Q:Exit->Fr->World->Prop)
  (hq:∀e a w1 f w,Is a f n->a.defers=[]->F8 w w1->Q e f w->bodyPost P fn (fun e w2=>∃v w',e=.returned v/\F8 w' w2/\R v w') e a w1) (h:W P n c Q (nth args) w):G2 P K args w R:=by
 subst hn;exact fun w1 hw=>(callsIn_wide (n:=0)).1 (callsIn_of_wp hf hb trivial (d6Q (h _ w1 (b2O args _ (d5X hs)) hw none) fun e a w ⟨f,v,hf,hd,hv,q⟩=>hq e a w f v hf hd hv q))
end
def G4{a b:Nat}(h:Nat.blt a b=true):a<b:=d5X h
def q8:List Oper->Nat->Option Nat
 |[],_=>none
 |o::_,0=>o.dst
 |_::r,t+1=>q8 r t
def c1Y(l:List Oper):∀t,(l.toArray[t]?).bind (·.dst)=q8 l t:=by
 induction l with
 |nil=>intro t;simp[q8]
 |cons v r ih=>intro t;cases t with
  |zero=>simp[q8]
  |succ t=>have:=ih t;simp[q8]at this ⊢;exact this
def R7(f:Fr)(d:Option Nat)(v:Value):Fr:=match d with|some t=>D5 f t v|none=>f
def c7M(P:Program)(o:Oper)(f:Fr)(w:World)(v:Value):Prop:=∀w1,F8 w w1->(execOp (ev f) o).run P w1=.ok (.value v) w1
def c0G(ops:List Oper)(n:Nat)(f:Fr):Option (Nat×Bool)->Bool->Prop
 |none,b=>b=true
 |some (j,want),b=>∃dj,q8 ops j=some dj/\dj<n/\((f dj=.bool want/\b=true)∨((f dj=.bool (!want)∨f dj=undef)/\b=false))
def QL(P:Program)(n:Nat)(ops:List Oper)(Q:Exit->Fr->World->Prop):List Oper->Fr->World->Prop
 |[],f,w=>Q .normal f w
 |o::rest,f,w=>∃d b v,o.dst=some d/\d<n/\c0G ops n f o.guard b/\(b=true->c7M P o f w v)/\(b=false->v=undef)/\QL P n ops Q rest (D5 f d v) w
def WL(P:Program)(m:Bool)(n:Nat)(ops:List Oper)(Q:Exit->Fr->World->Prop)(l:List Oper)(f:Fr)(w:World):Prop:=
 match m with
 |false=>∀a w1,Is a f n->F8 w w1->∀ro,wpListIn (P6 ro) 0 P ops.toArray (lift n a.defers Q) l a w1
 |true=>QL P n ops Q l f w
section
variable{P:Program}{m:Bool}{n:Nat}{ops:List Oper}{Q:Exit->Fr->World->Prop}{rest:List Oper}{f:Fr}{w w':World}{d:Nat}{v:Value}{o:Oper}
def c1R{id:Nat}{l:List Oper}(h:WL P false n l Q l f w):W P n (.region id l.toArray false) Q f w:=fun a w1 ha hs ro=>wpIn_region_lit (h a w1 ha hs ro)
def a2c(h:Q .normal f w):WL P m n ops Q [] f w:=by
 cases m with
 |false=>exact fun _ _ ha hs _=>⟨f,w,ha,rfl,hs,h⟩
 |true=>exact h
def b9W(ro:Option Nat){ρ:Operand->Value}{o:Oper}{w1 w2:World}{x:Next}(h:(execOp ρ o).run P w1=.ok x w2)(hx:∀d,x≠.defer d):(o.semAt ro ρ).run P w1=.ok x w2:=by
 by_cases hd:∃c,o.op=.defer c
 . obtain⟨c,hc⟩:=hd;exfalso;unfold execOp at h;rw[hc]at h;simp only[d4X]at h;generalize (resolve ρ c o.type).run P w1=r at h;cases r with
   |ok d w'=>simp[Result.andThen]at h;grind
   |halt r w'=>simp_all
 . rw[Oper.semAt_eq ro ρ o fun c hc=>hd ⟨c,hc⟩];exact h
def a8G{ro:Option Nat}{a:Act}{w1 w2:World}{x:Next}{K:Act->World->Prop}{QQ:Exit->Act->World->Prop}(h:(execOp a.eval o).run P w1=.ok x w2)(hx:∀d,x≠.defer d)(k:o.uponIn (P6 ro) 0 P a K QQ (.ok x w2)):o.wpIn (P6 ro) 0 P a w1 K QQ:=by
 unfold Oper.wpIn;refine⟨fun _ _=>trivial,?_⟩;show o.uponIn (P6 ro) 0 P a K QQ ((o.semAt ro a.eval).run P w1)
 rw[b9W ro h hx];exact k
def a69{ro:Option Nat}{K:FuncId}{args:Array Value}{w1:World}{R:Ending->World->Prop}(h:Calls P K args w1 R):CallsIn (P6 ro) (0-1) P K args w1 R:=(callsIn_wide (n:=0)).2 h
def a1v(hg:o.guard=none)(h:∀a w1,Is a f n->F8 w w1->∀ro,o.wpIn (P6 ro) 0 P a w1 (wpListIn (P6 ro) 0 P ops.toArray (lift n a.defers Q) rest) (lift n a.defers Q)):WL P false n ops Q (o::rest) f w:=fun a w1 ha hs ro=>by unfold wpListIn;rw[if_pos (by simp[Region.wanted,hg])];simp_all
def put_defers(a:Act)(d:Option Nat)(v:Value):(a.put d v).defers=a.defers:=by cases d <;> rfl
def o9(hg:o.guard=none)(hd:o.dst=some d)(hn:Nat.blt d n=true)(hr:c7M P o f w v)(k:WL P m n ops Q rest (D5 f d v) w):WL P m n ops Q (o::rest) f w:=by
 cases m with
 |false =>
  refine a1v hg fun a w1 ha hs ro=>a8G (by rw[ha.eval];exact hr w1 hs) (by simp_all) ?_;rw[d7Z,hd];exact k _ w1 (ha.put (G4 hn) v) hs ro
 |true=>exact⟨d,true,v,hd,G4 hn,by rw[hg];exact rfl,fun _=>hr,fun h=>(by cases h),k⟩
def a6g(hg:o.guard=none)(hd:o.dst=some d)(hn:Nat.blt d n=true)(hr:∀w1,F8 w w1->∃v w2 w',(execOp (ev f) o).run P w1=.ok (.value v) w2/\F8 w' w2/\WL P false n ops Q rest (D5 f d v) w'):WL P false n ops Q (o::rest) f w:=
 a1v hg fun a w1 ha hs ro=>by obtain⟨v,w2,w',hr,hs',k⟩:=hr w1 hs;refine a8G (by rw[ha.eval];exact hr) (by simp_all) ?_;rw[d7Z,hd];exact k _ _ (ha.put (G4 hn) v) hs' ro
def c2X(hg:o.guard=none)(hd:o.dst=none)(hr:∀w1,F8 w w1->∃v w2 w',(execOp (ev f) o).run P w1=.ok (.value v) w2/\F8 w' w2/\WL P false n ops Q rest f w'):WL P false n ops Q (o::rest) f w:=
 a1v hg fun a w1 ha hs ro=>by obtain⟨v,w2,w',hr,hs',k⟩:=hr w1 hs;refine a8G (by rw[ha.eval];exact hr) (by simp_all) ?_;rw[d7Z,hd];exact k _ _ ha hs' ro
def b06(hg:o.guard=none)(hd:o.dst=none)(hr:∀w1,F8 w w1->∃w2 w',(execOp (ev f) o).run P w1=.ok .skip w2/\F8 w' w2/\WL P false n ops Q rest f w'):WL P false n ops Q (o::rest) f w:=
 a1v hg fun a w1 ha hs ro=>by obtain⟨w2,w',hr,hs',k⟩:=hr w1 hs;refine a8G (by rw[ha.eval];exact hr) (by simp_all) ?_;rw[Oper.uponIn_skip,hd];exact k _ _ ha hs' ro
def c1d{K:FuncId}{args:List Value}{R:Value->World->Prop}(hg:o.guard=none)(hd:o.dst=some d)(hn:Nat.blt d n=true)(hr:∀w1,F8 w w1->(execOp (ev f) o).run P w1=.ok (.enter K args.toArray) w1)
  (hc:G2 P K args w R) (k:∀v w',R v w'->WL P false n ops Q rest (D5 f d v) w'):WL P false n ops Q (o::rest) f w:=
 a1v hg fun a w1 ha hs ro=>by refine a8G (by rw[ha.eval];exact hr w1 hs) (by simp_all) ?_;rw[d8E];refine⟨fun h=>(by cases h),a69 (d6d (hc w1 hs) ?_)⟩;rintro e w2 ⟨v,w',rfl,hs',r⟩;simp only[hd];exact k v w' r _ _ (ha.put (G4 hn) v) hs' ro
def b89{K:FuncId}{args:List Value}{R:Value->World->Prop}(hg:o.guard=none)(hd:o.dst=none)(hr:∀w1,F8 w w1->(execOp (ev f) o).run P w1=.ok (.enter K args.toArray) w1)
  (hc:G2 P K args w R) (k:∀v w',R v w'->WL P false n ops Q rest f w'):WL P false n ops Q (o::rest) f w:=
 a1v hg fun a w1 ha hs ro=>by refine a8G (by rw[ha.eval];exact hr w1 hs) (by simp_all) ?_;rw[d8E];refine⟨fun h=>(by cases h),a69 (d6d (hc w1 hs) ?_)⟩;rintro e w2 ⟨v,w',rfl,hs',r⟩;simp only[hd];exact k v w' r _ _ ha hs' ro
def b9T{l:Nat}{args:List Value}{R:Value->World->Prop}(hg:o.guard=none)(hd:o.dst=some d)(hn:Nat.blt d n=true)(hr:∀w1,(execOp (ev f) o).run P w1=(Instr.yield l args.toArray).run P w1)
  (hc:a0w P l args w R) (k:∀v w',R v w'->WL P false n ops Q rest (D5 f d v) w'):WL P false n ops Q (o::rest) f w:=
 a1v hg fun a w1 ha hs ro=>by obtain⟨fn,tmps,ars,bd,h1,h2⟩:=hc w1 hs;refine a8G (x:=.round l fn tmps ars bd) (by rw[ha.eval,hr];exact h1) (by simp_all) ?_;rw[Oper.uponIn_round];refine⟨fun h=>(by cases h),RoundIn.mono (F:=P6 ro) h2 ?_⟩;rintro e w2 ⟨v,w',rfl,hs',r⟩;simp only[hd];exact k v w' r _ _ (ha.put (G4 hn) v) hs' ro
def S7{a:Act}(ha:Is a f n){j dj:Nat}(hj:q8 ops j=some dj)(hn:dj<n){x:Value}(hv:f dj=x):yielded ops.toArray a.tmps j=match x with|.bool b=>some b|_=>none:=by
 have h1:(ops.toArray[j]?).bind (·.dst)=some dj:=by rw[c1Y];exact hj
 have hs:=ha.size;have h2:a.tmps[dj]?=some x:=by
  have hlt:dj<a.tmps.size:=by omega
  have:=ha.get dj;rw[hv]at this;simp[hlt]at this ⊢;exact this
 have h3:((ops.toArray[j]?).bind (·.dst)).bind (a.tmps[·]?)=some x:=by rw[h1];exact h2
 unfold yielded;rw[h3];cases x <;> rfl
variable{dst:Option Nat}{op:Op}{ty:TypeId}{pos:String}{after:Array Edge}{j dj:Nat}{want:Bool}
def a7q(hj:q8 ops j=some dj)(hn:Nat.blt dj n=true)(hv:f dj=.bool want)(k:WL P m n ops Q (⟨dst,op,ty,pos,after,none⟩::rest) f w) :
  WL P m n ops Q (⟨dst,op,ty,pos,after,some (j,want)⟩::rest) f w:=by
 cases m with
 |false =>
  intro a w1 ha hs ro;have h:=k a w1 ha hs ro;unfold wpListIn at h ⊢;rw[if_pos (by simp[Region.wanted])]at h;rw[if_pos (by simp[Region.wanted,S7 ha hj (G4 hn) hv])];exact h
 |true =>
  obtain⟨d,b,v,hd,hdn,hw,hr,hu,k⟩:=k;have hb:b=true:=hw;subst hb;exact⟨d,true,v,hd,hdn,⟨dj,hj,G4 hn,.inl ⟨hv,rfl⟩⟩,hr,hu,k⟩
def a9S(hj:q8 ops j=some dj)(hn:Nat.blt dj n=true)(hd:Nat.blt d n=true)(hv:f dj=.bool (!want))(k:WL P m n ops Q rest (D5 f d undef) w) :
  WL P m n ops Q (⟨some d,op,ty,pos,after,some (j,want)⟩::rest) f w:=by
 cases m with
 |false =>
  intro a w1 ha hs ro;unfold wpListIn;rw[if_neg (by simp[Region.wanted,S7 ha hj (G4 hn) hv])];exact⟨fun _ _=>trivial,k _ w1 (ha.put (G4 hd) _) hs ro⟩
 |true=>exact⟨d,false,undef,rfl,G4 hd,⟨dj,hj,G4 hn,.inr ⟨.inl hv,rfl⟩⟩,fun h=>(by cases h),fun _=>rfl,k⟩
def a6p(hj:q8 ops j=some dj)(hn:Nat.blt dj n=true)(hd:Nat.blt d n=true)(hv:f dj=undef)(k:WL P m n ops Q rest (D5 f d undef) w) :
  WL P m n ops Q (⟨some d,op,ty,pos,after,some (j,want)⟩::rest) f w:=by
 cases m with
 |false =>
  intro a w1 ha hs ro;unfold wpListIn;rw[if_neg (by simp[Region.wanted,S7 ha hj (G4 hn) hv,undef])];exact⟨fun _ _=>trivial,k _ w1 (ha.put (G4 hd) _) hs ro⟩
 |true=>exact⟨d,false,undef,rfl,G4 hd,⟨dj,hj,G4 hn,.inr ⟨.inr hv,rfl⟩⟩,fun h=>(by cases h),fun _=>rfl,k⟩
def c2B(hj:q8 ops j=some dj)(hn:Nat.blt dj n=true)(hv:f dj=.bool (!want))(k:WL P false n ops Q rest f w) :
  WL P false n ops Q (⟨none,op,ty,pos,after,some (j,want)⟩::rest) f w:=fun a w1 ha hs ro=>by
 unfold wpListIn;rw[if_neg (by simp[Region.wanted,S7 ha hj (G4 hn) hv])];exact⟨fun _ _=>trivial,k _ w1 ha hs ro⟩
def c1k(hj:q8 ops j=some dj)(hn:Nat.blt dj n=true)(hv:f dj=undef)(k:WL P false n ops Q rest f w) :
  WL P false n ops Q (⟨none,op,ty,pos,after,some (j,want)⟩::rest) f w:=fun a w1 ha hs ro=>by
 unfold wpListIn;rw[if_neg (by simp[Region.wanted,S7 ha hj (G4 hn) hv,undef])];exact⟨fun _ _=>trivial,k _ w1 ha hs ro⟩
end
section
variable{P:Program}{m:Bool}{n:Nat}{ops:List Oper}{Q:Exit->Fr->World->Prop}{rest:List Oper}{f:Fr}{w w':World}{d:Nat}{v:Value}
variable{ty T T' T2:TypeId}{pos:String}{after:Array Edge}{x y z:Operand}{k:IntKind}{a b c:Int}{p q:Bool}
def c6A(hn:Nat.blt d n=true)(K:WL P m n ops Q rest (D5 f d (ev f x)) w):WL P m n ops Q (⟨some d,.move x,ty,pos,after,none⟩::rest) f w:=
 o9 rfl rfl hn (v:=ev f x) (fun _ _=>rfl) K
def b9j(hn:Nat.blt d n=true)(K:WL P m n ops Q rest (D5 f d (ev f x)) w):WL P m n ops Q (⟨some d,.assign x,ty,pos,after,none⟩::rest) f w:=
 o9 rfl rfl hn (v:=ev f x) (fun _ _=>rfl) K
def b5e(hx:ev f x=.bool p)(hn:Nat.blt d n=true)(K:WL P m n ops Q rest (D5 f d (if p then ev f y else ev f z)) w):WL P m n ops Q (⟨some d,.pick x y z,ty,pos,after,none⟩::rest) f w:=
 o9 rfl rfl hn (v:=if p then ev f y else ev f z) (fun _ _=>by simp[execOp,hx,asBool,go_sem]) K
def b9G(hx:ev f x=.bool true)(hn:Nat.blt d n=true)(K:WL P m n ops Q rest (D5 f d (ev f y)) w):WL P m n ops Q (⟨some d,.pick x y z,ty,pos,after,none⟩::rest) f w:=
 b5e hx hn K
def b8V(hx:ev f x=.bool false)(hn:Nat.blt d n=true)(K:WL P m n ops Q rest (D5 f d (ev f z)) w):WL P m n ops Q (⟨some d,.pick x y z,ty,pos,after,none⟩::rest) f w:=
 b5e hx hn K
def a0S{a:Int}(h:-9223372036854775808<=a/\a<=9223372036854775807):IntKind.i64.wrap a=a:=IntWalk.i64_in a h
def a2J{op:BinOp}(hx:ev f x=.int k a)(hy:ev f y=.int k b)(hr:∀w,(Op.intArith op k a b).run P w=.ok v w)(ho:op=.add∨op=.sub∨op=.mul)(hn:Nat.blt d n=true)(K:WL P m n ops Q rest (D5 f d v) w) :
  WL P m n ops Q (⟨some d,.binOp op T x y T',ty,pos,after,none⟩::rest) f w:=
 o9 rfl rfl hn (v:=v) (fun _ _=>by have hr':=hr w;rcases ho with rfl|rfl|rfl <;> simp[Op.intArith,go_sem]at hr' <;> simp[execOp,hx,hy,eqGuard,binOp,go_sem,hr']) K
def c9W(hx:ev f x=.int .i64 a)(hy:ev f y=.int .i64 b)(hb:-9223372036854775808<=a+b/\a+b<=9223372036854775807)(hn:Nat.blt d n=true)(K:WL P m n ops Q rest (D5 f d (.int .i64 (a+b))) w) :
  WL P m n ops Q (⟨some d,.binOp .add T x y T',ty,pos,after,none⟩::rest) f w:=
 a2J hx hy (fun _=>by simp[Op.intArith,go_sem,a0S hb]) (by simp) hn K
def d0U(hx:ev f x=.int .i64 a)(hy:ev f y=.int .i64 b)(hb:-9223372036854775808<=a-b/\a-b<=9223372036854775807)(hn:Nat.blt d n=true)(K:WL P m n ops Q rest (D5 f d (.int .i64 (a-b))) w) :
  WL P m n ops Q (⟨some d,.binOp .sub T x y T',ty,pos,after,none⟩::rest) f w:=
 a2J hx hy (fun _=>by simp[Op.intArith,go_sem,a0S hb]) (by simp) hn K
def d0g(hx:ev f x=.int .i64 a)(hy:ev f y=.int .i64 b)(hb:-9223372036854775808<=a*b/\a*b<=9223372036854775807)(hn:Nat.blt d n=true)(K:WL P m n ops Q rest (D5 f d (.int .i64 (a*b))) w) :
  WL P m n ops Q (⟨some d,.binOp .mul T x y T',ty,pos,after,none⟩::rest) f w:=
 a2J hx hy (fun _=>by simp[Op.intArith,go_sem,a0S hb]) (by simp) hn K
def c0Y(hx:ev f x=.int k a)(hy:ev f y=.int k b)(hn:Nat.blt d n=true) (K:WL P m n ops Q rest (D5 f d (.int k (k.wrap (a+b)))) w) :
  WL P m n ops Q (⟨some d,.binOp .add T x y T',ty,pos,after,none⟩::rest) f w:=
 a2J hx hy (fun _=>by simp[Op.intArith,go_sem]) (by simp) hn K
def c0T(hx:ev f x=.int k a)(hy:ev f y=.int k b)(hn:Nat.blt d n=true) (K:WL P m n ops Q rest (D5 f d (.int k (k.wrap (a-b)))) w) :
  WL P m n ops Q (⟨some d,.binOp .sub T x y T',ty,pos,after,none⟩::rest) f w:=
 a2J hx hy (fun _=>by simp[Op.intArith,go_sem]) (by simp) hn K
def c71(hx:ev f x=.int k a)(hy:ev f y=.int k b)(hn:Nat.blt d n=true) (K:WL P m n ops Q rest (D5 f d (.int k (k.wrap (a*b)))) w) :
  WL P m n ops Q (⟨some d,.binOp .mul T x y T',ty,pos,after,none⟩::rest) f w:=
 a2J hx hy (fun _=>by simp[Op.intArith,go_sem]) (by simp) hn K
def c5c(hx:ev f x=.int k a)(hy:ev f y=.int k b)(hb:b≠0)(hn:Nat.blt d n=true) (K:WL P m n ops Q rest (D5 f d (.int k (k.wrap (a.tdiv b)))) w) :
  WL P m n ops Q (⟨some d,.binOp .quo T x y T',ty,pos,after,none⟩::rest) f w:=
 o9 rfl rfl hn (v:=.int k (k.wrap (a.tdiv b))) (fun _ _=>by simp[execOp,hx,hy,eqGuard,binOp,go_sem,Op.intDiv,hb]) K
def d1G(hx:ev f x=.int k a)(hy:ev f y=.int k b)(hb:b≠0)(hn:Nat.blt d n=true)(K:WL P m n ops Q rest (D5 f d (.int k (a.tmod b))) w) :
  WL P m n ops Q (⟨some d,.binOp .rem T x y T',ty,pos,after,none⟩::rest) f w:=
 o9 rfl rfl hn (v:=.int k (a.tmod b)) (fun _ _=>by simp[execOp,hx,hy,eqGuard,binOp,go_sem,Op.intDiv,hb]) K
def c8V{k':IntKind}(hx:ev f x=.int k a)(hy:ev f y=.int k' b)(hb:0<=b)(hn:Nat.blt d n=true) (K:WL P m n ops Q rest (D5 f d (.int k (a.fdiv (2 ^ min b.toNat k.bits)))) w) :
  WL P m n ops Q (⟨some d,.binOp .shr T x y T',ty,pos,after,none⟩::rest) f w:=
 o9 rfl rfl hn (v:=.int k (a.fdiv (2 ^ min b.toNat k.bits))) (fun _ _=>by simp[execOp,hx,hy,eqGuard,binOp,go_sem,Op.shift,d5K.2 hb]) K
def c9g{k':IntKind}(hx:ev f x=.int k a)(hy:ev f y=.int k' b)(hb:0<=b)(hn:Nat.blt d n=true) (K:WL P m n ops Q rest (D5 f d (.int k (k.wrap (a*2 ^ min b.toNat k.bits)))) w) :
  WL P m n ops Q (⟨some d,.binOp .shl T x y T',ty,pos,after,none⟩::rest) f w:=
 o9 rfl rfl hn (v:=.int k (k.wrap (a*2 ^ min b.toNat k.bits))) (fun _ _=>by simp[execOp,hx,hy,eqGuard,binOp,go_sem,Op.shift,d5K.2 hb]) K
def c5r(hx:ev f x=.int k a)(hy:ev f y=.int k b)(hn:Nat.blt d n=true) (K:WL P m n ops Q rest (D5 f d (.int k (k.wrap (BitVec.ofInt k.bits a &&& BitVec.ofInt k.bits b).toNat))) w) :
  WL P m n ops Q (⟨some d,.binOp .and T x y T',ty,pos,after,none⟩::rest) f w:=
 o9 rfl rfl hn (v:=.int k (k.wrap (BitVec.ofInt k.bits a &&& BitVec.ofInt k.bits b).toNat)) (fun _ _=>by simp[execOp,hx,hy,eqGuard,binOp,go_sem,Op.intBits]) K
def d3B(hx:ev f x=.int k a)(hy:ev f y=.int k b)(hn:Nat.blt d n=true) (K:WL P m n ops Q rest (D5 f d (.int k (k.wrap (BitVec.ofInt k.bits a ||| BitVec.ofInt k.bits b).toNat))) w) :
  WL P m n ops Q (⟨some d,.binOp .or T x y T',ty,pos,after,none⟩::rest) f w:=
 o9 rfl rfl hn (v:=.int k (k.wrap (BitVec.ofInt k.bits a ||| BitVec.ofInt k.bits b).toNat)) (fun _ _=>by simp[execOp,hx,hy,eqGuard,binOp,go_sem,Op.intBits]) K
def d2C(hx:ev f x=.int k a)(hy:ev f y=.int k b)(hn:Nat.blt d n=true) (K:WL P m n ops Q rest (D5 f d (.int k (k.wrap (BitVec.ofInt k.bits a ^^^ BitVec.ofInt k.bits b).toNat))) w) :
  WL P m n ops Q (⟨some d,.binOp .xor T x y T',ty,pos,after,none⟩::rest) f w:=
 o9 rfl rfl hn (v:=.int k (k.wrap (BitVec.ofInt k.bits a ^^^ BitVec.ofInt k.bits b).toNat)) (fun _ _=>by simp[execOp,hx,hy,eqGuard,binOp,go_sem,Op.intBits]) K
def c5I(hx:ev f x=.int k a)(hy:ev f y=.int k b)(hn:Nat.blt d n=true) (K:WL P m n ops Q rest (D5 f d (.bool (decide (a<b)))) w) :
  WL P m n ops Q (⟨some d,.binOp .lss T x y T',ty,pos,after,none⟩::rest) f w:=
 o9 rfl rfl hn (v:=.bool (decide (a<b))) (fun _ _=>by simp[execOp,hx,hy,eqGuard,binOp,go_sem,Op.intCmp]) K
def c54(hx:ev f x=.int k a)(hy:ev f y=.int k b)(hn:Nat.blt d n=true) (K:WL P m n ops Q rest (D5 f d (.bool (decide (a<=b)))) w) :
  WL P m n ops Q (⟨some d,.binOp .leq T x y T',ty,pos,after,none⟩::rest) f w:=
 o9 rfl rfl hn (v:=.bool (decide (a<=b))) (fun _ _=>by simp[execOp,hx,hy,eqGuard,binOp,go_sem,Op.intCmp]) K
def c5u(hx:ev f x=.int k a)(hy:ev f y=.int k b)(hn:Nat.blt d n=true) (K:WL P m n ops Q rest (D5 f d (.bool (decide (b<a)))) w) :
  WL P m n ops Q (⟨some d,.binOp .gtr T x y T',ty,pos,after,none⟩::rest) f w:=
 o9 rfl rfl hn (v:=.bool (decide (b<a))) (fun _ _=>by simp[execOp,hx,hy,eqGuard,binOp,go_sem,Op.intCmp]) K
def c5f(hx:ev f x=.int k a)(hy:ev f y=.int k b)(hn:Nat.blt d n=true) (K:WL P m n ops Q rest (D5 f d (.bool (decide (b<=a)))) w) :
  WL P m n ops Q (⟨some d,.binOp .geq T x y T',ty,pos,after,none⟩::rest) f w:=
 o9 rfl rfl hn (v:=.bool (decide (b<=a))) (fun _ _=>by simp[execOp,hx,hy,eqGuard,binOp,go_sem,Op.intCmp]) K
def c4J(hx:ev f x=.int k a)(hy:ev f y=.int k b)(hn:Nat.blt d n=true) (K:WL P m n ops Q rest (D5 f d (.bool (decide (a=b)))) w) :
  WL P m n ops Q (⟨some d,.binOp .eql T x y T',ty,pos,after,none⟩::rest) f w:=
 o9 rfl rfl hn (v:=.bool (decide (a=b))) (fun _ _=>by simp[execOp,hx,hy,eqGuard,binOp,go_sem,Op.intCmp];grind) K
def c4O(hx:ev f x=.int k a)(hy:ev f y=.int k b)(hn:Nat.blt d n=true) (K:WL P m n ops Q rest (D5 f d (.bool (decide (a≠b)))) w) :
  WL P m n ops Q (⟨some d,.binOp .neq T x y T',ty,pos,after,none⟩::rest) f w:=
 o9 rfl rfl hn (v:=.bool (decide (a≠b))) (fun _ _=>by simp[execOp,hx,hy,eqGuard,binOp,go_sem,Op.intCmp];grind) K
def eqB{w:World}{p q:Bool}(hT:∀w,(underlying T).run P w=.ok .bool w):(Op.equal T (.bool p) (.bool q)).run P w=.ok (decide (p=q)) w:=by
 have h:∀d,(Op.equalIn (d+1) T (.bool p) (.bool q)).run P w=.ok (decide (p=q)) w:=fun d=>by unfold Op.equalIn;rw[d4X,hT,d4V];cases p <;> cases q <;> rfl
 exact h 9999
def c8k{q:Bool}(hT:∀w,(underlying T).run P w=.ok .bool w)(hx:ev f x=.bool p)(hy:ev f y=.bool q)(hn:Nat.blt d n=true) (K:WL P m n ops Q rest (D5 f d (.bool (decide (p=q)))) w) :
  WL P m n ops Q (⟨some d,.binOp .eql T x y T',ty,pos,after,none⟩::rest) f w:=
 o9 rfl rfl hn (v:=.bool (decide (p=q))) (fun _ _=>by simp[execOp,hx,hy,eqGuard,binOp,go_sem,eqB hT]) K
def c8A{q:Bool}(hT:∀w,(underlying T).run P w=.ok .bool w)(hx:ev f x=.bool p)(hy:ev f y=.bool q)(hn:Nat.blt d n=true) (K:WL P m n ops Q rest (D5 f d (.bool (decide (p≠q)))) w) :
  WL P m n ops Q (⟨some d,.binOp .neq T x y T',ty,pos,after,none⟩::rest) f w:=
 o9 rfl rfl hn (v:=.bool (decide (p≠q))) (fun _ _=>by cases p <;> cases q <;> simp[execOp,hx,hy,eqGuard,binOp,go_sem,eqB hT]) K
def c0q(hx:ev f x=.bool p)(hn:Nat.blt d n=true)(K:WL P m n ops Q rest (D5 f d (.bool (!p))) w):WL P m n ops Q (⟨some d,.unOp .not T x,ty,pos,after,none⟩::rest) f w:=
 o9 rfl rfl hn (v:=.bool (!p)) (fun _ _=>by simp[execOp,hx,Op.unary,go_sem]) K
def d2s(hx:ev f x=.int k a)(hn:Nat.blt d n=true) (K:WL P m n ops Q rest (D5 f d (.int k (k.wrap (0-a)))) w):WL P m n ops Q (⟨some d,.unOp .neg T x,ty,pos,after,none⟩::rest) f w:=
 o9 rfl rfl hn (v:=.int k (k.wrap (0-a))) (fun _ _=>by simp[execOp,hx,Op.unary,Op.intArith,go_sem]) K
def b7P{vs:Array Value}{i:Nat}(hx:ev f x=.tuple vs)(hi:vs[i]?=some v)(hn:Nat.blt d n=true)(K:WL P m n ops Q rest (D5 f d v) w):WL P m n ops Q (⟨some d,.extract x i,ty,pos,after,none⟩::rest) f w:=
 o9 rfl rfl hn (v:=v) (fun _ _=>by simp[execOp,hx,Instr.extract,hi,go_sem]) K
def b4z{fn:Fn}{xs ys:List Operand}(hn:Nat.blt d n=true) (K:WL P m n ops Q rest (D5 f d (.func fn (xs.map (ev f)).toArray (ys.map (ev f)).toArray)) w):WL P m n ops Q (⟨some d,.makeFunc fn xs.toArray ys.toArray,ty,pos,after,none⟩::rest) f w:=
 o9 rfl rfl hn (v:=.func fn (xs.map (ev f)).toArray (ys.map (ev f)).toArray) (fun _ _=>by simp[execOp,Instr.makeFunc,go_sem]) K
def b1u{A:Option Addr}{mm cp:Nat}{E:TypeId}(hT:∀w,(underlying T).run P w=.ok (.slice E) w)(hx:ev f x=.slice A mm cp)(hn:Nat.blt d n=true)(K:WL P m n ops Q rest (D5 f d (.int .i64 mm)) w) :
  WL P m n ops Q (⟨some d,.call ⟨.builtin .len,#[x],#[T]⟩,ty,pos,after,none⟩::rest) f w:=
 o9 rfl rfl hn (v:=.int .i64 mm) (fun _ _=>by simp[Builtin.len_,hx,hT,go_sem]) K
def c89{s:ByteArray}(hT:∀w,(underlying T).run P w=.ok .string w)(hx:ev f x=.string s)(hn:Nat.blt d n=true)(K:WL P m n ops Q rest (D5 f d (.int .i64 s.size)) w) :
  WL P m n ops Q (⟨some d,.call ⟨.builtin .len,#[x],#[T]⟩,ty,pos,after,none⟩::rest) f w:=
 o9 rfl rfl hn (v:=.int .i64 s.size) (fun _ _=>by simp[Builtin.len_,hx,hT,go_sem]) K
def d2K{Ts:Array TypeId}(hx:ev f x=.int k a)(hy:ev f y=.int k b)(hn:Nat.blt d n=true)(K:WL P m n ops Q rest (D5 f d (.int k (max a b))) w) :
  WL P m n ops Q (⟨some d,.call ⟨.builtin .max,#[x,y],Ts⟩,ty,pos,after,none⟩::rest) f w:=
 o9 rfl rfl hn (v:=.int k (max a b)) (fun _ _=>by
  have e:(if b > a then b else a)=max a b:=by rw[Int.max_def];split <;> split <;> omega
  simp[Builtin.max_,Builtin.max2,hx,hy,go_sem];exact e) K
def d0O{Ts:Array TypeId}(hx:ev f x=.int k a)(hy:ev f y=.int k b)(hn:Nat.blt d n=true)(K:WL P m n ops Q rest (D5 f d (.int k (min a b))) w) :
  WL P m n ops Q (⟨some d,.call ⟨.builtin .min,#[x,y],Ts⟩,ty,pos,after,none⟩::rest) f w:=
 o9 rfl rfl hn (v:=.int k (min a b)) (fun _ _=>by
  have e:(if b<a then b else a)=min a b:=by rw[Int.min_def];split <;> split <;> omega
  simp[Builtin.min_,Builtin.min2,hx,hy,go_sem];exact e) K
end
structure Ext(B:List Nat)(w w':World):Prop where
 os:w'.os=w.os
 tape:w'.tape=w.tape
 output:w'.output=w.output
 size:w.heap.size<=w'.heap.size
 block:∀b,b<w.heap.size->b ∉ B->w'.heap[b]?=w.heap[b]?
def Ext.refl(B:List Nat)(w:World):Ext B w w:=⟨rfl,rfl,rfl,d5m _,fun _ _ _=>rfl⟩
def Ext.trans{B B1 B2:List Nat}{a b c:World}(h:Ext B1 a b)(k:Ext B2 b c)(h1:∀x∈B1,x∈B∨a.heap.size<=x)(h2:∀x∈B2,x∈B∨a.heap.size<=x):Ext B a c:=
 ⟨k.os.trans h.os,k.tape.trans h.tape,k.output.trans h.output,d5f h.size k.size,fun i hi hB =>
  (k.block i (d6z hi h.size) (fun hm=>by grind)).trans (h.block i hi (fun hm=>by grind))⟩
def Ext.tr{a b c:World}(h:Ext [] a b)(k:Ext [] b c):Ext [] a c:=h.trans k (by simp) (by simp)
def Ext.trB{B:List Nat}{a b c:World}(h:Ext B a b)(k:Ext B b c):Ext B a c:=h.trans k (fun x hx=>.inl hx) (fun x hx=>.inl hx)
def Ext.mono{B B':List Nat}{a b:World}(h:Ext B a b)(hB:∀x∈B,x∈B'∨a.heap.size<=x):Ext B' a b:=
 ⟨h.os,h.tape,h.output,h.size,fun i hi hn=>h.block i hi fun hm=>by grind⟩
def Ext.to{B:List Nat}{a b:World}(h:Ext [] a b):Ext B a b:=h.mono (by simp)
def Ext.drew{B:List Nat}{a b:World}(h:Ext B a b)(n:Nat):Ext B a { b with drawn:=n }:=⟨h.os,h.tape,h.output,h.size,h.block⟩
def Ext.below{w w':World}(h:Ext [] w w'):RowKit.Below w.heap.size w w':=⟨h.os,h.tape,h.output,h.size,fun k hk=>h.block k hk (by simp)⟩
def Ext.sim{B:List Nat}{a b c:World}(h:Ext B a b)(hs:F8 b c):Ext B a c:=by obtain⟨k,rfl⟩:=hs;exact h.drew k
def Ext.get{B:List Nat}{w w':World}{b:Nat}{o:Obj}(h:Ext B w w')(hb:b ∉ B)(ho:w.heap[b]?=some o):w'.heap[b]?=some o:=by
 have hlt:b<w.heap.size:=by
  rcases d5B b w.heap.size with h|h
  . exact h
  . simp_all
 rw[h.block b hlt hb,ho]
def T5{w:World}{b:Nat}{o:Obj}(ho:w.heap[b]?=some o):b<w.heap.size:=by grind
def Cells(w:World)(b o:Nat)(cs:List Value):Prop:=∃C T z,w.heap[b]?=some (.cells C T z)/\∀j,j<cs.length->C[o+j]?=cs[j]?
def Cells.ext{B:List Nat}{w w':World}{b o:Nat}{cs:List Value}(h:Cells w b o cs)(e:Ext B w w')(hb:b ∉ B):Cells w' b o cs:=
 let⟨C,T,z,hh,hc⟩:=h;⟨C,T,z,e.get hb hh,hc⟩
def Cells.sim{w w1:World}{b o:Nat}{cs:List Value}(h:Cells w b o cs)(hs:F8 w w1):Cells w1 b o cs:=by obtain⟨k,rfl⟩:=hs;exact h
def Cells.lt{w:World}{b o:Nat}{cs:List Value}(h:Cells w b o cs):b<w.heap.size:=let⟨_,_,_,hh,_⟩:=h;T5 hh
def Cells.cell{w:World}{b o:Nat}{cs:List Value}(h:Cells w b o cs){j:Nat}{v:Value}(hv:cs[j]?=some v):w.cell? ⟨b,o+j,none⟩=some v:=by
 obtain⟨C,T,z,hh,hc⟩:=h;have hj:j<cs.length:=by
  rcases d5B j cs.length with h|h
  . exact h
  . simp_all
 simp[World.cell?,hh,hc j hj,hv]
def D7:Value->Bool
 |.agg _=>false
 |.tuple _=>false
 |_=>true
structure e7(α:Type) where
 sz:Nat
 rd:List Nat->World->List Value->α->Prop
 len:∀{M w cs x},rd M w cs x->cs.length=sz
 mono:∀{M M' B w w' cs x},rd M w cs x->Ext B w w'->(∀b∈B,b∈M∨w.heap.size<=b)->(∀b∈M',b∈M∨w.heap.size<=b)->rd M' w' cs x
 plain:∀{M w cs x},rd M w cs x->cs.all D7=true
def e7.ext{α:Type}(r:e7 α){M:List Nat}{w w':World}{cs:List Value}{x:α}(h:r.rd M w cs x)(e:Ext [] w w'):r.rd M w' cs x:=r.mono h e (by simp) (fun b hb=>.inl hb)
def InI(x:Int):Prop:=-9223372036854775808<=x/\x<=9223372036854775807
abbrev z6:=List UInt8
def sv(s:z6):Value:=.string ⟨s.toArray⟩
def d3i:e7 z6 where
 sz:=1
 rd:=fun _ _ cs s=>cs=[sv s]/\s.length<=9223372036854775807
 len:=fun h=>by rw[h.1];rfl
 mono:=fun h _ _ _=>h
 plain:=fun h=>by rw[h.1];rfl
def e7.map{α β:Type}(r:e7 α)(g:β->α):e7 β where
 sz:=r.sz
 rd:=fun M w cs y=>r.rd M w cs (g y)
 len:=r.len
 mono:=r.mono
 plain:=r.plain
def b9l{α:Type}(r:e7 α):e7 (List α) where
 sz:=1
 rd:=fun M w cs l=>l.length<=9223372036854775807/\∃A cap,cs=[.slice A l.length cap]/\(A=none->cap=0)/\∀i (h:i<l.length),∃b o c,A=some ⟨b,o,none⟩/\b ∉ M/\Cells w b (o+i*r.sz) c/\r.rd M w c l[i]
 len:=fun⟨_,A,cap,e,_⟩=>by rw[e];rfl
 mono:=fun⟨hl,A,cap,e,h0,h⟩ hx hB hM=>⟨hl,A,cap,e,h0,fun i hi=>by obtain⟨b,o,c,e1,hb,hc,hr⟩:=h i hi;have hlt:=hc.lt;exact⟨b,o,c,e1,fun hm=>by grind,hc.ext hx (fun hm=>by grind),r.mono hr hx hB hM⟩⟩
 plain:=fun⟨_,A,cap,e,_⟩=>by rw[e];rfl
section
variable{α β:Type}{r:e7 α}{s:e7 β}{M:List Nat}{w:World}
def b4i:(b9l r).rd M w [.slice none 0 0] []:=⟨by simp,none,0,rfl,fun _=>rfl,fun i hi=>by simp at hi⟩
end
section
variable{P:Program}{m:Bool}{n:Nat}{ops:List Oper}{Q:Exit->Fr->World->Prop}{rest:List Oper}{f:Fr}{w w':World}{d:Nat}{v:Value}{M:List Nat}
variable{ty T T' T2 E:TypeId}{pos:String}{after:Array Edge}{x y z:Operand}{k:IntKind}{a b c:Int}{p q:Bool}
variable{α β:Type}{r:e7 α}{s:e7 β}
def a0G{b o mm cap sz:Nat}{i:Int}(hT:∀w,(underlying T).run P w=.ok (.slice E) w)(hE:∀w,(sizeOf E).run P w=.ok sz w)(h0:0<=i)(h1:i<mm)(w:World) :
  (Instr.indexAt T (.slice (some ⟨b,o,none⟩) mm cap) (.int k i)).run P w=.ok (.pointer (some ⟨b,o+i.toNat*sz,none⟩)) w:=by
 have e:(Addr.add ⟨b,o,none⟩ (i.toNat*sz))=⟨b,o+i.toNat*sz,none⟩:=by
  unfold Addr.add;split
  . simp_all
  . rfl
 simp[Instr.indexAt,asIntOf,hT,hE,h0,h1,go_sem,e]
def run_load{b o:Nat}{v:Value}(hA:∀w,(isAgg T).run P w=.ok false w)(hc:Cells w b o [v]):(Instr.loadAt T (.pointer (some ⟨b,o,none⟩))).run P w=.ok v w:=by have h:=hc.cell (j:=0) (v:=v) rfl;simp only[d6r]at h;simp[Instr.loadAt,Instr.sureAddr,loadVar,hA,go_sem,load,Sem.run,h]
def c4c{b o:Nat}(hA:∀w,(isAgg T).run P w=.ok false w)(hx:ev f x=.pointer (some ⟨b,o,none⟩))(hc:Cells w b o [v])(hn:Nat.blt d n=true)(K:WL P m n ops Q rest (D5 f d v) w) :
  WL P m n ops Q (⟨some d,.load T x,ty,pos,after,none⟩::rest) f w:=
 o9 rfl rfl hn (v:=v) (fun w1 hs=>by simp only[execOp,hx,d4X,run_load hA (hc.sim hs)];rfl) K
def Q6{b o:Nat}{cs:List Value}(hc:Cells w b o cs):∀(mm i:Nat)(acc:Array Value),i+mm=cs.length->(loadCellsFrom ⟨b,o,none⟩ i mm acc).run P w=.ok (acc++(cs.drop i).toArray) w:=by
 intro mm
 induction mm with
 |zero=>intro i acc h;simp only[loadCellsFrom];simp_all
 |succ mm ih =>
  intro i acc h;have hi:i<cs.length:=by omega
  have hcell:=hc.cell (j:=i) (v:=cs[i]) (by simp[hi]);have e:(Addr.add ⟨b,o,none⟩ i)=⟨b,o+i,none⟩:=by
   unfold Addr.add;split
   . simp_all
   . rfl
  simp only[loadCellsFrom,e,d4X,load,Sem.run,hcell,d4V];rw[ih (i+1) _ (by omega),d6E hi];simp
def b88{b o mm:Nat}{cs:List Value}(hA:∀w,(isAgg T).run P w=.ok true w)(hz:∀w,(sizeOf T).run P w=.ok mm w)(hl:cs.length=mm)(hx:ev f x=.pointer (some ⟨b,o,none⟩))(hc:Cells w b o cs)(hn:Nat.blt d n=true)
  (K:WL P m n ops Q rest (D5 f d (.agg cs.toArray)) w):WL P m n ops Q (⟨some d,.load T x,ty,pos,after,none⟩::rest) f w:=
 o9 rfl rfl hn (v:=.agg cs.toArray) (fun w1 hs=>by have h:=Q6 (P:=P) (hc.sim hs) cs.length 0 #[] (by omega);simp only[List.drop_zero,Array.empty_append]at h;subst hl;simp[execOp,hx,Instr.loadAt,Instr.sureAddr,loadVar,hA,hz,loadCells,h,go_sem]) K
def b1w{b o i:Nat}{fs:Array Field}{fd:Field}{mm:Nat}(hT:∀w,(underlying T).run P w=.ok (.struct fs) w)(hf:fs[i]?=some fd)(hz:∀w,(sizeOf fd.type).run P w=.ok (mm+1) w)(hx:ev f x=.pointer (some ⟨b,o,none⟩))(hn:Nat.blt d n=true)
  (K:WL P m n ops Q rest (D5 f d (.pointer (some ⟨b,o+fd.offset,none⟩))) w):WL P m n ops Q (⟨some d,.fieldAddr T x i,ty,pos,after,none⟩::rest) f w:=
 o9 rfl rfl hn (v:=.pointer (some ⟨b,o+fd.offset,none⟩)) (fun w1 hs=>by
  have e:(Addr.add ⟨b,o,none⟩ fd.offset)=⟨b,o+fd.offset,none⟩:=by
   unfold Addr.add;split
   . simp_all
   . rfl
  simp[execOp,hx,Instr.fieldAt,Instr.sureAddr,fieldPlace,hT,hf,hz,go_sem,e]) K
end
def c1S(o:Oper):List Nat:=o.op.operands.toList.filterMap fun|.tmp t=>some t|_=>none
def reads(l:List Oper)(o:Oper):List Nat:=c1S o++(match o.guard with|some (j,_)=>(q8 l j).toList|none=>[])
def R2(l:List Oper):Bool:=l.zipIdx.all fun(o,i)=>o.after.toList.all fun e=>!Region.binds .any e || Nat.blt e.on i
def a8v(o:Oper):Bool:=match o.op with|.select .. => true|_=>false
def a8q(P:Program)(o:Oper)(g:Fr)(w:World)(R:Value->World->Prop):Prop:=
 (∀w1,F8 w w1->∃v w2 w',(execOp (ev g) o).run P w1=.ok (.value v) w2/\F8 w' w2/\R v w') ∨
 (∀w1,F8 w w1->∃w2 w',(execOp (ev g) o).run P w1=.ok .skip w2/\F8 w' w2/\R undef w') ∨
 (∃K args,(∀w1,F8 w w1->(execOp (ev g) o).run P w1=.ok (.enter K args) w1)/\G2 P K args.toList w R)
def b9s(P:Program)(l:List Oper)(o:Oper)(g:Fr)(w:World)(R:Value->World->Prop):Prop:=
 match o.guard with
 |none=>a8q P o g w R
 |some (j,want)=>∃dj x,q8 l j=some dj/\g dj=x/\((x=.bool want/\a8q P o g w R)∨((x=.bool (!want)∨x=undef)/\R undef w))
section
variable{P:Program}{n:Nat}{l:List Oper}{Q:Exit->Fr->World->Prop}{f0:Fr}{w0:World}
def Is.d3u{a:Act}{f:Fr}{n:Nat}(h:Is a f n){d:Option Nat}(hd:∀t,d=some t->t<n)(v:Value):Is (a.put d v) (R7 f d v) n:=by
 cases d with
 |none=>exact h
 |some t=>exact h.put (hd t rfl) v
def b6B{ro:Option Nat}{o:Oper}{g:Fr}{w w1:World}{a:Act}{R:Value->World->Prop}{K:Act->World->Prop}{QQ:Exit->Act->World->Prop}(ha:Is a g n)(hs:F8 w w1)
  (h:a8q P o g w R) (k:∀v w' w2,R v w'->F8 w' w2->K (a.put o.dst v) w2):o.wpIn (P6 ro) 0 P a w1 K QQ:=by
 rcases h with h|h|⟨Kf,args,hr,hc⟩
 . obtain⟨v,w2,w',hr,hs',r⟩:=h w1 hs;refine a8G (by rw[ha.eval];exact hr) (by simp_all) ?_;rw[d7Z];grind
 . obtain⟨w2,w',hr,hs',r⟩:=h w1 hs;refine a8G (by rw[ha.eval];exact hr) (by simp_all) ?_;rw[Oper.uponIn_skip];grind
 . refine a8G (by rw[ha.eval];exact hr w1 hs) (by simp_all) ?_;rw[d8E];have:args.toList.toArray=args:=by simp
   have hc':=hc w1 hs;rw[this]at hc';refine⟨fun h=>(by cases h),a69 (d6d hc' ?_)⟩;grind
def c2S{ro:Option Nat}{i:Nat}{o:Oper}(ho:l[i]?=some o){g:Fr}{w w1:World}{a:Act}{R:Value->World->Prop}{K:Act->World->Prop}{QQ:Exit->Act->World->Prop}(ha:Is a g n)(hs:F8 w w1)
  (hn:∀(j:Nat)(t:Nat),q8 l j=some t->t<n) (h:b9s P l o g w R) (k:∀v w' w2,R v w'->F8 w' w2->K (a.put o.dst v) w2):wpOpIn (P6 ro) 0 P l.toArray QQ i K a w1:=by
 unfold wpOpIn;simp only[d6m,ho];unfold b9s at h;split at h
 . rename_i hg;rw[if_pos (by simp[Region.wanted,hg])];exact b6B ha hs h k
 . rename_i j want hg;obtain⟨dj,x,hj,hx,h⟩:=h;have hy:=S7 (ops:=l) ha hj (hn _ _ hj) hx;rcases h with⟨rfl,h⟩|⟨hx',r⟩
   . rw[if_pos (by simp[Region.wanted,hg,hy])];exact b6B ha hs h k
   . rw[if_neg (by rcases hx' with rfl|rfl <;> simp[Region.wanted,hg,hy,undef])];exact⟨fun _ _=>trivial,k undef w w1 r hs⟩
structure Inv(l:List Oper)(I:World->Prop)(Φ:Nat->Value->World->Prop)(f0:Fr)(L:Array Bool)(g:Fr)(w:World):Prop where
 size:L.size=l.length
 world:I w
 done:∀j t,L[j]?=some true->q8 l j=some t->Φ j (g t) w
 kept:∀t,(∀j,L[j]?=some true->q8 l j≠some t)->g t=f0 t
 closed:∀(j:Nat)(o:Oper),L[j]?=some true->l[j]?=some o->∀e∈o.after,Region.binds .any e=true->L[e.on]?=some true
def count(L:Array Bool):Nat:=(L.toList.filter (· = false)).length
def count_set{L:Array Bool}{i:Nat}(h:L[i]?=some false):count (L.setIfInBounds i true)+1=count L:=by
 obtain⟨L⟩:=L;simp only[d6m]at h;simp only[count,List.setIfInBounds_toArray]
 induction L generalizing i with
 |nil=>simp at h
 |cons b r ih =>
  cases i with
  |zero=>simp_all
  |succ i=>grind
def T8{L:Array Bool}{i:Nat}:i∈Region.ready .any l.toArray L↔∃o,l[i]?=some o/\L.getD i true=false/\∀e∈o.after,Region.binds .any e=true->L.getD e.on false=true:=by
 unfold Region.ready;rw[d5u];constructor
 . rintro⟨_,h⟩;cases ho:l[i]? with
   |none=>simp_all
   |some o =>
    simp[ho]at h;refine⟨o,rfl,by simp_all,fun e he hb=>?_⟩;obtain⟨k,hk⟩:=Array.getElem?_of_mem he;have hlt:k<o.after.size:=by
     rcases d5B k o.after.size with h|h
     . exact h
     . simp_all
    have hk':o.after[k]=e:=by simpa[d7m hlt]using hk
    have:=h.2 k hlt;simp_all
 grind
def O9{l:List Oper}:∀{i:Nat}{o:Oper},l[i]?=some o->q8 l i=o.dst:=by
 induction l with
 |nil=>simp_all
 |cons x r ih=>intro i o h;cases i with
  |zero=>simp at h;subst h;rfl
  |succ i=>simp at h;simp[q8,ih h]
def a10{l:List Oper}:∀{i t:Nat},q8 l i=some t->∃o,l[i]?=some o/\o.dst=some t:=by
 induction l with
 |nil=>intro i t h;simp[q8]at h
 |cons x r ih=>intro i t h;cases i with
  |zero=>exact⟨x,rfl,h⟩
  |succ i=>obtain⟨o,h1,h2⟩:=ih (i:=i) h;simp_all
def a3P{L:Array Bool}(ha:R2 l=true)(hs:L.size=l.length)(h:Region.ready .any l.toArray L=[]):∀i,i<l.length->L[i]?=some true:=by
 intro i
 induction i using Nat.strongRecOn with
 |_ i ih =>
  intro hi;have ho:l[i]?=some l[i]:=by simp[hi]
  cases hL:L[i]? with
  |none=>simp_all
  |some b =>
   cases b with
   |true=>rfl
   |false =>
    exfalso;have hmem:i∈Region.ready .any l.toArray L:=by
     rw[T8];refine⟨l[i],ho,by simp[hL],fun e he hb=>?_⟩;have hlt:e.on<i:=by
      unfold R2 at ha;rw[d5D]at ha;have:=ha (l[i],i) (by grind)
      simp only[d5D]at this;have:=this e (by simp_all);rw[hb]at this;simpa[Nat.blt_eq]using this
     have:=ih e.on hlt (by omega);simp[this]
    simp_all
def b84{ro:Option Nat}{ds:List Deferred}{I:World->Prop}{Φ:Nat->Value->World->Prop}(ha:R2 l=true)(hn:∀(j:Nat)(t:Nat),q8 l j=some t->t<n)
  (hd:∀(i j:Nat)(t:Nat),q8 l i=some t->q8 l j=some t->i=j)
  (step:∀(i:Nat)(o:Oper)(L:Array Bool)(g:Fr)(w:World),l[i]?=some o->Inv l I Φ f0 L g w->L[i]?=some false->(∀e∈o.after,Region.binds .any e=true->L[e.on]?=some true) ->
   b9s P l o g w (fun v w'=>I w'/\Φ i v w'/\∀j u,Φ j u w->Φ j u w'))
  (fin:∀g w,I w->(∀j t,q8 l j=some t->Φ j (g t) w)->(∀t,(∀j,q8 l j≠some t)->g t=f0 t)->Q .normal g w) :
  ∀(fuel:Nat)(L:Array Bool)(a:Act)(g:Fr)(w w1:World),count L=fuel->Is a g n->a.defers=ds->F8 w w1->Inv l I Φ f0 L g w->wpAnyIn (P6 ro) 0 P .any l.toArray (lift n ds Q) fuel L a w1:=by
 have finish:∀(L:Array Bool)(a:Act)(g:Fr)(w w1:World),Is a g n->a.defers=ds->F8 w w1->Inv l I Φ f0 L g w->(∀i,i<l.length->L[i]?=some true)->lift n ds Q .normal a w1:=by
  intro L a g w w1 hg hds hs hinv hall;refine⟨g,w,hg,hds,hs,fin g w hinv.world (fun j t hj=>?_) (fun t ht=>hinv.kept t fun j _=>ht j)⟩;obtain⟨o,ho,_⟩:=a10 hj;have hlt:j<l.length:=by
   rcases d5B j l.length with h|h
   . exact h
   . simp_all
  exact hinv.done j t (hall j hlt) hj
 intro fuel
 induction fuel with
 |zero =>
  intro L a g w w1 hc hg hds hs hinv;have hall:∀i,i<l.length->L[i]?=some true:=by
   intro i hi;cases hL:L[i]? with
   |none=>rw[d8B,hinv.size]at hL;omega
   |some b=>cases b with
    |true=>rfl
    |false=>have:=count_set hL;omega
  refine⟨?_,finish L a g w w1 hg hds hs hinv hall⟩;cases hr:Region.ready .any l.toArray L with
  |nil=>rfl
  |cons i r =>
   have hm:i∈Region.ready .any l.toArray L:=by rw[hr];simp
   obtain⟨o,ho,h1,_⟩:=T8.1 hm;have hlt:i<l.length:=by
    rcases d5B i l.length with h|h
    . exact h
    . simp_all
   simp_all
 |succ fuel ih =>
  intro L a g w w1 hc hg hds hs hinv;refine⟨fun hr=>finish L a g w w1 hg hds hs hinv (a3P ha hinv.size hr),fun i hi=>?_⟩;obtain⟨o,ho,h1,h2⟩:=T8.1 hi;have hlt:i<l.length:=by
   rcases d5B i l.length with h|h
   . exact h
   . simp_all
  have hLi:L[i]?=some false:=by
   have:i<L.size:=by rw[hinv.size];exact hlt
   simp[this]at h1 ⊢;exact h1
  have hdeps:∀e∈o.after,Region.binds .any e=true->L[e.on]?=some true:=fun e he hb=>by
   have:=h2 e he hb;cases hx:L[e.on]? with
   |none=>simp[hx]at this
   |some b=>simp_all
  refine c2S ho hg hs hn (step i o L g w ho hinv hLi hdeps) ?_;rintro v w' w2 ⟨hI,hΦ,hst⟩ hs';have hdo:q8 l i=o.dst:=O9 ho;refine ih _ _ (R7 g o.dst v) w' w2 (by have:=count_set hLi;omega) (hg.d3u (d:=o.dst) (fun t ht=>hn i t (hdo.trans ht)) v) ((put_defers _ _ _).trans hds) hs' ?_;have hget:∀j,(L.setIfInBounds i true)[j]?=some true->j=i∨L[j]?=some true:=by
   intro j hj;by_cases hji:j=i
   . omega
   . grind
  have hgo:∀t,o.dst≠some t->R7 g o.dst v t=g t:=by
   intro t ht;unfold R7;cases hdd:o.dst with
   |none=>rfl
   |some u=>simp only;rw[W8,if_neg (fun e=>ht (by rw[hdd,e]))]
  refine⟨by simp[hinv.size],hI,fun j t hj hjt=>?_,fun t ht=>?_,fun j p hj hp e he hb=>?_⟩
  . rcases hget j hj with rfl|hj'
    . rw[hdo]at hjt;unfold R7;simp only[hjt];rw[W8,if_pos rfl];exact hΦ
    . have hne:o.dst≠some t:=fun e=>by
        grind
      rw[hgo t hne];exact hst j _ (hinv.done j t hj' hjt)
  . have hne:o.dst≠some t:=fun e=>ht i (by grind) (hdo.trans e);rw[hgo t hne];refine hinv.kept t fun j hj=>ht j ?_;grind
  . have mark:L[e.on]?=some true->(L.setIfInBounds i true)[e.on]?=some true:=fun h=>by
      grind
    rcases hget j hj with rfl|hj'
    . rw[ho]at hp;cases hp;exact mark (hdeps e he hb)
    . exact mark (hinv.closed j p hj' hp e he hb)
def b0q{id:Nat}{w:World}{I:World->Prop}{Φ:Nat->Value->World->Prop}(hm:P.follows .mixedOrders=true)(ha:R2 l=true)(hn:∀(j:Nat)(t:Nat),q8 l j=some t->t<n)
  (hd:∀(i j:Nat)(t:Nat),q8 l i=some t->q8 l j=some t->i=j) (hI:I w)
  (step:∀(i:Nat)(o:Oper)(L:Array Bool)(g:Fr)(w:World),l[i]?=some o->Inv l I Φ f0 L g w->L[i]?=some false->(∀e∈o.after,Region.binds .any e=true->L[e.on]?=some true) ->
   b9s P l o g w (fun v w'=>I w'/\Φ i v w'/\∀j u,Φ j u w->Φ j u w'))
  (fin:∀g w,I w->(∀j t,q8 l j=some t->Φ j (g t) w)->(∀t,(∀j,q8 l j≠some t)->g t=f0 t)->Q .normal g w) :
  W P n (.region id l.toArray true) Q f0 w:=fun a w1 hf hs ro=>by
 refine wpIn_region_any hm (b84 ha hn hd step fin _ _ a f0 w _ ?_ hf rfl (hs.trans (F8.drawn _ _)) ?_)
 . simp[count]
 . have hrep:∀j,(Array.replicate l.toArray.size false)[j]?≠some true:=fun j h=>by
     rw[Array.getElem?_replicate]at h;simp_all
   exact⟨by simp,hI,fun j t hj=>absurd hj (hrep j),fun _ _=>rfl,fun j o hj=>absurd hj (hrep j)⟩
end
def b4X(acc:List Nat)(o:Oper):Nat:=o.after.toList.foldl (fun s e=>bif Region.binds .any e then(s ||| (1 <<< e.on)) ||| acc.getD e.on 0 else s) 0
def b04:List Oper->List Nat->List Nat
 |[],acc=>acc
 |o::r,acc=>b04 r (acc++[b4X acc o])
def a9I(l:List Oper):List Nat:=b04 l []
def b0p:List Oper->List Nat->Bool
 |[],_=>true
 |o::r,seen=>match o.dst with|some d=>!seen.contains d && b0p r (d::seen)|none=>false
def a7U(ms:List Nat)(i t:Nat):List Oper->Nat->Bool
 |[],_=>true
 |o::r,j=>(match o.dst with|some d=>!Nat.beq d t || (Nat.blt j i && (ms.getD i 0).testBit j) || (Nat.blt i j && (ms.getD j 0).testBit i)|none=>true) && a7U ms i t r (j+1)
def a6e(l:List Oper)(ms:List Nat):List Oper->Nat->Bool
 |[],_=>true
 |o::r,i=>(reads l o).all (fun t=>a7U ms i t l 0) && !a8v o && a6e l ms r (i+1)
def a9Z(l:List Oper):Bool:=R2 l && b0p l [] && a6e l (a9I l) l 0
inductive Dep(l:List Oper):Nat->Nat->Prop
 |one {i:Nat} {o:Oper} {e:Edge}:l[i]?=some o->e∈o.after->Region.binds .any e=true->Dep l i e.on
 |trans {i k j:Nat}:Dep l i k->Dep l k j->Dep l i j
def b7O{l:List Oper}{i:Nat}{o:Oper}(ho:l[i]?=some o){acc:List Nat}(hacc:∀k j,(acc.getD k 0).testBit j=true->Dep l k j) :
  ∀(es:List Edge)(s:Nat),(∀e∈es,e∈o.after)->(∀j,s.testBit j=true->Dep l i j)->∀j,(es.foldl (fun s e=>bif Region.binds .any e then(s ||| (1 <<< e.on)) ||| acc.getD e.on 0 else s) s).testBit j=true->Dep l i j:=by
 intro es
 induction es with
 |nil=>simp_all
 |cons e r ih =>
  intro s he hs j h;refine ih _ (fun e' h'=>he e' (by simp[h'])) ?_ j h;intro j hj;cases hb:Region.binds .any e with
  |false=>simp_all
  |true =>
   simp only[hb,d5r,Nat.testBit_or,d5V]at hj;have hd:Dep l i e.on:=.one ho (he e (by simp)) hb;rcases hj with(hj|hj)|hj
   . exact hs j hj
   . rw[Nat.one_shiftLeft,Nat.testBit_two_pow]at hj;simp_all
   . exact .trans hd (hacc _ _ hj)
def b1E{l:List Oper}:∀(r:List Oper)(acc:List Nat),(∀k,r[k]?=l[acc.length+k]?)->(∀k j,(acc.getD k 0).testBit j=true->Dep l k j)->∀k j,((b04 r acc).getD k 0).testBit j=true->Dep l k j:=by
 intro r
 induction r with
 |nil=>intro acc _ h;exact h
 |cons o r ih =>
  intro acc hr hacc;refine ih (acc++[b4X acc o]) (fun k=>?_) ?_
  . have:=hr (k+1);grind
  . intro k j h;by_cases hk:k<acc.length
    . grind
    . by_cases hk':k=acc.length
      . subst hk';have ho:l[acc.length]?=some o:=by have:=hr 0;simpa using this.symm
        refine b7O ho hacc o.after.toList 0 (fun e he=>by simpa using he) (by simp) j ?_;simpa[d5Z,b4X]using h
      grind
def a0U{l:List Oper}(k j:Nat)(h:((a9I l).getD k 0).testBit j=true):Dep l k j:=
 b1E l [] (by simp) (by simp) k j h
def a1S:List Oper->List Value->Fr->Nat->Fr
 |o::l,v::vs,f,i+1=>a1S l vs (R7 f o.dst v) i
 |_,_,f,_=>f
section
variable{P:Program}{n:Nat}{Q:Exit->Fr->World->Prop}
def c3T{ops:List Oper}{w:World}:∀{l:List Oper}{f:Fr},QL P n ops Q l f w->∃vs:List Value,vs.length=l.length /\
  (∀i o,l[i]?=some o->∃d b v,o.dst=some d/\d<n/\vs[i]?=some v/\c0G ops n (a1S l vs f i) o.guard b/\(b=true->c7M P o (a1S l vs f i) w v)/\(b=false->v=undef))/\Q .normal (a1S l vs f l.length) w:=by
 intro l
 induction l with
 |nil=>intro f h;exact⟨[],rfl,by simp,h⟩
 |cons o r ih =>
  intro f h;obtain⟨d,b,v,hd,hn,hw,hr,hu,k⟩:=h;obtain⟨vs,hl,hs,hq⟩:=ih k;refine⟨v::vs,by simp[hl],fun i o' ho'=>?_,by simpa[a1S,R7,hd]using hq⟩;cases i with
  |zero=>simp at ho';subst ho';exact⟨d,b,v,hd,hn,rfl,hw,hr,hu⟩
  |succ i =>
   simp at ho';obtain⟨d',b',v',h1,h2,h3,h4,h5,h6⟩:=hs i o' ho';exact⟨d',b',v',h1,h2,by simpa using h3,by simpa[a1S,R7,hd]using h4,by simpa[a1S,R7,hd]using h5,h6⟩
def b3R:∀{l:List Oper}{seen:List Nat},b0p l seen=true->(∀(i:Nat)(o:Oper),l[i]?=some o->∃d,o.dst=some d/\d ∉ seen)/\(∀(i j t:Nat),q8 l i=some t->q8 l j=some t->i=j):=by
 intro l
 induction l with
 |nil=>intro seen _;exact⟨fun i o h=>by simp at h,fun i j t h=>by simp[q8]at h⟩
 |cons o r ih =>
  intro seen h;unfold b0p at h;cases hd:o.dst with
  |none=>simp_all
  |some d =>
   rw[hd]at h;simp at h;obtain⟨h1,h2⟩:=ih h.2;refine⟨fun i o' ho'=>?_,fun i j t hi hj=>?_⟩
   . grind
   . cases i with
     |zero=>cases j with
      |zero=>rfl
      |succ j =>
       exfalso;simp only[q8,hd]at hi hj;cases hi;obtain⟨o',ho',hdo⟩:=a10 hj;grind
     |succ i=>cases j with
      |zero =>
       exfalso;simp only[q8,hd]at hi hj;cases hj;obtain⟨o',ho',hdo⟩:=a10 hi;grind
      |succ j=>exact congrArg (· + 1) (h2 i j t hi hj)
def c1X:∀{l:List Oper}{vs:List Value}{f:Fr}{i t:Nat},vs.length=l.length->(∀i j t,q8 l i=some t->q8 l j=some t->i=j) ->
  (∀j,q8 l j=some t->j<i->vs[j]?=some (a1S l vs f i t))/\((∀j,q8 l j=some t->i<=j)->a1S l vs f i t=f t):=by
 intro l
 induction l with
 |nil=>intro vs f i t _ _;exact⟨fun j h=>by simp[q8]at h,fun _=>by simp[a1S]⟩
 |cons o r ih =>
  intro vs f i t hl hd;cases vs with
  |nil=>simp at hl
  |cons v vs =>
   have hd':∀i j t,q8 r i=some t->q8 r j=some t->i=j:=fun i j t h1 h2=>by have:=hd (i+1) (j+1) t h1 h2;omega
   cases i with
   |zero=>exact⟨fun j _ h=>by omega,fun _=>rfl⟩
   |succ i =>
    obtain⟨h1,h2⟩:=ih (vs:=vs) (f:=R7 f o.dst v) (i:=i) (t:=t) (by simpa using hl) hd';refine⟨fun j hj hlt=>?_,fun h=>?_⟩
    . cases j with
      |zero =>
       have hn:∀j,q8 r j=some t->i<=j:=fun j hj'=>by have:=hd 0 (j+1) t hj hj';omega
       have ho:o.dst=some t:=hj;simp only[a1S];rw[h2 hn];simp[R7,ho,W8]
      |succ j=>simpa[a1S]using h1 j hj (by omega)
    . have ho:o.dst≠some t:=fun e=>by have:=h 0 e;omega
      simp only[a1S];rw[h2 (fun j hj=>by have:=h (j+1) hj;omega)];cases hdd:o.dst with
      |none=>rfl
      |some u=>simp only[R7];rw[W8,if_neg (fun e=>ho (by rw[hdd,e]))]
def b3v{l:List Oper}{ms:List Nat}{i t:Nat}:∀{r:List Oper}{k:Nat},(∀x,r[x]?=l[k+x]?)->a7U ms i t r k=true->∀j,k<=j->q8 l j=some t->(j<i/\(ms.getD i 0).testBit j=true)∨(i<j/\(ms.getD j 0).testBit i=true):=by
 intro r
 induction r with
 |nil =>
  intro k hr _ j hj hd;obtain⟨o,ho,_⟩:=a10 hd;have:=hr (j-k);simp_all
 |cons o r ih =>
  intro k hr h j hj hd;unfold a7U at h;rw[d4U]at h;by_cases hjk:j=k
  . subst hjk;have ho:l[j]?=some o:=by have:=hr 0;simpa using this.symm
    rw[O9 ho]at hd;simp_all
  . exact ih (k:=k+1) (fun x=>by have:=hr (x+1);grind) h.2 j (by omega) hd
def b0I{l:List Oper}{ms:List Nat}:∀{r:List Oper}{k:Nat},(∀x,r[x]?=l[k+x]?)->a6e l ms r k=true->∀i o,k<=i->l[i]?=some o->a8v o=false/\∀t∈reads l o,a7U ms i t l 0=true:=by
 intro r
 induction r with
 |nil =>
  intro k hr _ j o hj ho;have:=hr (j-k);simp_all
 |cons o r ih =>
  intro k hr h j o' hj ho';unfold a6e at h;rw[d4U,d4U]at h;by_cases hjk:j=k
  . subst hjk;have ho:l[j]?=some o:=by have:=hr 0;simpa using this.symm
    simp_all
  . exact ih (k:=k+1) (fun x=>by have:=hr (x+1);grind) h.2 j o' (by omega) ho'
def Dep.listed{l:List Oper}{I:World->Prop}{Φ:Nat->Value->World->Prop}{f0:Fr}{L:Array Bool}{g:Fr}{w:World}(hinv:Inv l I Φ f0 L g w){i j:Nat}(hd:Dep l i j) :
  (∀o,l[i]?=some o->∀e∈o.after,Region.binds .any e=true->L[e.on]?=some true)->L[j]?=some true:=by
 induction hd with
 |one ho he hb=>simp_all
 |trans _ _ ih1 ih2=>intro h;exact ih2 fun o ho e he hb=>hinv.closed _ o (ih1 h) ho e he hb
def a8d{id:Nat}{l:List Oper}{f:Fr}{w:World}(hm:P.follows .mixedOrders=true)(hk:a9Z l=true)(h:WL P true n l Q l f w):W P n (.region id l.toArray true) Q f w:=by
 unfold a9Z at hk;rw[d4U,d4U]at hk;obtain⟨⟨ha,hd⟩,hr⟩:=hk;obtain⟨hdst,huniq⟩:=b3R hd;obtain⟨vs,hl,hs,hq⟩:=c3T (show QL P n l Q l f w from h);have hget:=fun i t=>c1X (l:=l) (vs:=vs) (f:=f) (i:=i) (t:=t) hl huniq;refine b0q (I:=fun v=>v=w) (Φ:=fun i v _=>vs[i]?=some v) hm ha (fun j t hj=>?_) huniq rfl ?_ ?_
 . obtain⟨o,ho,hdo⟩:=a10 hj;grind
 . intro i o L g w' ho hinv hLi hdeps;have hw':w'=w:=hinv.world;subst hw';obtain⟨d,b,v,h1,h2,h3,h4,h5,h6⟩:=hs i o ho;obtain⟨hsel,hro⟩:=b0I (l:=l) (ms:=a9I l) (r:=l) (k:=0) (by simp) hr i o (d6B _) ho;have agree:∀t∈reads l o,g t=a1S l vs f i t:=by
    intro t ht;have hso:=b3v (l:=l) (r:=l) (k:=0) (by simp) (hro t ht);by_cases hex:∃j,q8 l j=some t
    . obtain⟨j,hj⟩:=hex;rcases hso j (d6B _) hj with⟨hlt,hb⟩|⟨hlt,hb⟩
      . have hL:L[j]?=some true:=(a0U i j hb).listed hinv fun o' ho'=>by rw[ho]at ho';cases ho';exact hdeps
        have e1:=hinv.done j t hL hj;grind
      . have hL:∀k,L[k]?=some true->q8 l k≠some t:=fun k hk hkt=>by
          have:=huniq j k t hj hkt;subst this;have:=(a0U j i hb).listed hinv fun o' ho' e he hbe=>hinv.closed j o' hk ho' e he hbe;simp_all
        rw[hinv.kept t hL,(hget i t).2 fun k hk=>by grind]
    . rw[hinv.kept t fun k _ hk=>hex ⟨k,hk⟩,(hget i t).2 fun k hk=>absurd ⟨k,hk⟩ hex]
   have hops:∀x∈o.op.operands,ev g x=ev (a1S l vs f i) x:=by
    intro x hx;cases x with
    |tmp t =>
     refine agree t ?_;unfold reads c1S;refine d5S _ (d7N.2 ⟨.tmp t,by simpa using hx,rfl⟩)
    |_=>rfl
   have hrun:b=true->a8q P o g w' (fun u w''=>w''=w'/\vs[i]?=some u/\∀(j:Nat)(u':Value),vs[j]?=some u'->vs[j]?=some u'):=fun hb =>
    .inl fun w1 hw1=>⟨v,w1,w',by rw[execOp_congr o (fun cs bb e=>by simp[a8v,e]at hsel) hops];exact h5 hb w1 hw1,hw1,rfl,h3,fun _ _ h=>h⟩
   unfold b9s;cases hg:o.guard with
   |none=>rw[hg]at h4;exact hrun h4
   |some jw =>
    obtain⟨j,want⟩:=jw;rw[hg]at h4;obtain⟨dj,hj,hdn,hcase⟩:=h4;have hgd:g dj=a1S l vs f i dj:=agree dj (by unfold reads;rw[hg];refine d6H _ ?_;simp[hj])
    grind
 . intro g w' hw' hdone hkept;subst hw';have:g=a1S l vs f l.length:=by
    funext t;by_cases hex:∃j,q8 l j=some t
    . grind
    . rw[hkept t fun j hj=>hex ⟨j,hj⟩,(hget l.length t).2 fun j hj=>absurd ⟨j,hj⟩ hex]
   rw[this];exact hq
end
def Q5(w:World)(b:Nat)(T:TypeId)(cs:List Value):Prop:=w.heap[b]?=some (.cells cs.toArray T (0,0))
def Q5.lt{w:World}{b:Nat}{T:TypeId}{cs:List Value}(h:Q5 w b T cs):b<w.heap.size:=T5 h
def Q5.ext{B:List Nat}{w w':World}{b:Nat}{T:TypeId}{cs:List Value}(h:Q5 w b T cs)(e:Ext B w w')(hb:b ∉ B):Q5 w' b T cs:=e.get hb h
def Q5.cells{w:World}{b:Nat}{T:TypeId}{cs:List Value}(h:Q5 w b T cs)(o:Nat)(c r:List Value)(e:cs.drop o=c++r):Cells w b o c:=
 ⟨_,_,_,h,fun j hj=>by
  have:(cs.drop o)[j]?=c[j]? := by rw[e,d5l hj]
  grind⟩
def Q5.all{w:World}{b:Nat}{T:TypeId}{cs:List Value}(h:Q5 w b T cs):Cells w b 0 cs:=h.cells 0 cs [] (by simp)
def Ext.push(w:World)(o:Obj):Ext [] w { w with heap:=w.heap.push o }:=
 ⟨rfl,rfl,rfl,by simp,fun b hb _=>by grind⟩
def Q5.push(w:World)(T:TypeId)(cs:Array Value):Q5 { w with heap:=w.heap.push (.cells cs T) } w.heap.size T cs.toList:=by simp[Q5]
def E7(cs:List Value)(o:Nat):List Value->List Value
 |[]=>cs
 |v::r=>E7 (cs.set o v) (o+1) r
def L5(c:List Value):∀(cs:List Value)(o:Nat),(E7 cs o c).length=cs.length:=by
 induction c with
 |nil=>intro cs o;rfl
 |cons v r ih=>intro cs o;simp[E7,ih]
def Q5.setCell{w:World}{b:Nat}{T:TypeId}{cs:List Value}(h:Q5 w b T cs)(o:Nat)(v:Value) :
  Q5 (w.setCell ⟨b,o,none⟩ v) b T (cs.set o v)/\Ext [b] w (w.setCell ⟨b,o,none⟩ v)/\(w.setCell ⟨b,o,none⟩ v).heap.size=w.heap.size:=by
 refine⟨?_,⟨rfl,rfl,rfl,by simp_all,fun k hk hb=>?_⟩,by simp_all⟩
 . unfold Q5 at h ⊢;simp[World.setCell,d6n,h]
 . simp[World.setCell,d6n];grind
def a9F{P:Program}{w:World}{b o:Nat}{T:TypeId}{cs:List Value}{v:Value}(h:Q5 w b T cs)(ho:o<cs.length)(hv:D7 v=true) :
  (store ⟨b,o,none⟩ v).run P w=.ok () (w.setCell ⟨b,o,none⟩ v):=by
 have hc:w.cell? ⟨b,o,none⟩=some cs[o]:=by unfold Q5 at h;simp[World.cell?,h,ho]
 have hf:w.frozen? ⟨b,o,none⟩=false:=by unfold Q5 at h;simp[World.frozen?,h]
 unfold store;cases v <;> first|(simp[D7]at hv;done)|simp[Sem.run,hc,hf]
def a7j{P:Program}{b:Nat}{T:TypeId}:∀(c:List Value)(o i:Nat)(cs:List Value)(w:World),Q5 w b T cs->o+i+c.length<=cs.length->(∀v∈c,D7 v=true) ->
  ∃w',(storeCells ⟨b,o,none⟩ c i).run P w=.ok () w'/\Q5 w' b T (E7 cs (o+i) c)/\Ext [b] w w'/\w'.heap.size=w.heap.size/\(∀k,(storeCells ⟨b,o,none⟩ c i).run P { w with drawn:=k }=.ok () { w' with drawn:=k }):=by
 intro c
 induction c with
 |nil=>intro o i cs w h _ _;exact⟨w,rfl,h,Ext.refl _ _,rfl,fun _=>rfl⟩
 |cons v r ih =>
  intro o i cs w h hl hv;have e:(Addr.add ⟨b,o,none⟩ i)=⟨b,o+i,none⟩:=by
   unfold Addr.add;split
   . simp_all
   . rfl
  simp at hl;obtain⟨h1,h2,h3⟩:=h.setCell (o+i) v;have hrun:=a9F (P:=P) h (o:=o+i) (v:=v) (by omega) (hv v (by simp));obtain⟨w',hr,ho,he,hs,hk⟩:=ih o (i+1) _ _ h1 (by simp;omega) (fun u hu=>hv u (by simp[hu]));refine⟨w',?_,by simpa[E7,d7E]using ho,h2.trB he,by rw[hs,h3],fun k=>?_⟩
  . simp only[storeCells,e,d4X,hrun,d4V,hr]
  . have hrun':=a9F (P:=P) (w:={ w with drawn:=k }) h (o:=o+i) (v:=v) (by omega) (hv v (by simp));simp only[storeCells,e,d4X,hrun',d4V];exact hk k
section
variable{P:Program}{n:Nat}{ops:List Oper}{Q:Exit->Fr->World->Prop}{rest:List Oper}{f:Fr}{w:World}{d:Nat}{v:Value}{M:List Nat}
variable{ty T T' T2 E:TypeId}{pos:String}{after:Array Edge}{x y z:Operand}{k:IntKind}{a b c:Int}{p q:Bool}
def b6F{o:Oper}{e:TypeId}{cs:Array Value}{mk:Nat->Value}(hg:o.guard=none)(hd:o.dst=some d)(hn:Nat.blt d n=true)
  (hr:∀w1,(execOp (ev f) o).run P w1=.ok (.value (mk w1.heap.size)) { w1 with heap:=w1.heap.push (.cells cs e) })
  (K:∀b w',Ext [] w w'->w.heap.size=b->w'.heap.size=b+1->Q5 w' b e cs.toList->WL P false n ops Q rest (D5 f d (mk b)) w'):WL P false n ops Q (o::rest) f w:=
 a6g hg hd hn fun w1 hs=>by obtain⟨k,rfl⟩:=hs;exact⟨_,_,{ w with heap:=w.heap.push (.cells cs e) },hr _,⟨k,rfl⟩,K w.heap.size _ (Ext.push w _) rfl (by simp) (Q5.push w e cs)⟩
def c2u{zv:Value}(hz:∀w,(zeroValue T).run P w=.ok zv w)(hn:Nat.blt d n=true)
  (K:∀b w',Ext [] w w'->w.heap.size=b->w'.heap.size=b+1->Q5 w' b T zv.cells.toList->WL P false n ops Q rest (D5 f d (.pointer (some ⟨b,0,none⟩))) w') :
  WL P false n ops Q (⟨some d,.alloc T,ty,pos,after,none⟩::rest) f w:=
 b6F (mk:=fun b=>.pointer (some ⟨b,0,none⟩)) rfl rfl hn (fun w1=>by simp[execOp,Instr.alloc,hz,newVar,newRow,newObj,Sem.run,go_sem]) K
def d0x(hn:Nat.blt d n=true)
  (K:∀b w',Ext [] w w'->w.heap.size=b->w'.heap.size=b+1->Q5 w' b T (ev f x).cells.toList->WL P false n ops Q rest (D5 f d (.pointer (some ⟨b,0,none⟩))) w') :
  WL P false n ops Q (⟨some d,.box T x,ty,pos,after,none⟩::rest) f w:=
 b6F (mk:=fun b=>.pointer (some ⟨b,0,none⟩)) rfl rfl hn (fun w1=>by simp[execOp,Instr.box,newVar,newRow,newObj,Sem.run,go_sem]) K
def c2Q{b o mm:Nat}{cs c:List Value}(hz:∀w,(sizeOf T).run P w=.ok mm w)(hx:ev f x=.pointer (some ⟨b,o,none⟩))(hc:(ev f y).cells.toList=c)(hm:c.length=mm)(ho:Q5 w b E cs)(hl:o+mm<=cs.length)(hp:c.all D7=true)
  (K:∀w',Ext [b] w w'->w'.heap.size=w.heap.size->Q5 w' b E (E7 cs o c)->WL P false n ops Q rest f w') :
  WL P false n ops Q (⟨none,.store T x y,ty,pos,after,none⟩::rest) f w:=
 b06 rfl rfl fun w1 hs=>by
  obtain⟨k,rfl⟩:=hs;obtain⟨w',hr,ho',he,hsz,hk⟩:=a7j (P:=P) c o 0 cs w ho (by omega) (fun v hv=>by simp_all);refine⟨_,w',?_,⟨k,rfl⟩,K w' he hsz (by omega)⟩;have hsize:(ev f y).cells.size=mm:=by rw[<- d7r,hc,hm]
  have hrun:(storeVar T ⟨b,o,none⟩ (ev f y)).run P { w with drawn:=k }=.ok () { w' with drawn:=k }:=by unfold storeVar;simp only[d4X,hz,d4V];rw[if_neg (by omega),hc];exact hk k
  simp only[execOp,hx,Instr.storeAt,Instr.sureAddr,d4X,d5O,d4V,hrun]
def b3s{b o mm cap sz:Nat}{i:Int}{m:Bool}(hT:∀w,(underlying T).run P w=.ok (.slice E) w)(hE:∀w,(sizeOf E).run P w=.ok sz w)(hx:ev f x=.slice (some ⟨b,o,none⟩) mm cap)(hy:ev f y=.int k i)
  (h0:0<=i) (h1:i<mm) (hn:Nat.blt d n=true) (K:WL P m n ops Q rest (D5 f d (.pointer (some ⟨b,o+i.toNat*sz,none⟩))) w) :
  WL P m n ops Q (⟨some d,.indexAddr T x y,ty,pos,after,none⟩::rest) f w:=
 o9 rfl rfl hn (v:=.pointer (some ⟨b,o+i.toNat*sz,none⟩)) (fun w1 _=>by simp only[execOp,hx,hy,d4X,a0G hT hE h0 h1];rfl) K
end
def b7u{v:Value}(h:D7 v=true):v.cells=#[v]:=by cases v <;> first|rfl|(simp[D7]at h)
def a9h{cs:Array Value}:∀(c:List Value)(k off:Nat)(acc:Array Value),((c.zipIdx k).foldl (fun cs (c,j)=>cs.setIfInBounds (off+j) c) acc).toList=E7 acc.toList (off+k) c:=by
 intro c
 induction c with
 |nil=>intro k off acc;rfl
 |cons v r ih =>
  intro k off acc;simp only[List.zipIdx_cons,List.foldl_cons,E7];rw[ih (k+1) off];grind
def a8B:∀(c:List Value)(u x r:List Value),x.length=c.length->E7 (u++x++r) u.length c=u++c++r:=by
 intro c
 induction c with
 |nil=>intro u x r h;simp at h;subst h;simp[E7]
 |cons v c ih =>
  intro u x r h
  match x,h with
  |y::x,h =>
   simp only[E7];have:(u++y::x++r).set u.length v=(u++[v])++x++r:=by simp[List.set_append]
   grind
def a0o{α:Type}:Nat->List (Nat×α)->Bool
 |_,[]=>true
 |i,(j,_)::r=>Nat.beq j i && a0o (i+1) r
def c1l{sz:Nat}:∀(ps:List (Nat×Value)) (u x:List Value) (i:Nat),a0o i ps=true->u.length=i*sz->x.length=ps.length*sz->(∀p∈ps,p.2.cells.size=sz) ->
  Instr.fill (fun i=>some (i*sz,sz)) (u++x).toArray ps=some (u++ps.flatMap fun p=>p.2.cells.toList).toArray:=by
 intro ps
 induction ps with
 |nil=>intro u x i _ hu hx _;simp at hx;subst hx;simp[Instr.fill]
 |cons p r ih =>
  intro u x i ho hu hx hs;obtain⟨j,v⟩:=p;simp only[a0o,d4U]at ho;have hj:j=i:=d4W ho.1;subst hj;have hv:v.cells.size=sz:=hs (j,v) (by simp);have hx':x.length=sz+r.length*sz:=by rw[hx,d5h,d6k];omega
  obtain⟨x1,x2,rfl,h1,h2⟩:∃x1 x2,x=x1++x2/\x1.length=sz/\x2.length=r.length*sz:=⟨x.take sz,x.drop sz,by simp,by simp;omega,by simp;omega⟩;have hif:((v.cells.size≠sz:Bool) || (j*sz+v.cells.size > (u++(x1++x2)).toArray.size:Bool))=false:=by simp[hv,hu,h1]
  simp only[Instr.fill];rw[if_neg (by simp_all)];have hfold:(v.cells.zipIdx.foldl (fun cs (c,k)=>cs.setIfInBounds (j*sz+k) c) (u++(x1++x2)).toArray)=(u++v.cells.toList++x2).toArray:=by apply d7t;rw[<- Array.foldl_toList,Array.toList_zipIdx];have:=a9h (cs:=#[]) v.cells.toList 0 (j*sz) (u++(x1++x2)).toArray;rw[this];simp only[List.toList_toArray,d6r];rw[<- hu,<- d5x];exact a8B _ _ _ _ (by simp[h1,hv])
  rw[hfold,ih (u++v.cells.toList) x2 (j+1) ho.2 (by simp[hu,hv,d6k]) h2 (fun p hp=>hs p (by simp[hp]))];simp
section
variable{P:Program}{n:Nat}{ops:List Oper}{Q:Exit->Fr->World->Prop}{rest:List Oper}{f:Fr}{w:World}{d:Nat}{v:Value}{M:List Nat}
variable{ty T T' T2 E:TypeId}{pos:String}{after:Array Edge}{x y z:Operand}
def a4m{len sz:Nat}{ps:Array (Nat×Operand)}{vs:List (Nat×Value)}{zv:Value}{cs:List Value}(hT:∀w,(underlying T).run P w=.ok (.slice E) w)(hE:∀w,(sizeOf E).run P w=.ok sz w)(hz:∀w,(zeroValue E).run P w=.ok zv w)
  (hv:ps.toList.map (fun p=>(p.1,ev f p.2))=vs) (hlen:vs.length=len) (hord:a0o 0 vs=true) (hsz:vs.all (fun p=>Nat.beq p.2.cells.size sz)=true) (hcs:(vs.flatMap fun p=>p.2.cells.toList)=cs) (hsmall:Nat.ble (len*sz) 16777216=true) (hn:Nat.blt d n=true)
  (K:∀b w',Ext [] w w'->w.heap.size=b->w'.heap.size=b+1->Q5 w' b E cs->WL P false n ops Q rest (D5 f d (.slice (some ⟨b,0,none⟩) len len)) w') :
  WL P false n ops Q (⟨some d,.buildSlice T len ps,ty,pos,after,none⟩::rest) f w:=by
 subst hcs;refine b6F (mk:=fun b=>.slice (some ⟨b,0,none⟩) len len) (e:=E) (cs:=(vs.flatMap fun p=>p.2.cells.toList).toArray) rfl rfl hn (fun w1=>?_) (fun b w' h1 h2 h3 h4=>K b w' h1 h2 h3 (by omega));have hmap:(ps.map fun p=>(p.1,ev f p.2)).toList=vs:=by rw[<- hv];simp
 have hall:∀p∈vs,p.2.cells.size=sz:=fun p hp=>by rw[d5D]at hsz;exact d4W (hsz p hp)
 have hle:len*sz<=16777216:=d5X hsmall;have key:∀z:Array Value,Instr.fill (fun i=>some (i*sz,sz)) ((Array.range (len*sz)).map (fun i=>z[i%z.size]!)) (ps.map fun p=>(p.1,ev f p.2)).toList=some (vs.flatMap fun p=>p.2.cells.toList).toArray:=by intro z;have hf:=c1l (sz:=sz) vs [] ((Array.range (len*sz)).map (fun i=>z[i%z.size]!)).toList 0 hord (by simp) (by simp[hlen]) hall;rw[hmap];simp only[d6a,d8k]at hf;exact hf
 simp only[execOp,Instr.buildSlice,d4X,hT,hE,d4V];rw[if_neg (by omega)];by_cases h0:len*sz=0
 . have hf:=key #[];simp only[h0,if_true,d4X,d5O,d4V];rw[h0]at hf;simp only[hf,newRow,newObj,d4X,d5O,d4V,Sem.run]
 . have hf:=key zv.cells;simp only[h0,if_false,d4X,hz,d5O,d4V];simp only[hf,newRow,newObj,d4X,d5O,d4V,Sem.run]
end
def a1y:∀(c cs:List Value)(o k:Nat),o+c.length<=cs.length->(E7 cs o c)[k]?=if o<=k/\k<o+c.length then c[k-o]? else cs[k]? := by
 intro c
 induction c with
 |nil=>intro cs o k _;simp[E7];omega
 |cons v r ih =>
  intro cs o k h;simp at h;simp only[E7];grind
def b7l(newLen:Nat):∀(rounds c:Nat),c<newLen->256<=c->Builtin.growBy newLen rounds c<=2*newLen:=by
 intro rounds
 induction rounds with
 |zero=>intro c h _;simp[Builtin.growBy];omega
 |succ r ih =>
  intro c h h2;simp only[Builtin.growBy];rw[if_neg (by omega)];by_cases h3:c+(c+768) / 4<newLen
  . grind
  . cases r with
    |zero=>simp[Builtin.growBy];omega
    |succ r=>simp only[Builtin.growBy];grind
def nextslicecap_le{need cap:Nat}(h:cap<need):Builtin.nextslicecap need cap<=2*need:=by
 unfold Builtin.nextslicecap;split
 . omega
 . split
   . omega
   . exact b7l _ _ _ h (by omega)
def Acc{α:Type}(r:e7 α)(M:List Nat)(w:World)(v:Value)(l:List α)(bs:List Nat):Prop:=
 (v=.slice none 0 0/\l=[]/\bs=[]) ∨
 ∃b cap C T,v=.slice (some ⟨b,0,none⟩) l.length cap/\bs=[b]/\Q5 w b T C/\C.length=cap*r.sz/\l.length<=cap/\b ∉ M /\
  ∀i (h:i<l.length),∃c,c.length=r.sz/\(∀j,j<r.sz->C[i*r.sz+j]?=c[j]?)/\r.rd (b::M) w c l[i]
section
variable{α:Type}{r:e7 α}{M M' B bs:List Nat}{w w':World}{v:Value}{l:List α}
def Acc.nil:Acc r M w (.slice none 0 0) [] []:=.inl ⟨rfl,rfl,rfl⟩
def Acc.val(h:Acc r M w v l bs):∃A cap,v=.slice A l.length cap:=by
 rcases h with⟨rfl,rfl,rfl⟩|⟨b,cap,C,T,rfl,_⟩
 all_goals simp_all
def Acc.ext(h:Acc r M w v l bs)(e:Ext B w w')(hB:∀b∈B,b∈M∨w.heap.size<=b):Acc r M w' v l bs:=by
 rcases h with h|⟨b,cap,C,T,hv,hb,ho,hC,hl,hM,hc⟩
 . exact .inl h
 . have hlt:=ho.lt;refine .inr ⟨b,cap,C,T,hv,hb,ho.ext e (fun hm=>by grind),hC,hl,hM,fun i hi=>?_⟩;obtain⟨c,h1,h2,h3⟩:=hc i hi;exact⟨c,h1,h2,r.mono h3 e (fun x hx=>by grind) (fun x hx=>.inl hx)⟩
def Acc.a3O(h:Acc r M w v l bs)(hM:∀b∈M',b∈M∨w.heap.size<=b):Acc r M' w v l bs:=by
 rcases h with h|⟨b,cap,C,T,hv,hb,ho,hC,hl,hn,hc⟩
 . exact .inl h
 . have hlt:=ho.lt;refine .inr ⟨b,cap,C,T,hv,hb,ho,hC,hl,fun hm=>(by grind),fun i hi=>?_⟩;obtain⟨c,h1,h2,h3⟩:=hc i hi;exact⟨c,h1,h2,r.mono h3 (Ext.refl [] w) (by simp) (fun x hx=>by grind)⟩
def Acc.rd(h:Acc r M w v l bs)(hl:l.length<=9223372036854775807):(b9l r).rd M w [v] l:=by
 rcases h with⟨rfl,rfl,rfl⟩|⟨b,cap,C,T,rfl,rfl,ho,hC,hcap,hb,hc⟩
 . exact b4i
 . refine⟨hl,_,_,rfl,(fun h=>by cases h),fun i hi=>?_⟩;obtain⟨c,h1,h2,h3⟩:=hc i hi;exact⟨b,0,c,rfl,hb,⟨_,_,_,ho,fun j hj=>by simp_all⟩,r.mono h3 (Ext.refl [] w) (by simp) (fun x hx=>.inl (by simp[hx]))⟩
end
def O4{cs:List (List Value)}{sz:Nat}(h:∀c∈cs,c.length=sz):∀i j,j<sz->cs.flatten[i*sz+j]?=(cs[i]?).bind (·[j]?):=by
 induction cs with
 |nil=>simp_all
 |cons c cs ih =>
  intro i j hj;have hc:c.length=sz:=h c (by simp);cases i with
  |zero=>grind
  |succ i =>
   rw[List.flatten_cons,d5d (by grind),hc];rw[show(i+1)*sz+j-sz=i*sz+j by grind];simp_all
def K9{cs:List (List Value)}{sz:Nat}(h:∀c∈cs,c.length=sz):cs.flatten.length=cs.length*sz:=by
 induction cs with
 |nil=>simp
 |cons c cs ih=>grind
def a2f{β:Type}{p:Nat->β->Prop}:∀n,(∀i,i<n->∃b,p i b)->∃bs:List β,bs.length=n/\∀i (hi:i<bs.length),p i bs[i]:=by
 intro n
 induction n with
 |zero=>simp_all
 |succ n ih =>
  intro h;obtain⟨bs,h1,h2⟩:=ih (fun i hi=>h i (by omega));obtain⟨b,hb⟩:=h n (by omega);refine⟨bs++[b],by simp[h1],fun i hi=>?_⟩;grind
section
variable{P:Program}{α:Type}{r:e7 α}{M bs:List Nat}{w:World}{v:Value}{l:List α}{T E:TypeId}{info:TypeInfo}{zv:Value}
def a3o{b o:Nat}{cs:List Value}(hc:Cells w b o cs):(loadCells ⟨b,o,none⟩ cs.length).run P w=.ok cs.toArray w:=by have h:=Q6 (P:=P) hc cs.length 0 #[] (by omega);simpa[loadCells]using h
def a8M(z:Array Value)(n:Nat):(Builtin.zeroCells z n).size=n*z.size:=by simp[Builtin.zeroCells]
variable{n:Nat}{ops:List Oper}{Q:Exit->Fr->World->Prop}{rest:List Oper}{f:Fr}{d:Nat}{ty:TypeId}{pos:String}{after:Array Edge}{x y:Operand}
end
structure Key(κ:Type) where
 enc:κ->Value
 kind:TypeDesc
 same:∀a,Instr.sameNow kind (enc a) (enc a)=some true
 diff:∀a b,a≠b->Instr.sameNow kind (enc a) (enc b)=some false
 check:∀(P:Program)(T:TypeId)(emp:Bool)(a:κ)(w:World),(∀w,(underlying T).run P w=.ok kind w)->(Instr.checkKey emp 10000 T (enc a)).run P w=.ok () w
 bits:∀a,Instr.sameBits 10000 (enc a) (enc a)=true
section
section
variable{κ:Type}
def pairs(es:List MapEntry):List (Value×Value):=es.map fun e=>(e.key,e.val)
structure Good(ky:Key κ)(es:List MapEntry)(clk:Nat)(L:List (κ×Value)):Prop where
 same:pairs es=L.map fun p=>(ky.enc p.1,p.2)
 keys:(L.map (·.1)).Nodup
 d4O:(es.map (·.born)).Nodup
 d4P:∀e∈es,e.born<clk
def a9A(ky:Key κ)(w:World)(b:Nat)(L:List (κ×Value)):Prop:=∃es clk,w.heap[b]?=some (.map es clk)/\Good ky es.toList clk L
def a9A.lt{ky:Key κ}{w:World}{b:Nat}{L:List (κ×Value)}(h:a9A ky w b L):b<w.heap.size:=let⟨_,_,h,_⟩:=h;T5 h
def a9A.ext{ky:Key κ}{w w':World}{b:Nat}{L:List (κ×Value)}{B:List Nat}(h:a9A ky w b L)(e:Ext B w w')(hb:b ∉ B):a9A ky w' b L:=
 let⟨es,clk,h,g⟩:=h;⟨es,clk,e.get hb h,g⟩
end
end
def Ext.setObj(w:World)(r:Nat)(o:Obj):Ext [r] w { w with heap:=w.heap.setIfInBounds r o }:=
 ⟨rfl,rfl,rfl,by simp,fun b hb hn=>by grind⟩
def a8a{w:World}{r:Nat}{o o':Obj}(h:w.heap[r]?=some o):({ w with heap:=w.heap.setIfInBounds r o' }:World).heap[r]?=some o':=by grind
def a3U{P:Program}{w:World}{r:Nat}{o:Obj}(h:w.heap[r]?=some o)(hc:∀a b c,o≠.cells a b c):(getObj r).run P w=.ok o w:=by unfold getObj;cases o <;> first|(simp only[Sem.run,h];done)|simp_all
def a7H{P:Program}{w:World}{r:Nat}{o o':Obj}(h:w.heap[r]?=some o)(hc:∀a b c,o≠.cells a b c):(setObj r o').run P w=.ok () { w with heap:=w.heap.setIfInBounds r o' }:=by unfold setObj;cases o <;> first|(simp only[Sem.run,h];done)|simp_all
section
variable{κ:Type}{ky:Key κ}
variable{P:Program}{m:Bool}{n:Nat}{ops:List Oper}{Q:Exit->Fr->World->Prop}{rest:List Oper}{f:Fr}{w:World}{d b:Nat}{v zv:Value}{L:List (κ×Value)}{k:κ}
variable{ty T Kt E:TypeId}{pos:String}{after:Array Edge}{x y z:Operand}
def Iter(ky:Key κ)(w:World)(it b:Nat)(L D:List (κ×Value)):Prop:=∃es clk,∃De:List MapEntry,w.heap[b]?=some (.map es clk)/\Good ky es.toList clk L/\w.heap[it]?=some (.mapIter (some b) clk (De.map (·.born)).toArray clk) /\
 (∀e∈De,e∈es.toList)/\(De.map (·.born)).Nodup/\pairs De=D.map fun p=>(ky.enc p.1,p.2)
def Iter.ext{w w':World}{it:Nat}{D:List (κ×Value)}{B:List Nat}(h:Iter ky w it b L D)(e:Ext B w w')(hb:b ∉ B)(hi:it ∉ B):Iter ky w' it b L D:=
 let⟨es,clk,De,h1,g,h2,r⟩:=h;⟨es,clk,De,e.get hb h1,g,e.get hi h2,r⟩
def Iter.map{w:World}{it:Nat}{D:List (κ×Value)}(h:Iter ky w it b L D):a9A ky w b L:=let⟨es,clk,_,h1,g,_⟩:=h;⟨es,clk,h1,g⟩
def Iter.lt{w:World}{it:Nat}{D:List (κ×Value)}(h:Iter ky w it b L D):it<w.heap.size:=let⟨_,_,_,_,_,h2,_⟩:=h;T5 h2
end
def Live(f:Fr):List (Nat×Value)->Prop
 |[]=>True
 |(d,v)::r=>f d=v/\Live f r
def a5i(g:Fr):List (Nat×Value)->Fr
 |[]=>g
 |(d,v)::r=>D5 (a5i g r) d v
def Live.eq{f:Fr}:∀{L:List (Nat×Value)},Live f L->a5i f L=f:=by
 intro L
 induction L with
 |nil=>intro _;rfl
 |cons p r ih =>
  obtain⟨d,v⟩:=p;rintro⟨h1,h2⟩;simp only[a5i,ih h2];funext t;rw[W8];simp_all
def Ext.own{b:Nat}{w0 w w':World}(E:Ext [] w0 w)(e:Ext [b] w w')(hb:w0.heap.size<=b):Ext [] w0 w':=E.trans e (by simp) (fun x hx=>by simp_all)
def nF{p:Bool}(h:p=false):Value.bool (!p)=.bool true:=by rw[h];rfl
def a6H(pl:List (Nat×Nat))(cs:List Value):List (Nat×Value)->List Value
 |[]=>cs
 |(i,v)::r=>a6H pl (E7 cs (pl.getD i (0,0)).1 v.cells.toList) r
def a5f(pl:List (Nat×Nat))(n:Nat):List (Nat×Value)->Bool
 |[]=>true
 |(i,v)::r=>Nat.blt i pl.length && Nat.beq v.cells.size (pl.getD i (0,0)).2 && Nat.ble ((pl.getD i (0,0)).1+v.cells.size) n && a5f pl n r
def b33{pl:Array (Nat×Nat)}:∀(ps:List (Nat×Value)) (cs:Array Value),a5f pl.toList cs.size ps=true->Instr.fill (pl[·]?) cs ps=some (a6H pl.toList cs.toList ps).toArray:=by
 intro ps
 induction ps with
 |nil=>intro cs _;simp[Instr.fill,a6H]
 |cons p r ih =>
  obtain⟨i,v⟩:=p;intro cs h;simp only[a5f,d4U]at h;obtain⟨⟨⟨h1,h2⟩,h3⟩,h4⟩:=h;have hi:i<pl.size:=by have:=G4 h1;simpa using this
  have hp:pl[i]?=some pl[i]:=by simp[hi]
  have hd:pl.toList.getD i (0,0)=pl[i]:=by simp[d5Z,hi]
  rw[hd]at h2 h3;have h2':=d4W h2;have h3':=d5X h3;simp only[Instr.fill,hp];rw[if_neg (by simp_all)];have hf:(v.cells.zipIdx.foldl (fun cs (c,j)=>cs.setIfInBounds (pl[i].1+j) c) cs)=(E7 cs.toList pl[i].1 v.cells.toList).toArray:=by apply d7t;rw[<- Array.foldl_toList,Array.toList_zipIdx];have:=a9h (cs:=#[]) v.cells.toList 0 pl[i].1 cs;rw[this];simp
  rw[hf,ih _ (by simpa[L5]using h4)];simp only[a6H,hd]
section
variable{P:Program}{m:Bool}{n:Nat}{ops:List Oper}{Q:Exit->Fr->World->Prop}{rest:List Oper}{f:Fr}{w:World}{d:Nat}{zv:Value}{T ty:TypeId}{pos:String}{after:Array Edge}{fs:Array Field}
def c3o{ps:Array (Nat×Operand)}{pl:Array (Nat×Nat)}{cs:List Value}(hT:∀w,(underlying T).run P w=.ok (.struct fs) w)(hz:∀w,(zeroValue T).run P w=.ok zv w)
  (hpl:∀w,(fs.mapM fun(fd:Field)=>do pure (fd.offset,<- sizeOf fd.type)).run P w=.ok pl w) (hok:a5f pl.toList zv.cells.size (ps.toList.map fun p=>(p.1,ev f p.2))=true) (hcs:a6H pl.toList zv.cells.toList (ps.toList.map fun p=>(p.1,ev f p.2))=cs) (hn:Nat.blt d n=true)
  (K:WL P m n ops Q rest (D5 f d (.agg cs.toArray)) w):WL P m n ops Q (⟨some d,.build T ps,ty,pos,after,none⟩::rest) f w:=
 o9 rfl rfl hn (v:=.agg cs.toArray) (fun w1 _=>by
  subst hcs;have hmap:(ps.map fun p=>(p.1,ev f p.2)).toList=ps.toList.map fun p=>(p.1,ev f p.2):=by simp
  have hf:=b33 _ _ hok;simp only[execOp,Instr.build,d4X,hz,hT,d4V];simp_all) K
end
section
variable{P:Program}{n:Nat}{l:List Oper}{Q:Exit->Fr->World->Prop}{f0:Fr}
def b5C{ro:Option Nat}{ds:List Deferred}{i:Nat}{o:Oper}(ho:l[i]?=some o){g:Fr}{w w1:World}{a:Act}{S:Fr->World->Prop}{K:Act->World->Prop}{QQ:Exit->Act->World->Prop}(ha:Is a g n)(hds:a.defers=ds)(hs:F8 w w1)
  (h:WL P false n l (fun e g' w'=>e=.normal/\S g' w') [o] g w) (k:∀g' w' a' w2,S g' w'->Is a' g' n->a'.defers=ds->F8 w' w2->K a' w2):wpOpIn (P6 ro) 0 P l.toArray QQ i K a w1:=by
 unfold wpOpIn;simp only[d6m,ho];have h:=h a w1 ha hs ro;rw[hds]at h;unfold wpListIn at h;have kk:∀a' w2,lift n ds (fun e g' w'=>e=.normal/\S g' w') .normal a' w2->K a' w2:=by rintro a' w2 ⟨g',w',hg,hd,hv,_,q⟩;exact k g' w' a' w2 q hg hd hv
 have no:∀e a' w2,lift n ds (fun e g' w'=>e=.normal/\S g' w') e a' w2->e=.normal:=by rintro e a' w2 ⟨g',w',hg,hd,hv,q,_⟩;exact q
 split
 . rename_i hw;rw[if_pos hw]at h;unfold Oper.wpIn at h ⊢;refine⟨h.1,?_⟩;have h:=h.2;generalize (o.semAt (P6 ro).round a.eval).run P w1=r at h ⊢;unfold Oper.uponIn at h ⊢;split at h
   . exact kk _ _ h
   . exact kk _ _ h
   . exact kk _ _ h
   . refine⟨h.1,CallsIn.mono h.2 ?_⟩;intro e w2 q;cases e with
     |returned v=>exact kk _ _ q
     |panicked c=>grind
     |outgrown=>obtain⟨a',w3,q⟩:=q;grind
   . exact⟨h.1,RowsIn.mono h.2 fun v w2 q=>kk _ _ q⟩
   . refine⟨h.1,RoundIn.mono h.2 ?_⟩;intro e w2 q;cases e with
     |returned v=>exact kk _ _ q
     |panicked c=>grind
     |outgrown=>obtain⟨a',w3,q⟩:=q;grind
   all_goals grind
 . rename_i hw;rw[if_neg hw]at h;exact⟨fun _ _=>trivial,kk _ _ h.2⟩
def a09(ms:List Nat)(i t:Nat):List Oper->Nat->Bool
 |[],_=>true
 |o::r,j=>(match o.dst with|some d=>!Nat.beq d t || Nat.beq j i || (ms.getD j 0).testBit i|none=>true) && a09 ms i t r (j+1)
def b3b{ms:List Nat}{i t:Nat}:∀{r:List Oper}{k:Nat},(∀x,r[x]?=l[k+x]?)->a09 ms i t r k=true->∀j,k<=j->q8 l j=some t->j=i∨(ms.getD j 0).testBit i=true:=by
 intro r
 induction r with
 |nil =>
  intro k hr _ j hkj hj;obtain⟨o,ho,_⟩:=a10 hj;have:=hr (j-k);simp_all
 |cons o r ih =>
  intro k hr h j hkj hj;unfold a09 at h;rw[d4U]at h;by_cases e:j=k
  . subst e;have h0:=hr 0;simp at h0;have:o.dst=some t:=by rw[<- O9 h0.symm];exact hj
    simp_all
  . exact ih (k:=k+1) (fun x=>by have:=hr (x+1);grind) h.2 j (by omega) hj
def a8g:List Oper->List Nat->Bool
 |[],_=>true
 |o::r,seen=>match o.dst with|some d=>!seen.elem d && a8g r (d::seen)|none=>a8g r seen
def b7j:∀{l:List Oper}{seen:List Nat},a8g l seen=true->(∀(j t:Nat),q8 l j=some t->t ∉ seen)/\(∀(i j t:Nat),q8 l i=some t->q8 l j=some t->i=j):=by
 intro l
 induction l with
 |nil=>intro seen _;exact⟨fun j t h=>by simp[q8]at h,fun i j t h=>by simp[q8]at h⟩
 |cons o r ih =>
  intro seen h;unfold a8g at h;cases hd:o.dst with
  |none =>
   rw[hd]at h;have⟨h1,h2⟩:=ih h;refine⟨fun j t hj=>?_,fun i j t hi hj=>?_⟩
   . cases j with
     |zero=>simp[q8,hd]at hj
     |succ j=>exact h1 j t hj
   . cases i with
     |zero=>simp[q8,hd]at hi
     |succ i=>cases j with
      |zero=>simp[q8,hd]at hj
      |succ j=>rw[h2 i j t hi hj]
  |some d =>
   rw[hd]at h;simp only[d4U]at h;have hns:d ∉ seen:=by have:=h.1;simp at this;exact this
   have⟨h1,h2⟩:=ih h.2;refine⟨fun j t hj=>?_,fun i j t hi hj=>?_⟩
   . cases j with
     |zero=>simp[q8,hd]at hj;simp_all
     |succ j=>have:=h1 j t hj;simp_all
   . cases i with
     |zero =>
      cases j with
      |zero=>rfl
      |succ j=>simp[q8,hd]at hi;subst hi;have:=h1 j _ hj;simp at this
     |succ i=>cases j with
      |zero=>simp[q8,hd]at hj;subst hj;have:=h1 i _ hi;simp at this
      |succ j=>rw[h2 i j t hi hj]
def a99(S:List Nat)(n:Nat):List Oper->Bool
 |[]=>true
 |o::r=>(match o.dst with|some d=>S.elem d && Nat.blt d n|none=>true) && a99 S n r
def b8x{S:List Nat}:∀{l:List Oper},a99 S n l=true->∀j t,q8 l j=some t->S.elem t=true/\t<n:=by
 intro l
 induction l with
 |nil=>intro _ j t h;simp[q8]at h
 |cons o r ih =>
  intro h j t hj;unfold a99 at h;rw[d4U]at h;cases j with
  |zero =>
   have hj:o.dst=some t:=hj;simp_all
  |succ j=>exact ih h.2 j t hj
def c1f:List (Value->World->Prop)->Nat->Value->World->Prop
 |[],_,_,_=>True
 |p::_,0,v,w=>p v w
 |_::r,j+1,v,w=>c1f r j v w
inductive W9:List (Value->World->Prop)->Prop
 |nil:W9 []
 |cons {p:Value->World->Prop} {r:List (Value->World->Prop)}:(∀v w w',p v w->Ext [] w w'->p v w')->W9 r->W9 (p::r)
def W9.get{ps:List (Value->World->Prop)}(h:W9 ps):∀j v w w',c1f ps j v w->Ext [] w w'->c1f ps j v w':=by
 induction h with
 |nil=>intro j v w w' h _;trivial
 |cons h _ ih=>intro j v w w' hp e;cases j with
  |zero=>exact h v w w' hp e
  |succ j=>exact ih j v w w' hp e
def c8p(P:Program)(n:Nat)(l:List Oper)(ms:List Nat)(ps:List (Value->World->Prop))(f0:Fr)(w0:World)(i:Nat)(o:Oper):Prop:=
 ∀g w,Ext [] w0 w->(∀j t,(ms.getD i 0).testBit j=true->q8 l j=some t->c1f ps j (g t) w)->(∀t,a09 ms i t l 0=true->g t=f0 t) ->
  WL P false n l (fun e g' w'=>e=.normal/\∃v,g'=R7 g o.dst v/\Ext [] w w'/\c1f ps i v w') [o] g w
inductive a6y(P:Program)(n:Nat)(l:List Oper)(ms:List Nat)(ps:List (Value->World->Prop))(f0:Fr)(w0:World):Nat->List Oper->Prop
 |nil {i:Nat}:a6y P n l ms ps f0 w0 i []
 |cons {i:Nat} {o:Oper} {r:List Oper}:c8p P n l ms ps f0 w0 i o->a6y P n l ms ps f0 w0 (i+1) r->a6y P n l ms ps f0 w0 i (o::r)
def a6y.get{ms:List Nat}{ps:List (Value->World->Prop)}{w0:World}{k:Nat}{r:List Oper}(h:a6y P n l ms ps f0 w0 k r):∀x o,r[x]?=some o->c8p P n l ms ps f0 w0 (k+x) o:=by
 induction h with
 |nil=>simp_all
 | @cons i o r h _ ih=>grind
end
open Go.ChangeShapes Go.RowKit Go.WideShapes
def c9y{α:Type}(P:Program)(t:TypeId)(r:e7 α):Prop:=
 ∀{H:Type}{enc:TypeId×Value->H}{fuel:Nat}{w:World}{sp:Nat->Bool}{cs:List Value}{x:DataW H×List MemPlace},DataW.trod enc P w 0 sp true fuel t cs=some x->∃y,r.rd [] w cs y
section
variable{P:Program}{t e:TypeId}
def c8D{n:Int}(h:(Lit.int .i64 n).wf=true):InI n:=by simp[Lit.wf,IntKind.min,IntKind.max,IntKind.signed,IntKind.bits]at h;exact⟨by omega,by omega⟩
def b7d(ht:P.underlying t=some .string):c9y P t d3i:=fun h=>by
 obtain⟨s,rfl,hx,hs⟩:=DataW.trod_string ht h;refine⟨s.data.toList,?_,?_⟩
 . show _=_
   unfold sv;cases s;rfl
 . have:s.data.toList.length<=maxLen:=hs;simp only[maxLen]at this;omega
def b2H{w:World}{a:Addr}{n:Nat}{cs:List Value}(hn:0<n)(h:w.cells? 0 a n=some cs):a.spot=none/\cs.length=n/\Cells w a.block a.off cs:=by
 unfold World.cells? at h;rw[if_pos (d6B _)]at h;have hlen:cs.length=n:=by simpa using mapM_some_length h
 have hget:∀i,i<n->w.cell? (a.add i)=cs[i]? := fun i hi=>mapM_some_get h i i (by simp[hi]);have h0:=hget 0 hn;rw[d5i (by omega)]at h0;have hspot:a.spot=none:=by simpa[Addr.add]using World.cell?_spot h0
 refine⟨hspot,hlen,?_⟩;obtain⟨b,o,s⟩:=a;simp only at hspot;subst hspot;simp only[Addr.add,if_true]at h0;unfold World.cell? at h0;cases hh:w.heap[b]? with
 |none=>simp_all
 |some ob =>
  cases ob with
  |cells C T z =>
   refine⟨C,T,z,hh,fun j hj=>?_⟩;have:=hget j (by omega);unfold World.cell? Addr.add at this;grind
  |_=>simp[hh]at h0
def c2p{w:World}{R:Reach}{b0:Nat}{v:Value}{k:IntKind}(ht:P.underlying t=some (.int k))(h:Value.okWide P w R b0 t v):v.cells.toList=[v]:=by obtain⟨n,rfl⟩:=okWide_int ht h;simp[Value.cells]
end
def a3r{P:Program}{H:Type}{enc:TypeId×Value->H}{W W':World}{sp:Nat->Bool}(hl:laidOutB P=true):∀{ts:List TypeId}{vs:List Value}{ds:List (DataW H)}{ps:List MemPlace},(∀t∈ts,P.readableRec t=true/\t<P.types.size) ->
  DataW.TrodAll enc P W 0 (fun _=>true) true ts vs ds ps->(∀p∈ps,W.sameAt W' p)->(∀p∈ps,sp p.block=true)->DataW.TrodAll enc P W' 0 sp true ts vs ds ps
 |[],[],[],_,_,h,_,_=>h
 |t::ts,v::vs,d::ds,ps,ht,⟨p,q,h1,h2,e⟩,hs,hsp=>⟨p,q,WideElems.Trod_stays hl (ht t (by simp)).1 (ht t (by simp)).2 h1 (fun x hx=>hs x (by simp_all)) (fun x hx=>hsp x (by simp_all)),
   a3r hl (fun u hu=>ht u (by simp[hu])) h2 (fun x hx=>hs x (by simp_all)) (fun x hx=>hsp x (by simp_all)),e⟩
def b51{W W':World}(e:Ext [] W W'){b o:Nat}(hb:b<W.heap.size):W'.frozen? ⟨b,o,none⟩=W.frozen? ⟨b,o,none⟩:=by unfold World.frozen?;rw[e.block b hb (by simp)]
def c1g{P:Program}{f:Func}{s:ChangeSpec}{tb:TypeId}{H:Type}{enc:TypeId×Value->H}{apart fresh handsOn again:Bool}{W W' W2:World}{args:Array Value}{ds gs:List (DataW H)}{before:List MemPlace}
  (hl:laidOutB P=true) (hr:∀t∈f.params.toList,P.readableRec t=true/\t<P.types.size) (hrt:f.resultTypes=#[tb]) (htb:P.underlying tb=some .bool) (hvs:s.vars=[])
  (hfn:s.fn H (ds++gs)={ results:=[.lit (.bool true)],args:=ds }) (hW:DataW.Whole enc P f.params.toList s.vars apart W args.toList ds gs before) (e:Ext [] W W') (hs:F8 W' W2) :
  s.post enc P f apart fresh handsOn again W args (.bool true) W2:=by
 have e2:Ext [] W W2:=e.sim hs;have hlt:=hW.lt;have hold:∀p∈before,(fun b=>decide (b<W.heap.size)) p.block=true:=fun p hp=>by simp_all
 obtain⟨pa,pv,hA,hV,hps,hz,hn⟩:=hW;have hV':=hV;rw[hvs]at hV';obtain⟨hg,hpv⟩:=trodVars_none hV';subst hg;subst hpv;rw[d5C]at hps;subst hps;have hsame:∀p∈before,W.sameAt W2 p:=fun p hp=>by
  cases p with
  |cell b off =>
   show W2.cell? _=W.cell? _
   unfold World.cell?;rw[e2.block b (hlt _ hp) (by simp)]
  |map b=>exact e2.block b (hlt _ hp) (by simp)
 have hargs:∀sp:Nat->Bool,(∀p∈before,sp p.block=true)->DataW.TrodAll enc P W2 0 sp true f.params.toList args.toList ds before:=fun sp hsp=>a3r hl hr hA hsame hsp;have hres:∀(b:Nat)(sp:Nat->Bool)(hd:Bool),DataW.TrodAll enc P W2 b sp hd f.resultTypes.toList ((Value.bool true).resultList f.resultTypes.size) [.lit (.bool true)] []:=fun b sp hd=>by rw[hrt];exact trodAll_mk1 (shut_bool htb _)
 have hvars:∀sp:Nat->Bool,DataW.TrodVars enc P W2 sp s.vars [] []:=fun sp=>by rw[hvs];rfl
 have hok:∀(j:Nat)(t:TypeId)(r:Value),f.resultTypes[j]?=some t->((Value.bool true).resultList f.resultTypes.size)[j]?=some r->Value.okWide P W2 .any 0 t r:=ok_one hrt rfl (okWide_bool_mk htb _);refine⟨ds,[],before,[],before,[],⟨before,[],hA,hV,by simp,hz,hn⟩,by grind,by simp_all,by simp_all,e2.below.frame _,fun _=>?_⟩;refine⟨hok,_,_,([]++before)++[],⟨[]++before,[],trodAll_append (hargs _ (fun _ _=>rfl)) (hres _ _ _),hvars _,rfl,?_,?_⟩,?_⟩
 . intro b off hp;have hp':MemPlace.cell b off∈before:=by simpa using hp
   rw[b51 e2 (show b<W.heap.size from hlt _ hp')];exact hz b off hp'
 all_goals simp_all
def b8j{P:Program}{K:FuncId}{f:Func}{s:ChangeSpec}{tb:TypeId}{H:Type}{enc:TypeId×Value->H}{apart fresh handsOn again:Bool}{W:World}{args:Array Value}{ds gs:List (DataW H)}{before:List MemPlace}
  (hl:laidOutB P=true) (hr:∀t∈f.params.toList,P.readableRec t=true/\t<P.types.size) (hrt:f.resultTypes=#[tb]) (htb:P.underlying tb=some .bool) (hvs:s.vars=[])
  (hfn:s.fn H (ds++gs)={ results:=[.lit (.bool true)],args:=ds }) (hW:DataW.Whole enc P f.params.toList s.vars apart W args.toList ds gs before)
  (h:G2 P K args.toList W fun v w'=>v=.bool true/\Ext [] W w') :
  Calls P K args W fun e W'=>∃v,e=.returned v/\s.post enc P f apart fresh handsOn again W args v W':=by
 have hc:=h W (F8.refl W);simp only[d8k]at hc;refine d6d hc ?_;rintro e W2 ⟨_,w',rfl,hs,rfl,hx⟩;exact⟨_,rfl,c1g hl hr hrt htb hvs hfn hW hx hs⟩
def a2L(s:z6):(⟨s.toArray⟩:ByteArray).toList=s:=by simp_all
def a0p(s:z6):(⟨s.toArray⟩:ByteArray).size=s.length:=by simp[ByteArray.size]
def b7y(s t:z6):(⟨s.toArray⟩:ByteArray)++⟨t.toArray⟩=⟨(s++t).toArray⟩:=by apply d8e;simp
section
variable{P:Program}{m:Bool}{n:Nat}{ops:List Oper}{Q:Exit->Fr->World->Prop}{rest:List Oper}{f:Fr}{w:World}{d:Nat}{T T' ty:TypeId}{pos:String}{after:Array Edge}{x y:Operand}{s t:z6}
def c6F(hx:ev f x=sv s)(hy:ev f y=sv t)(hn:Nat.blt d n=true) (K:WL P m n ops Q rest (D5 f d (.bool (decide (s=t)))) w) :
  WL P m n ops Q (⟨some d,.binOp .eql T x y T',ty,pos,after,none⟩::rest) f w:=
 o9 rfl rfl hn (v:=.bool (decide (s=t))) (fun _ _=>by simp only[sv]at hx hy;simp[execOp,hx,hy,eqGuard,binOp,go_sem,Op.stringOp,a2L];grind) K
def c76(hx:ev f x=sv s)(hy:ev f y=sv t)(hn:Nat.blt d n=true) (K:WL P m n ops Q rest (D5 f d (.bool (decide (s≠t)))) w) :
  WL P m n ops Q (⟨some d,.binOp .neq T x y T',ty,pos,after,none⟩::rest) f w:=
 o9 rfl rfl hn (v:=.bool (decide (s≠t))) (fun _ _=>by simp only[sv]at hx hy;simp[execOp,hx,hy,eqGuard,binOp,go_sem,Op.stringOp,a2L];grind) K
def c6D(hx:ev f x=sv s)(hy:ev f y=sv t)(hn:Nat.blt d n=true) (K:WL P m n ops Q rest (D5 f d (.bool (decide (Op.bytesLess s t=true)))) w) :
  WL P m n ops Q (⟨some d,.binOp .lss T x y T',ty,pos,after,none⟩::rest) f w:=
 o9 rfl rfl hn (v:=.bool (decide (Op.bytesLess s t=true))) (fun _ _=>by simp only[sv]at hx hy;simp[execOp,hx,hy,eqGuard,binOp,go_sem,Op.stringOp,a2L]) K
def c78(hx:ev f x=sv s)(hy:ev f y=sv t)(hn:Nat.blt d n=true) (K:WL P m n ops Q rest (D5 f d (.bool (decide (¬(Op.bytesLess s t=true∨s=t))))) w) :
  WL P m n ops Q (⟨some d,.binOp .gtr T x y T',ty,pos,after,none⟩::rest) f w:=
 o9 rfl rfl hn (v:=.bool (decide (¬(Op.bytesLess s t=true∨s=t)))) (fun _ _=>by simp only[sv]at hx hy;simp[execOp,hx,hy,eqGuard,binOp,go_sem,Op.stringOp,a2L];grind) K
def c7Z(hx:ev f x=sv s)(hy:ev f y=sv t)(hl:s.length+t.length<=9223372036854775807)(hn:Nat.blt d n=true)(K:WL P m n ops Q rest (D5 f d (sv (s++t))) w) :
  WL P m n ops Q (⟨some d,.binOp .add T x y T',ty,pos,after,none⟩::rest) f w:=
 o9 rfl rfl hn (v:=sv (s++t)) (fun _ _=>by
  simp only[sv]at hx hy ⊢;have h1:¬(((⟨s.toArray⟩:ByteArray).size+(⟨t.toArray⟩:ByteArray).size:Nat):Int) > IntKind.i64.max:=by
   rw[a0p,a0p];have:IntKind.i64.max=9223372036854775807:=by decide
   omega
  simp only[execOp,hx,hy,binOp,Op.stringOp,if_neg h1,b7y];simp[eqGuard,go_sem]) K
end
section
variable{P:Program}{n:Nat}{ops:List Oper}{Q:Exit->Fr->World->Prop}{rest:List Oper}{f:Fr}{w:World}{d:Nat}{T T' ty A:TypeId}{pos:String}{after:Array Edge}{x y:Operand}{t t':TypeId}{u v zv:Value}{k:IntKind}{a b:Int}{m:Bool}{info:TypeInfo}{ms want:Array (String×TypeId)}
def a2F{X:TypeDesc}(hT:∀w,(underlying T).run P w=.ok X w)(hX:(match X with|.interface _=>false|_=>true)=true)(hv:ev f x=v)(hn:Nat.blt d n=true)(K:WL P m n ops Q rest (D5 f d (.iface T v)) w) :
  WL P m n ops Q (⟨some d,.makeInterface T x,ty,pos,after,none⟩::rest) f w:=
 o9 rfl rfl hn (v:=.iface T v) (fun w1 _=>by subst hv;simp only[execOp,Instr.makeInterface,d4X,hT,d4V];cases X <;> first|rfl|(simp at hX)) K
def b1P(hT:∀w,(underlying T).run P w=.ok (.interface ms) w)(w:World):(Op.equal T .nilIface .nilIface).run P w=.ok true w:=by
 have h:∀d,(Op.equalIn (d+1) T .nilIface .nilIface).run P w=.ok true w:=fun d=>by unfold Op.equalIn;rw[d4X,hT,d4V];rfl
 exact h 9999
def V1(hT:∀w,(underlying T).run P w=.ok (.interface ms) w)(w:World):(Op.equal T (.iface t v) .nilIface).run P w=.ok false w:=by
 have h:∀d,(Op.equalIn (d+1) T (.iface t v) .nilIface).run P w=.ok false w:=fun d=>by unfold Op.equalIn;rw[d4X,hT,d4V];rfl
 exact h 9999
def c1b(hT:∀w,(underlying T).run P w=.ok (.interface ms) w)(w:World):(Op.equal T .nilIface (.iface t v)).run P w=.ok false w:=by
 have h:∀d,(Op.equalIn (d+1) T .nilIface (.iface t v)).run P w=.ok false w:=fun d=>by unfold Op.equalIn;rw[d4X,hT,d4V];rfl
 exact h 9999
def c4a(hT:∀w,(underlying T).run P w=.ok (.interface ms) w)(hI:∀w,(typeInfo t).run P w=.ok info w)(hc:info.comparable=true)(hU:∀w,(underlying t).run P w=.ok (.int k) w)(w:World) :
  (Op.equal T (.iface t (.int k a)) (.iface t (.int k b))).run P w=.ok (decide (a=b)) w:=by
 have h:∀d,(Op.equalIn (d+2) T (.iface t (.int k a)) (.iface t (.int k b))).run P w=.ok (decide (a=b)) w:=fun d=>by unfold Op.equalIn;rw[d4X,hT,d4V];simp only[ne_eq,not_true_eq_false,if_false,d4X,hI,d4V,hc,Bool.not_true,d5Y];unfold Op.equalIn;rw[d4X,hU,d4V];simp only[if_true,d5O];congr 1
 exact h 9998
end
end Go.Wk
namespace Go.Wl
open Go Go.Wk
structure Rd(α:Type) where
 sz:Nat
 rd:(Nat->Prop)->World->List Value->α->Prop
 len:∀{D w cs x},rd D w cs x->cs.length=sz
 mono:∀{D D' B w w' cs x},rd D w cs x->Ext B w w'->(∀b∈B,D b->w.heap.size<=b)->(∀b,D b->b<w.heap.size->D' b)->rd D' w' cs x
 plain:∀{D w cs x},rd D w cs x->cs.all D7=true
section
variable{α β:Type}{D D':Nat->Prop}{B:List Nat}{w w':World}{cs:List Value}
def Rd.ext(r:Rd α){x:α}(h:r.rd D w cs x)(e:Ext [] w w'):r.rd D w' cs x:=r.mono h e (fun _ hb=>by cases hb) (fun _ h _=>h)
def Rd.a3O(r:Rd α){x:α}(h:r.rd D w cs x)(hD:∀b,D b->b<w.heap.size->D' b):r.rd D' w cs x:=r.mono h (Ext.refl [] w) (fun _ hb=>by cases hb) hD
end
def E8:Rd Int where
 sz:=1
 rd:=fun _ _ cs x=>cs=[.int .i64 x]/\InI x
 len:=fun h=>by rw[h.1];rfl
 mono:=fun h _ _ _=>h
 plain:=fun h=>by rw[h.1];rfl
def a2B:Rd Bool where
 sz:=1
 rd:=fun _ _ cs x=>cs=[.bool x]
 len:=fun h=>by rw[h];rfl
 mono:=fun h _ _ _=>h
 plain:=fun h=>by rw[h];rfl
def bv(c:UInt8):Value:=.int .u8 c.toNat
def U7:Rd UInt8 where
 sz:=1
 rd:=fun _ _ cs x=>cs=[bv x]
 len:=fun h=>by rw[h];rfl
 mono:=fun h _ _ _=>h
 plain:=fun h=>by rw[h];rfl
def a0b:Rd z6 where
 sz:=1
 rd:=fun _ _ cs s=>cs=[sv s]/\s.length<=9223372036854775807
 len:=fun h=>by rw[h.1];rfl
 mono:=fun h _ _ _=>h
 plain:=fun h=>by rw[h.1];rfl
def p7{α:Type}(r:Rd α):Rd (List α) where
 sz:=1
 rd:=fun D w cs l=>l.length<=9223372036854775807/\∃A cap,cs=[.slice A l.length cap]/\((A=none->cap=0)/\l.length<=cap)/\∀i (h:i<l.length),∃b o c,A=some ⟨b,o,none⟩/\D b/\Cells w b (o+i*r.sz) c/\r.rd D w c l[i]
 len:=fun⟨_,A,cap,e,_⟩=>by rw[e];rfl
 mono:=fun⟨hl,A,cap,e,h0,h⟩ hx hB hD=>⟨hl,A,cap,e,h0,fun i hi=>by obtain⟨b,o,c,e1,hb,hc,hr⟩:=h i hi;have hlt:=hc.lt;exact⟨b,o,c,e1,hD b hb hlt,hc.ext hx (fun hm=>by grind),r.mono hr hx hB hD⟩⟩
 plain:=fun⟨_,A,cap,e,_⟩=>by rw[e];rfl
def Sub{α β:Type}(r:Rd α)(o:Nat)(s:Rd β)(g:α->β):Prop:=o+s.sz<=r.sz/\∀{D w cs x},r.rd D w cs x->s.rd D w ((cs.drop o).take s.sz) (g x)
def Sub.self{α:Type}(r:Rd α):Sub r 0 r (fun x=>x):=⟨by omega,fun h=>by have:=r.len h;grind⟩
section
variable{α:Type}{r:Rd α}{D:Nat->Prop}{w:World}
def a7x{v:Value}{l:List α}(h:(p7 r).rd D w [v] l):l.length<=9223372036854775807:=h.1
def a0e{v:Value}{l:List α}(h:(p7 r).rd D w [v] l):∃A cap,v=.slice A l.length cap:=by obtain⟨_,A,cap,e,_⟩:=h;simp_all
def a1w:(p7 r).rd D w [.slice none 0 0] []:=⟨by simp,none,0,rfl,⟨fun _=>rfl,by simp⟩,fun i hi=>by simp at hi⟩
def a2H{A:Option Addr}{cap:Nat}{l:List α}(h:(p7 r).rd D w [.slice A l.length cap] l){i:Nat}(hi:i<l.length):∃b o c,A=some ⟨b,o,none⟩/\D b/\Cells w b (o+i*r.sz) c/\r.rd D w c l[i]:=by obtain⟨_,A',cap',e,_,h⟩:=h;simp_all
end
def ix{α:Type}[Inhabited α](l:List α)(i:Int):α:=l.getD i.toNat default
def s8{α:Type}[Inhabited α]{l:List α}{i:Int}(h:i.toNat<l.length):ix l i=l[i.toNat]:=by simp[ix,d5Z,h]
def eA:Option Addr->Nat->Addr
 |some ⟨b,o,_⟩,k=>⟨b,o+k,none⟩
 |none,k=>⟨0,k,none⟩
def c6K(A:Option Addr)(k j:Nat):(eA A k).add j=eA A (k+j):=by
 unfold Addr.add;split
 . simp_all
 . cases A with
   |none=>simp[eA]
   |some a=>obtain⟨b,o,s⟩:=a;simp[eA,d7E]
structure It where
 F:List Nat
 O:List Nat
 P:(Nat->Prop)->World->Prop
def It.W9(t:It):Prop:=∀(Z Z':Nat->Prop)(B:List Nat)(w w':World),t.P Z w->Ext B w w'->(∀b∈B,(b∈t.F∨Z b)->w.heap.size<=b)->(∀b,Z b->Z' b)->t.P Z' w'
structure It.Ok(B0:List Nat)(w0:World)(Z:Nat->Prop)(w:World)(t:It):Prop where
 holds:t.P Z w
 I3:t.W9
 lt:∀b∈t.F,b<w.heap.size
 O2:∀b∈t.F,¬Z b
 org:∀b∈t.F,b∈t.O∨w0.heap.size<=b
 a5L:∀b∈t.O,b∈B0
structure Sep(B0:List Nat)(w0:World)(Z:Nat->Prop)(w:World)(l:List It):Prop where
 ext:Ext B0 w0 w
 zlt:∀b,Z b->b<w.heap.size
 ok:∀(k:Nat)(t:It),l[k]?=some t->t.Ok B0 w0 Z w
 apart:∀(j k:Nat)(s t:It),l[j]?=some s->l[k]?=some t->j≠k->∀b∈s.F,b ∉ t.F
section
variable{B0:List Nat}{w0 w w':World}{Z Z':Nat->Prop}{l:List It}{t t' s s':It}{k j:Nat}
def Sep.nil(zlt:∀b,Z b->b<w0.heap.size):Sep B0 w0 Z w0 []:=⟨Ext.refl _ _,zlt,fun k t h=>by simp at h,fun j k s t h=>by simp at h⟩
def Sep.at(hs:Sep B0 w0 Z w l)(k:Nat)(hk:l[k]?=some t):t.P Z w:=(hs.ok k t hk).holds
def Sep.nz(hs:Sep B0 w0 Z w l)(k:Nat)(hk:l[k]?=some t):∀b∈t.F,¬Z b:=(hs.ok k t hk).O2
def Sep.lt(hs:Sep B0 w0 Z w l)(k:Nat)(hk:l[k]?=some t):∀b∈t.F,b<w.heap.size:=(hs.ok k t hk).lt
def Sep.org(hs:Sep B0 w0 Z w l)(k:Nat)(hk:l[k]?=some t):∀b∈t.F,b∈t.O∨w0.heap.size<=b:=(hs.ok k t hk).org
def Sep.ap(hs:Sep B0 w0 Z w l)(j k:Nat)(hj:l[j]?=some s)(hk:l[k]?=some t)(h:Nat.beq j k=false):∀b∈s.F,b ∉ t.F:=hs.apart j k s t hj hk (fun e=>by simp_all)
def Sep.d2A(hs:Sep B0 w0 Z w0 l)(h:t.P Z w0)(st:t.W9)(hlt:∀b∈t.F,b<w0.heap.size)(hZ:∀b∈t.F,¬Z b)(hO:t.O=t.F)(hB:∀b∈t.F,b∈B0)(ha:∀(k:Nat)(s:It),l[k]?=some s->∀b∈t.F,b ∉ s.F):Sep B0 w0 Z w0 (t::l):=
 ⟨hs.ext,hs.zlt,fun k s hk=>by
  cases k with
  |zero=>simp at hk;subst hk;exact⟨h,st,hlt,hZ,fun b hb=>.inl (by simp_all),fun b hb=>hB b (by simp_all)⟩
  |succ k=>exact hs.ok k s (by simp_all),fun j k s u hj hk hne=>by
  cases j with
  |zero =>
   grind
  |succ j =>
   cases k with
   |zero=>grind
   |succ k=>exact hs.apart j k s u (by simp_all) (by simp_all) (by omega)⟩
def Sep.d3X(hs:Sep B0 w0 Z w l)(k:Nat)(hk:l[k]?=some t)(e:Ext t.F w w')(h:t'.P Z' w')(st:t'.W9)(hF:∀b∈t'.F,(b∈t.F∨w.heap.size<=b)/\b<w'.heap.size/\¬Z' b)(hZ:∀b,Z b->Z' b)(hZ':∀b,Z' b->Z b∨(w.heap.size<=b/\b<w'.heap.size))(hO:t'.O=t.O) :
  Sep B0 w0 Z' w' (l.set k t'):=by
 have ok:=hs.ok k t hk;have hsz:=hs.ext.size;have hkl:k<l.length:=by
  rcases d5B k l.length with h|h
  . exact h
  . simp_all
 have old:∀(j:Nat)(s:It),l[j]?=some s->∀b∈s.F,b<w.heap.size:=fun j s hj=>(hs.ok j s hj).lt;refine⟨hs.ext.trans e (fun x hx=>.inl hx) (fun x hx=>?_),fun b hb=>?_,fun j s hj=>?_,fun i j s u hi hj hne=>?_⟩
 . rcases ok.org x hx with h|h
   . exact .inl (ok.a5L x h)
   omega
 . rcases hZ' b hb with h|h
   . have:=hs.zlt b h;have:=e.size;omega
   . exact h.2
 . by_cases hjk:j=k
   . subst hjk;rw[d5J hkl]at hj;cases hj;refine⟨h,st,fun b hb=>(hF b hb).2.1,fun b hb=>(hF b hb).2.2,fun b hb=>?_,fun b hb=>ok.a5L b (by simp_all)⟩;rw[hO];rcases(hF b hb).1 with h|h
     . exact ok.org b h
     omega
   . rw[d5W (d6l hjk)]at hj;have o:=hs.ok j s hj;refine⟨o.I3 Z Z' t.F w w' o.holds e (fun b hb hb'=>?_) hZ,o.I3,fun b hb=>by have:=o.lt b hb;have:=e.size;omega,fun b hb hz=>?_,o.org,o.a5L⟩
     . rcases hb' with h|h
       . exact absurd h (hs.apart k j t s hk hj (d6l hjk) b hb)
       . exact absurd h (ok.O2 b hb)
     . rcases hZ' b hz with h|h
       . exact o.O2 b hb h
       grind
 . by_cases hik:i=k
   . subst hik;rw[d5J hkl]at hi;cases hi;rw[d5W hne]at hj;intro b hb hb';rcases(hF b hb).1 with h|h
     . exact hs.apart i j t u hk hj hne b h hb'
     grind
   . rw[d5W (d6l hik)]at hi;by_cases hjk:j=k
     . subst hjk;rw[d5J hkl]at hj;cases hj;intro b hb hb';rcases(hF b hb').1 with h|h
       . exact hs.apart i j s t hi hk hne b hb h
       grind
     . rw[d5W (d6l hjk)]at hj;exact hs.apart i j s u hi hj hne
def Sep.D5(hs:Sep B0 w0 Z w l)(k:Nat)(hk:l[k]?=some t)(e:Ext t.F w w')(h:t'.P Z w')(st:t'.W9)(hF:∀b∈t'.F,(b∈t.F∨w.heap.size<=b)/\b<w'.heap.size)(hO:t'.O=t.O):Sep B0 w0 Z w' (l.set k t'):=
 hs.d3X k hk e h st (fun b hb=>⟨(hF b hb).1,(hF b hb).2,fun hz=>by
  rcases(hF b hb).1 with h|h
  . exact(hs.ok k t hk).O2 b h hz
  . have:=hs.zlt b hz;omega⟩) (fun _ h=>h) (fun _ h=>.inl h) hO
def Sep.d2b(hs:Sep B0 w0 Z w l)(e:Ext [] w w')(hZ:∀b,Z b->Z' b)(hZ':∀b,Z' b->Z b∨(w.heap.size<=b/\b<w'.heap.size)):Sep B0 w0 Z' w' l:=
 ⟨hs.ext.trans e (fun x hx=>.inl hx) (fun x hx=>by cases hx),fun b hb=>by
  rcases hZ' b hb with h|h
  . have:=hs.zlt b h;have:=e.size;omega
  . exact h.2,fun j s hj=>by
  have o:=hs.ok j s hj;refine⟨o.I3 Z Z' [] w w' o.holds e (fun b hb=>by cases hb) hZ,o.I3,fun b hb=>by have:=o.lt b hb;have:=e.size;omega,fun b hb hz=>?_,o.org,o.a5L⟩;rcases hZ' b hz with h|h
  . exact o.O2 b hb h
  . have:=o.lt b hb;omega,hs.apart⟩
def Sep.step(hs:Sep B0 w0 Z w l)(e:Ext [] w w'):Sep B0 w0 Z w' l:=hs.d2b e (fun _ h=>h) (fun _ h=>.inl h)
def Sep.add(hs:Sep B0 w0 Z w l)(e:Ext [] w w')(h:t.P Z w')(st:t.W9)(hF:∀b∈t.F,w.heap.size<=b/\b<w'.heap.size)(hO:t.O=[]):Sep B0 w0 Z w' (t::l):=by
 have h1:=hs.step e;have hsz:=hs.ext.size;refine⟨h1.ext,h1.zlt,fun k s hk=>?_,fun j k s u hj hk hne=>?_⟩
 . cases k with
   |zero =>
    simp at hk;subst hk;exact⟨h,st,fun b hb=>(hF b hb).2,fun b hb hz=>by have:=hs.zlt b hz;grind,fun b hb=>.inr (by grind),fun b hb=>(by simp_all)⟩
   |succ k=>exact h1.ok k s (by simp_all)
 . cases j with
   |zero =>
    cases k with
    |zero=>omega
    |succ k =>
     simp at hj hk;subst hj;intro b hb hb';have:=(hs.ok k u hk).lt b hb';grind
   |succ j =>
    cases k with
    |zero =>
     simp at hj hk;subst hk;intro b hb hb';have:=(hs.ok j s hj).lt b hb;grind
    |succ k=>exact hs.apart j k s u (by simp_all) (by simp_all) (by omega)
def Sep.fact(hs:Sep B0 w0 Z w l)(h:t.P Z w)(st:t.W9)(hF:t.F=[])(hO:t.O=[]):Sep B0 w0 Z w (t::l):=
 hs.add (Ext.refl [] w) h st (fun b hb=>by simp_all) hO
def Sep.drop(hs:Sep B0 w0 Z w (t::l)):Sep B0 w0 Z w l:=
 ⟨hs.ext,hs.zlt,fun k s hk=>hs.ok (k+1) s (by simp_all),fun j k s u hj hk hne=>hs.apart (j+1) (k+1) s u (by simp_all) (by simp_all) (by omega)⟩
def Sep.pick(hs:Sep B0 w0 Z w l)(ks:List Nat)(hn:(ks.all fun k=>Nat.blt k l.length)=true)(hu:ks.Nodup){l':List It}(e:ks.map (fun k=>l.getD k ⟨[],[],fun _ _=>True⟩)=l'):Sep B0 w0 Z w l':=by
 subst e;have get:∀(j:Nat)(t:It),(ks.map (fun k=>l.getD k ⟨[],[],fun _ _=>True⟩))[j]?=some t->∃k,ks[j]?=some k/\l[k]?=some t:=by
  intro j t h;rw[d6F]at h;cases hk:ks[j]? with
  |none=>simp_all
  |some k =>
   rw[hk]at h;simp only[d7u,d4T]at h;have hlt:k<l.length:=by rw[d5D]at hn;exact G4 (hn k (d5c hk))
   simp_all
 refine⟨hs.ext,hs.zlt,fun j t h=>?_,fun i j s t hi hj hne=>?_⟩
 . obtain⟨k,_,h⟩:=get j t h;exact hs.ok k t h
 . obtain⟨k1,a1,b1⟩:=get i s hi;obtain⟨k2,a2,b2⟩:=get j t hj;refine hs.apart k1 k2 s t b1 b2 fun e=>hne ?_;subst e;have hi':i<ks.length:=by rcases d5B i ks.length with h|h;exact h;rw[d6V h]at a1;cases a1
   have hj':j<ks.length:=by rcases d5B j ks.length with h|h;exact h;rw[d6V h]at a2;cases a2
   rw[d5i hi']at a1;rw[d5i hj']at a2;exact(List.getElem_inj hu).1 ((d6g a1).trans (d6g a2).symm)
def Sep.freeze(hs:Sep B0 w0 Z w l)(k:Nat)(hk:l[k]?=some t)(h:t'.P (fun b=>Z b∨b∈t.F) w)(st:t'.W9)(hF:t'.F=[])(hO:t'.O=[]):Sep B0 w0 (fun b=>Z b∨b∈t.F) w (l.set k t'):=by
 have hkl:k<l.length:=by
  rcases d5B k l.length with h|h
  . exact h
  . simp_all
 refine⟨hs.ext,fun b hb=>?_,fun j s hj=>?_,fun i j s u hi hj hne=>?_⟩
 . rcases hb with h|h
   . exact hs.zlt b h
   . exact(hs.ok k t hk).lt b h
 . by_cases hjk:j=k
   . subst hjk;rw[d5J hkl]at hj;cases hj;exact⟨h,st,fun b hb=>(by simp_all),fun b hb=>(by simp_all),fun b hb=>(by simp_all),fun b hb=>(by simp_all)⟩
   . rw[d5W (d6l hjk)]at hj;have o:=hs.ok j s hj;refine⟨o.I3 Z _ [] w w o.holds (Ext.refl _ _) (fun b hb=>(by cases hb)) (fun b hb=>.inl hb),o.I3,o.lt,fun b hb hz=>?_,o.org,o.a5L⟩;rcases hz with h|h
     . exact o.O2 b hb h
     . exact hs.apart j k s t hj hk hjk b hb h
 . by_cases hik:i=k
   . simp_all
   . rw[d5W (d6l hik)]at hi;by_cases hjk:j=k
     . simp_all
     . rw[d5W (d6l hjk)]at hj;exact hs.apart i j s u hi hj hne
end
def V2(w:World)(b:Nat)(T:TypeId)(cs:List Value):Prop:=∃z:Nat×Nat,(z=(0,0)∨cs.length<=z.1)/\w.heap[b]?=some (.cells cs.toArray T z)
section
variable{w w':World}{b:Nat}{T:TypeId}{cs:List Value}{B:List Nat}
def _root_.Go.Wk.Q5.z(h:Q5 w b T cs):V2 w b T cs:=⟨(0,0),.inl rfl,h⟩
def V2.lt(h:V2 w b T cs):b<w.heap.size:=by obtain⟨z,_,h⟩:=h;exact T5 h
def V2.ext(h:V2 w b T cs)(e:Ext B w w')(hb:b ∉ B):V2 w' b T cs:=by obtain⟨z,hz,h⟩:=h;exact⟨z,hz,e.get hb h⟩
def V2.sim(h:V2 w b T cs)(e:F8 w w'):V2 w' b T cs:=by obtain⟨k,rfl⟩:=e;exact h
def V2.a6i(h:V2 w b T cs){o:Nat}{c:List Value}(hc:∀j,j<c.length->cs[o+j]?=c[j]?):Cells w b o c:=by obtain⟨z,_,h⟩:=h;exact⟨_,_,_,h,fun j hj=>by simpa using hc j hj⟩
def V2.setCell(h:V2 w b T cs)(o:Nat)(v:Value) :
  V2 (w.setCell ⟨b,o,none⟩ v) b T (cs.set o v)/\Ext [b] w (w.setCell ⟨b,o,none⟩ v)/\(w.setCell ⟨b,o,none⟩ v).heap.size=w.heap.size:=by
 obtain⟨z,hz,h⟩:=h;refine⟨⟨z,by simpa using hz,?_⟩,⟨rfl,rfl,rfl,by simp[World.setCell],fun k hk hb=>?_⟩,by simp[World.setCell]⟩
 . simp[World.setCell,d6n,h]
 . simp[World.setCell,d6n];intro e;subst e;simp at hb
def a6O{P:Program}{o:Nat}{v:Value}(h:V2 w b T cs)(ho:o<cs.length)(hv:D7 v=true) :
  (store ⟨b,o,none⟩ v).run P w=.ok () (w.setCell ⟨b,o,none⟩ v):=by
 obtain⟨z,hz,h⟩:=h;have hc:w.cell? ⟨b,o,none⟩=some cs[o]:=by simp[World.cell?,h,ho]
 have hf:w.frozen? ⟨b,o,none⟩=false:=by
  rcases hz with rfl|hz
  . simp[World.frozen?,h]
  . simp[World.frozen?,h];omega
 unfold store;cases v <;> first|(simp[D7]at hv;done)|simp[Sem.run,hc,hf]
def X1{P:Program}:∀(c:List Value)(o i:Nat)(cs:List Value)(w:World),V2 w b T cs->o+i+c.length<=cs.length->(∀v∈c,D7 v=true) ->
  ∃w',(storeCells ⟨b,o,none⟩ c i).run P w=.ok () w'/\V2 w' b T (E7 cs (o+i) c)/\Ext [b] w w'/\w'.heap.size=w.heap.size/\(∀k,(storeCells ⟨b,o,none⟩ c i).run P { w with drawn:=k }=.ok () { w' with drawn:=k }):=by
 intro c
 induction c with
 |nil=>intro o i cs w h _ _;exact⟨w,rfl,h,Ext.refl _ _,rfl,fun _=>rfl⟩
 |cons v r ih =>
  intro o i cs w h hl hv;have e:(Addr.add ⟨b,o,none⟩ i)=⟨b,o+i,none⟩:=by
   unfold Addr.add;split
   . rename_i h;rw[h];rfl
   . rfl
  simp at hl;obtain⟨h1,h2,h3⟩:=h.setCell (o+i) v;have hrun:=a6O (P:=P) h (o:=o+i) (v:=v) (by omega) (hv v (by simp));obtain⟨w',hr,ho,he,hs,hk⟩:=ih o (i+1) _ _ h1 (by simp;omega) (fun u hu=>hv u (by simp[hu]));refine⟨w',?_,by simpa[E7,d7E]using ho,h2.trB he,by rw[hs,h3],fun k=>?_⟩
  . simp only[storeCells,e,d4X,hrun,d4V,hr]
  . have hrun':=a6O (P:=P) (w:={ w with drawn:=k }) h (o:=o+i) (v:=v) (by omega) (hv v (by simp));simp only[storeCells,e,d4X,hrun',d4V];exact hk k
end
section
variable{P:Program}{n:Nat}{ops:List Oper}{Q:Exit->Fr->World->Prop}{rest:List Oper}{f:Fr}{w:World}{ty T E:TypeId}{pos:String}{after:Array Edge}{x y:Operand}
def c1x{b o mm:Nat}{cs c:List Value}(hz:∀w,(sizeOf T).run P w=.ok mm w)(hx:ev f x=.pointer (some ⟨b,o,none⟩))(hc:(ev f y).cells.toList=c)(hm:c.length=mm)(ho:V2 w b E cs)(hl:o+mm<=cs.length)(hp:c.all D7=true)
  (K:∀w',Ext [b] w w'->w'.heap.size=w.heap.size->V2 w' b E (E7 cs o c)->WL P false n ops Q rest f w') :
  WL P false n ops Q (⟨none,.store T x y,ty,pos,after,none⟩::rest) f w:=
 b06 rfl rfl fun w1 hs=>by
  obtain⟨k,rfl⟩:=hs;obtain⟨w',hr,ho',he,hsz,hk⟩:=X1 (P:=P) c o 0 cs w ho (by omega) (fun v hv=>by rw[d5D]at hp;exact hp v hv);refine⟨_,w',?_,⟨k,rfl⟩,K w' he hsz (by simpa using ho')⟩;have hsize:(ev f y).cells.size=mm:=by rw[<- d7r,hc,hm]
  have hrun:(storeVar T ⟨b,o,none⟩ (ev f y)).run P { w with drawn:=k }=.ok () { w' with drawn:=k }:=by unfold storeVar;simp only[d4X,hz,d4V];rw[if_neg (by simp only[hsize,ne_eq,not_true_eq_false,d8F]),hc];exact hk k
  simp only[execOp,hx,Instr.storeAt,Instr.sureAddr,d4X,d5O,d4V,hrun]
end
def Ac{α:Type}(r:Rd α)(Z:Nat->Prop)(w:World)(v:Value)(l:List α)(bs:List Nat):Prop:=
 (v=.slice none 0 0/\l=[]/\bs=[]) ∨
 ∃b cap C T,v=.slice (some ⟨b,0,none⟩) l.length cap/\bs=[b]/\V2 w b T C/\C.length=cap*r.sz/\l.length<=cap /\
  ∀i (h:i<l.length),∃c,c.length=r.sz/\(∀j,j<r.sz->C[i*r.sz+j]?=c[j]?)/\r.rd Z w c l[i]
def Src{α:Type}(r:Rd α)(Z:Nat->Prop)(w:World)(v:Value)(xs:List α):Prop:=
 ∃A cap,v=.slice A xs.length cap/\∃cs:List (List Value),cs.length=xs.length/\(∀i (h:i<xs.length) (h':i<cs.length),r.rd Z w cs[i] xs[i])/\(xs=[]∨∃b o,A=some ⟨b,o,none⟩/\Cells w b o cs.flatten)
section
variable{α:Type}{r:Rd α}{Z Z':Nat->Prop}{B bs:List Nat}{w w':World}{v:Value}{l:List α}
def Ac.nil:Ac r Z w (.slice none 0 0) [] []:=.inl ⟨rfl,rfl,rfl⟩
def Ac.val(h:Ac r Z w v l bs):∃A cap,v=.slice A l.length cap:=by
 rcases h with⟨rfl,rfl,rfl⟩|⟨b,cap,C,T,rfl,_⟩
 all_goals simp_all
def Ac.lt(h:Ac r Z w v l bs):∀b∈bs,b<w.heap.size:=by
 rcases h with⟨rfl,rfl,rfl⟩|⟨b,cap,C,T,rfl,rfl,ho,_⟩
 . simp
 . intro x hx;simp at hx;subst hx;exact ho.lt
def Ac.I3(h:Ac r Z w v l bs)(e:Ext B w w')(hB:∀b∈B,(b∈bs∨Z b)->w.heap.size<=b)(hZ:∀b,Z b->Z' b):Ac r Z' w' v l bs:=by
 rcases h with h|⟨b,cap,C,T,hv,hb,ho,hC,hl,hc⟩
 . exact .inl h
 . have hlt:=ho.lt;refine .inr ⟨b,cap,C,T,hv,hb,ho.ext e (fun hm=>by grind),hC,hl,fun i hi=>?_⟩;obtain⟨c,h1,h2,h3⟩:=hc i hi;exact⟨c,h1,h2,r.mono h3 e (fun x hx hz=>hB x hx (.inr hz)) (fun x hx _=>hZ x hx)⟩
def Ac.rd(h:Ac r Z w v l bs)(hl:l.length<=9223372036854775807):(p7 r).rd (fun b=>Z b∨b∈bs) w [v] l:=by
 rcases h with⟨rfl,rfl,rfl⟩|⟨b,cap,C,T,rfl,rfl,ho,hC,hcap,hc⟩
 . exact a1w
 . refine⟨hl,_,_,rfl,⟨(fun h=>by cases h),hcap⟩,fun i hi=>?_⟩;obtain⟨c,h1,h2,h3⟩:=hc i hi;exact⟨b,0,c,rfl,.inr (by simp),ho.a6i fun j hj=>by simp_all,r.a3O h3 (fun x hx _=>.inl hx)⟩
end
section
variable{α:Type}{r:Rd α}{Z:Nat->Prop}{w:World}{v:Value}{xs:List α}
def Src.data(h:(p7 r).rd Z w [v] xs):Src r Z w v xs:=by
 obtain⟨A,cap,rfl⟩:=a0e h;refine⟨A,cap,rfl,?_⟩;by_cases hne:xs=[]
 . simp_all
 . have hpos:0<xs.length:=d7H.2 hne;obtain⟨b,o,c0,hA,_,_,_⟩:=a2H h hpos;have h':∀i,i<xs.length->∃c,Cells w b (o+i*r.sz) c/\∃hi:i<xs.length,r.rd Z w c xs[i]:=fun i hi=>by
    obtain⟨b',o',c,hA',_,hc,hr⟩:=a2H h hi;grind
   obtain⟨cs,hcl,hcs⟩:=a2f xs.length h';have hsz:∀c∈cs,c.length=r.sz:=fun c hc=>by obtain⟨i,hi,rfl⟩:=d5w hc;obtain⟨_,_,hr⟩:=hcs i hi;exact r.len hr
   refine⟨cs,hcl,fun i hi hi'=>?_,.inr ⟨b,o,hA,?_⟩⟩
   . simp_all
   . obtain⟨⟨C,T,z,hh,_⟩,_⟩:=hcs 0 (by omega);refine⟨C,T,z,hh,fun j hj=>?_⟩;rw[K9 hsz]at hj;have hsz0:0<r.sz:=by rcases d8x r.sz with h|h;rw[h]at hj;simp at hj;exact h
     have hjq:j / r.sz<cs.length:=d7n (by grind);have hjr:j%r.sz<r.sz:=d8l _ hsz0;have hjd:j / r.sz*r.sz+j%r.sz=j:=by rw[d7q];exact d7K j r.sz
     obtain⟨⟨C',T',z',hh',hc'⟩,_,hr⟩:=hcs (j / r.sz) hjq;rw[hh]at hh';cases hh';have e1:=hc' (j%r.sz) (by simp_all);have e2:=O4 hsz (j / r.sz) (j%r.sz) hjr;grind
def Ac.rows{bs:List Nat}{b cap:Nat}{C:List Value}{T:TypeId}(ho:V2 w b T C)(hc:∀i (h:i<xs.length),∃c,c.length=r.sz/\(∀j,j<r.sz->C[i*r.sz+j]?=c[j]?)/\r.rd Z w c xs[i]) :
  ∃cs:List (List Value),cs.length=xs.length/\(∀i (h:i<xs.length) (h':i<cs.length),r.rd Z w cs[i] xs[i])/\Cells w b 0 cs.flatten:=by
 have h':∀i,i<xs.length->∃c:List Value,c.length=r.sz/\(∀j,j<r.sz->C[i*r.sz+j]?=c[j]?)/\∃hi:i<xs.length,r.rd Z w c xs[i]:=fun i hi=>by simp_all
 obtain⟨os,hol,hos⟩:=a2f xs.length h';have hsz:∀c∈os,c.length=r.sz:=fun c hc=>by obtain⟨i,hi,rfl⟩:=d5w hc;grind
 refine⟨os,hol,fun i hi hi'=>(hos i hi').2.2.2,ho.a6i fun j hj=>?_⟩;rw[K9 hsz]at hj;have hsz0:0<r.sz:=by rcases d8x r.sz with h|h;rw[h]at hj;simp at hj;exact h
 have hjq:j / r.sz<os.length:=d7n (by grind);have hjr:j%r.sz<r.sz:=d8l _ hsz0;have hjd:j / r.sz*r.sz+j%r.sz=j:=by rw[d7q];exact d7K j r.sz
 have e1:=(hos (j / r.sz) hjq).2.1 (j%r.sz) hjr;have e2:=O4 hsz (j / r.sz) (j%r.sz) hjr;grind
def Src.ac{bs:List Nat}(h:Ac r Z w v xs bs):Src r Z w v xs:=by
 rcases h with⟨rfl,rfl,rfl⟩|⟨b,cap,C,T,rfl,rfl,ho,hC,hcap,hc⟩
 . exact⟨none,0,rfl,[],rfl,by simp,.inl rfl⟩
 . obtain⟨cs,h1,h2,h3⟩:=Ac.rows (bs:=[b]) (cap:=cap) ho hc;exact⟨_,_,rfl,cs,h1,h2,.inr ⟨b,0,rfl,h3⟩⟩
end
def O0{α:Type}(r:Rd α)(Z:Nat->Prop)(w:World):List (List Value)->List α->Prop
 |[],[]=>True
 |c::cs,x::xs=>r.rd Z w c x/\O0 r Z w cs xs
 |_,_=>False
def O0.get{α:Type}{r:Rd α}{Z:Nat->Prop}{w:World}:∀{cs:List (List Value)}{xs:List α},O0 r Z w cs xs->cs.length=xs.length/\∀i (h:i<xs.length) (h':i<cs.length),r.rd Z w cs[i] xs[i]
 |[],[],_=>⟨rfl,fun i h=>by simp at h⟩
 |c::cs,x::xs,⟨h1,h2⟩=>by obtain⟨a,b⟩:=O0.get h2;grind
def O0.rep{α:Type}{r:Rd α}{Z:Nat->Prop}{w:World}{c:List Value}{x:α}(h:r.rd Z w c x):∀n,O0 r Z w (List.replicate n c) (List.replicate n x)
 |0=>trivial
 |n+1=>⟨h,O0.rep h n⟩
def Ac.lit{α:Type}{r:Rd α}{Z:Nat->Prop}{w:World}{cs:List (List Value)}{l:List α}{b:Nat}{T:TypeId}{C:List Value}(ho:Q5 w b T C)(hC:C=cs.flatten)(h:O0 r Z w cs l):Ac r Z w (.slice (some ⟨b,0,none⟩) l.length l.length) l [b]:=by
 subst hC;obtain⟨h1,h2⟩:=h.get;have hsz:∀c∈cs,c.length=r.sz:=fun c hc=>by obtain⟨i,hi,rfl⟩:=d5w hc;exact r.len (h2 i (by omega) hi)
 refine .inr ⟨b,l.length,_,T,rfl,rfl,ho.z,by rw[K9 hsz,h1],d5m _,fun i hi=>?_⟩;have hi':i<cs.length:=by omega
 refine⟨cs[i],hsz _ (d6j _),fun j hj=>?_,h2 i hi hi'⟩;rw[O4 hsz i j hj,d5i hi'];rfl
abbrev a7K(b:Nat)(T:TypeId)(cs:List Value)(O:List Nat):It:=⟨[b],O,fun _ w=>Q5 w b T cs⟩
abbrev iAc{α:Type}(r:Rd α)(v:Value)(l:List α)(bs O:List Nat):It:=⟨bs,O,fun Z w=>Ac r Z w v l bs⟩
structure Ob(α:Type) where
 is:(Nat->Prop)->World->α->List Nat->Prop
 I3:∀{x F},It.W9 ⟨F,[],fun Z w=>is Z w x F⟩
 lt:∀{Z w x F},is Z w x F->∀b∈F,b<w.heap.size
abbrev iOb{α:Type}(o:Ob α)(x:α)(F O:List Nat):It:=⟨F,O,fun Z w=>o.is Z w x F⟩
section
variable{b it:Nat}{T:TypeId}{cs:List Value}{O bs:List Nat}{v:Value}{α κ:Type}{r:Rd α}{l:List α}{x:α}{ky:Key κ}{L D:List (κ×Value)}
def b9b:(a7K b T cs O).W9:=fun Z Z' B w w' h e hB _=>h.ext e (fun hm=>by have:=hB b hm (.inl (by simp));have:=Q5.lt h;omega)
def sAc:(iAc r v l bs O).W9:=fun Z Z' B w w' h e hB hZ=>Ac.I3 h e hB hZ
def sOb{o:Ob α}{F:List Nat}:(iOb o x F O).W9:=fun Z Z' B w w' h e hB hZ=>o.I3 Z Z' B w w' h e hB hZ
end
section
variable{P:Program}{α:Type}{r:Rd α}{Z:Nat->Prop}{bs:List Nat}{w:World}{v:Value}{l:List α}{T E:TypeId}{info:TypeInfo}{zv:Value}
def a0d{sz:Nat}{A:Option Addr}{cap k:Nat}{cs:List (List Value)}(hl:cs.length=k)(hs:∀c∈cs,c.length=sz)(h:k=0∨∃b o,A=some ⟨b,o,none⟩/\Cells w b o cs.flatten) :
  (Builtin.firstCells sz k (.slice A k cap)).run P w=.ok cs.flatten.toArray w:=by
 cases A with
 |none =>
  rcases h with h|⟨b,o,h,_⟩
  . subst h;have:cs=[]:=d6s hl;subst this;simp[Builtin.firstCells,Sem.run,pure]
  . cases h
 |some a =>
  rcases h with h|⟨b,o,h,hc⟩
  . subst h;have:cs=[]:=d6s hl;subst this;simp[Builtin.firstCells,loadCells,loadCellsFrom,Sem.run,pure]
  . cases h;have:=a3o (P:=P) hc;rw[K9 hs,hl]at this;simpa[Builtin.firstCells]using this
def b48{xs:List α}{xv:Value}(hT:∀w,(underlying T).run P w=.ok (.slice E) w)(hI:∀w,(typeInfo E).run P w=.ok info w)(hE:∀w,(sizeOf E).run P w=.ok r.sz w)(hz:∀w,(zeroValue E).run P w=.ok zv w)(hzs:zv.cells.size=r.sz)
  (ha:Ac r Z w v l bs) (hx:Src r Z w xv xs) (hnz:∀b∈bs,¬Z b) (hb:(l.length+xs.length)*info.bytes<=140737488355328) (hb1:1<=info.bytes) :
  ∀w1,F8 w w1->∃v' w2 w',(Builtin.append_ #[T,T] T #[v,xv]).run P w1=.ok v' w2/\F8 w' w2/\∃bs',Ac r Z w' v' (l++xs) bs'/\Ext bs w w'/\(∀b∈bs',b∈bs∨w.heap.size<=b):=by
 intro w1 hs;obtain⟨kk,rfl⟩:=hs;obtain⟨A,cap,rfl⟩:=ha.val;obtain⟨B,xcap,rfl,cs,hcl,hcr0,hrow⟩:=hx;have hcr:∀i (h:i<xs.length) (h':i<cs.length),r.rd Z w cs[i] xs[i]:=hcr0;have hcs:∀c∈cs,c.length=r.sz:=fun c hc=>by obtain⟨i,hi,rfl⟩:=d5w hc;exact r.len (hcr i (by omega) hi)
 have hrow':xs.length=0∨∃b o,B=some ⟨b,o,none⟩/\Cells { w with drawn:=kk } b o cs.flatten:=by
  rcases hrow with h|⟨b,o,h1,h2⟩
  . simp_all
  . exact .inr ⟨b,o,h1,h2.sim ⟨kk,rfl⟩⟩
 have hnew:(Builtin.firstCells r.sz xs.length (.slice B xs.length xcap)).run P { w with drawn:=kk }=.ok cs.flatten.toArray { w with drawn:=kk }:=a0d hcl hcs hrow';by_cases hfit:l.length+xs.length<=cap
 . -- there is room
   rcases ha with⟨hv,rfl,rfl⟩|⟨b,cap',C,T',hv,rfl,ho,hC,hcap,hc⟩
   . simp at hv;obtain⟨rfl,rfl⟩:=hv;have hx0:xs=[]:=d6s (by omega);subst hx0;refine⟨.slice none 0 0,{ w with drawn:=kk },w,?_,⟨kk,rfl⟩,[],Ac.nil,Ext.refl _ _,by simp⟩;simp only[Builtin.append_,hT,hE,Builtin.lenOf,d4X,d4V,d5O,d6m,d7e,d5F,d5Y,if_false,d8u,if_true];simp_all
   . simp at hv;obtain⟨rfl,rfl⟩:=hv;have hfl:=K9 hcs;have hpl:∀u∈cs.flatten,D7 u=true:=by
      intro u hu;obtain⟨c,hc1,hc2⟩:=List.mem_flatten.1 hu;obtain⟨i,hi,rfl⟩:=d5w hc1;have:=r.plain (hcr i (by omega) hi);rw[d5D]at this;exact this u hc2
     have hroom:l.length*r.sz+0+cs.flatten.length<=C.length:=by rw[hfl,hC,hcl,d6r,<- d6k];exact d5s _ hfit
     obtain⟨w',hr,ho',he,hsz,hk⟩:=X1 (P:=P) cs.flatten (l.length*r.sz) 0 C w ho hroom hpl;refine⟨.slice (some ⟨b,0,none⟩) (l.length+xs.length) cap,{ w' with drawn:=kk },w',?_,⟨kk,rfl⟩,[b],?_,he,by simp⟩
     . have e:(Addr.add ⟨b,0,none⟩ (l.length*r.sz))=⟨b,l.length*r.sz,none⟩:=by
         unfold Addr.add;split
         . simp_all
         . simp
       simp only[Builtin.append_,hT,hE,Builtin.lenOf,d4X,d4V,d5O,d6m,d7e,d5F,d5Y,if_false,d8u,if_true];simp_all
     . refine .inr ⟨b,cap,E7 C (l.length*r.sz+0) cs.flatten,T',by simp,rfl,ho',by rw[L5,hC],by simp_all,fun i hi=>?_⟩;have hget:=fun k=>a1y cs.flatten C (l.length*r.sz+0) k hroom;by_cases hil:i<l.length
       . obtain⟨c,h1,h2,h3⟩:=hc i hil;refine⟨c,h1,fun j hj=>?_,?_⟩
         . have hlt:i*r.sz+j<l.length*r.sz:=by
             have:(i+1)*r.sz<=l.length*r.sz:=d5s _ hil;rw[d6k]at this;omega
           grind
         . rw[d7c hil];exact r.mono h3 he (fun x hx hz=>absurd hz (hnz x hx)) (fun x hx _=>hx)
       . have hix:i-l.length<xs.length:=by simp at hi;omega
         have hic:i-l.length<cs.length:=by omega
         refine⟨cs[i-l.length],hcs _ (d6j _),fun j hj=>?_,?_⟩
         . have e1:i*r.sz+j-(l.length*r.sz+0)=(i-l.length)*r.sz+j:=by
             rw[Nat.sub_mul];have:l.length*r.sz<=i*r.sz:=d5s _ (by omega);omega
           have hlt:(i-l.length)*r.sz+j<cs.flatten.length:=by rw[hfl];have:(i-l.length+1)*r.sz<=cs.length*r.sz:=d5s _ hic;rw[d6k]at this;omega
           have hge:l.length*r.sz<=i*r.sz:=d5s _ (by omega);rw[hget,if_pos (by omega),e1,O4 hcs _ _ hj,d5i hic];rfl
         . rw[d7o (by omega)];exact r.mono (hcr _ hix hic) he (fun x hx hz=>absurd hz (hnz x hx)) (fun x hx _=>hx)
 . -- there is none
   have hneed:¬l.length+xs.length<=cap:=hfit;have hns:=Wk.nextslicecap_le (need:=l.length+xs.length) (cap:=cap) (by omega);have hns':¬(Builtin.nextslicecap (l.length+xs.length) cap*info.bytes > 2 ^ 48):=by
    have:=d5s info.bytes hns;have e:(2:Nat) ^ 48=281474976710656:=by decide
    rw[Nat.mul_assoc]at this;omega
   have hlen:l.length+xs.length<=140737488355328:=by have:=d8q (l.length+xs.length) hb1;omega
   have hold:∃os:List (List Value),os.length=l.length/\(∀c∈os,c.length=r.sz)/\(∀i (h:i<l.length) (h':i<os.length),r.rd Z w os[i] l[i])/\(Builtin.firstCells r.sz l.length (.slice A l.length cap)).run P { w with drawn:=kk+1 }=.ok os.flatten.toArray { w with drawn:=kk+1 }:=by
    rcases ha with⟨hv,rfl,rfl⟩|⟨b,cap',C,T',hv,rfl,ho,hC,hcap,hc⟩
    . simp at hv;obtain⟨rfl,rfl⟩:=hv;exact⟨[],rfl,by simp,by simp,by simp[Builtin.firstCells,Sem.run,pure]⟩
    . simp at hv;obtain⟨rfl,rfl⟩:=hv;have h':∀i,i<l.length->∃c:List Value,c.length=r.sz/\(∀j,j<r.sz->C[i*r.sz+j]?=c[j]?)/\∃hi:i<l.length,r.rd Z w c l[i]:=fun i hi=>by
       simp_all
      obtain⟨os,hol,hos⟩:=a2f l.length h';have hsz:∀c∈os,c.length=r.sz:=fun c hc=>by obtain⟨i,hi,rfl⟩:=d5w hc;grind
      refine⟨os,hol,hsz,fun i hi hi'=>(hos i hi').2.2.2,a0d hol hsz (.inr ⟨b,0,rfl,(ho.sim ⟨kk+1,rfl⟩).a6i fun j hj=>?_⟩)⟩;rw[K9 hsz]at hj;have hsz0:0<r.sz:=by rcases d8x r.sz with h|h;rw[h]at hj;simp at hj;exact h
      have hjq:j / r.sz<os.length:=d7n (by grind);have hjr:j%r.sz<r.sz:=d8l _ hsz0;have hjd:j / r.sz*r.sz+j%r.sz=j:=by rw[d7q];exact d7K j r.sz
      have e1:=(hos (j / r.sz) hjq).2.1 (j%r.sz) hjr;have e2:=O4 hsz (j / r.sz) (j%r.sz) hjr;grind
   obtain⟨os,hol,hos,hor,holdr⟩:=hold;have hnew1:(Builtin.firstCells r.sz xs.length (.slice B xs.length xcap)).run P { w with drawn:=kk+1 }=.ok cs.flatten.toArray { w with drawn:=kk+1 }:=a0d hcl hcs (by
    rcases hrow with h|⟨b,o,h1,h2⟩
    . simp_all
    . exact .inr ⟨b,o,h1,h2.sim ⟨kk+1,rfl⟩⟩)
   let nc:=(Question.appendCap (l.length+xs.length) cap E).cut (w.tape kk (Question.appendCap (l.length+xs.length) cap E))
   have hnc:l.length+xs.length<=nc:=by show _<=_+_%_;omega
   let row:=os.flatten.toArray++cs.flatten.toArray++Builtin.zeroCells zv.cells (nc-(l.length+xs.length))
   refine⟨.slice (some ⟨w.heap.size,0,none⟩) (l.length+xs.length) nc,{ w with drawn:=kk+1,heap:=w.heap.push (.cells row E) },{ w with heap:=w.heap.push (.cells row E) },?_,⟨kk+1,rfl⟩,[w.heap.size],?_,(Ext.push w _).mono (by simp),by simp⟩
   . have hch:(choose (.appendCap (l.length+xs.length) cap E)).run P { w with drawn:=kk }=.ok nc { w with drawn:=kk+1 }:=by
       simp[choose,Sem.run,Question.forced,nc]
     have hroom:∀m (w:World),(askRoom m).run P w=.ok () w:=fun m w=>by simp_all
     have hnl:¬((l.length:Int)+(xs.length:Int) > 9223372036854775807/\(false=true∨info.bytes=0)):=by omega
     simp only[Builtin.append_,hT,hE,Builtin.lenOf,d4X,d4V,d5O,d6m,d7e,d5F,d5Y,if_false,d8u,if_true];rw[if_neg hfit];simp only[d5Y,if_false,d4X,hI,d4V,false_or];rw[if_neg (by omega)];simp only[d4X,hI,d4V];rw[if_neg hns'];simp only[d4X,d5O,hch,hI,hroom,holdr,hnew1,hz,d4V,newRow,newObj,Sem.run];rfl
   . have hlo:=K9 hos;have hlc:=K9 hcs;refine .inr ⟨w.heap.size,nc,row.toList,E,by simp,rfl,Q5.z (by simp[Q5]),?_,by simp_all,fun i hi=>?_⟩
     . simp only[row,Array.toList_append,d4Y,d7r,d7Y,hlo,hlc,a8M,hzs,hol,hcl];rw[<- d6k,<- d6k];simp_all
     . have hrow:row.toList=os.flatten++(cs.flatten++(Builtin.zeroCells zv.cells (nc-(l.length+xs.length))).toList):=by simp[row]
       rw[hrow];by_cases hil:i<l.length
       . have hio:i<os.length:=by omega
         refine⟨os[i],hos _ (d6j _),fun j hj=>?_,?_⟩
         . have hlt:i*r.sz+j<os.flatten.length:=by
             rw[hlo];have:(i+1)*r.sz<=os.length*r.sz:=d5s _ hio;rw[d6k]at this;omega
           rw[d5l hlt,O4 hos _ _ hj,d5i hio];rfl
         . rw[d7c hil];exact r.mono (hor i hil hio) (Ext.push w _) (fun x hx=>by cases hx) (fun x hx _=>hx)
       . have hix:i-l.length<xs.length:=by simp at hi;omega
         have hic:i-l.length<cs.length:=by omega
         refine⟨cs[i-l.length],hcs _ (d6j _),fun j hj=>?_,?_⟩
         . have hge:l.length*r.sz<=i*r.sz:=d5s _ (by omega);have e1:i*r.sz+j-os.flatten.length=(i-l.length)*r.sz+j:=by rw[hlo,hol,Nat.sub_mul];omega
           have hlt:(i-l.length)*r.sz+j<cs.flatten.length:=by rw[hlc];have:(i-l.length+1)*r.sz<=cs.length*r.sz:=d5s _ hic;rw[d6k]at this;omega
           rw[d5d (by grind),e1,d5l hlt,O4 hcs _ _ hj,d5i hic];rfl
         . rw[d7o (by omega)];exact r.mono (hcr _ hix hic) (Ext.push w _) (fun x hx=>by cases hx) (fun x hx _=>hx)
end
def b0K(w:World)(a:Addr)(cs:List Value):Prop:=a.spot=none/\Cells w a.block a.off cs
section
variable{α β:Type}{r:Rd α}{s:Rd β}{D:Nat->Prop}{w:World}{A:Option Addr}{nn cap:Nat}{l:List α}
def b1s(h:(p7 r).rd D w [.slice A nn cap] l):l.length=nn:=by obtain⟨_,A',cap',e,_⟩:=h;simp_all
def c3X[Inhabited α]{o q sz:Nat}{i:Int}{g:α->β}(h:(p7 r).rd D w [.slice A nn cap] l)(sub:Sub r o s g)(hsz:r.sz=sz)(hq:q=i.toNat*sz+o)(h0:0<=i)(h1:i<nn) :
  ∃c,b0K w (eA A q) c/\s.rd D w c (g (ix l i)):=by
 subst hsz;subst hq;have hn:=b1s h;subst hn;have hi:i.toNat<l.length:=by omega
 obtain⟨b,o',c,rfl,_,hc,hr⟩:=a2H h hi;have hl:=r.len hr;have hs:=sub.1;refine⟨(c.drop o).take s.sz,⟨rfl,?_⟩,by rw[s8 hi];exact sub.2 hr⟩;obtain⟨C,T,z,hh,hcc⟩:=hc;refine⟨C,T,z,hh,fun j hj=>?_⟩;simp only[d5n,d6N]at hj;have:=hcc (o+j) (by omega);rw[List.getElem?_take,if_pos (by omega),List.getElem?_drop,<- this];show C[o'+(i.toNat*r.sz+o)+j]?=_
 grind
end
section
variable{P:Program}{m:Bool}{n:Nat}{ops:List Oper}{Q:Exit->Fr->World->Prop}{rest:List Oper}{f:Fr}{w w0:World}{d:Nat}{Z D:Nat->Prop}{B0:List Nat}{L:List It}
variable{ty T T' T2 E:TypeId}{pos:String}{after:Array Edge}{x y z:Operand}{k:IntKind}{v zv:Value}{i:Int}{p:Bool}
variable{α β:Type}{r:Rd α}{s:Rd β}{A:Option Addr}{nn cap q sz b:Nat}{l:List α}{cs O bs:List Nat}
def c38(h:(p7 r).rd D w [.slice A nn cap] l)(hT:∀w,(underlying T).run P w=.ok (.slice E) w)(hE:∀w,(sizeOf E).run P w=.ok sz w)(hsz:r.sz=sz)(hx:ev f x=.slice A nn cap)(hy:ev f y=.int k i)
  (h0:0<=i) (h1:i<nn) (hn:Nat.blt d n=true) (K:WL P m n ops Q rest (D5 f d (.pointer (some (eA A (i.toNat*sz))))) w) :
  WL P m n ops Q (⟨some d,.indexAddr T x y,ty,pos,after,none⟩::rest) f w:=by
 have hl:=b1s h;subst hl;obtain⟨b,o,c,rfl,_,_,_⟩:=a2H h (show i.toNat<l.length by omega);refine o9 rfl rfl hn (v:=.pointer (some ⟨b,o+i.toNat*sz,none⟩)) (fun w1 hs=>?_) K;simp only[execOp,hx,hy,d4X,a0G hT hE h0 h1];rfl
def b5T{fi:Nat}{fs:Array Field}{fd:Field}{mm:Nat}(hT:∀w,(underlying T).run P w=.ok (.struct fs) w)(hf:fs[fi]?=some fd)(hz:∀w,(sizeOf fd.type).run P w=.ok (mm+1) w)(hx:ev f x=.pointer (some (eA A q)))(hn:Nat.blt d n=true)
  (K:WL P m n ops Q rest (D5 f d (.pointer (some (eA A (q+fd.offset))))) w):WL P m n ops Q (⟨some d,.fieldAddr T x fi,ty,pos,after,none⟩::rest) f w:=
 o9 rfl rfl hn (v:=.pointer (some (eA A (q+fd.offset)))) (fun w1 hs=>by simp[execOp,hx,Instr.fieldAt,Instr.sureAddr,fieldPlace,hT,hf,hz,go_sem,c6K]) K
def b5u(hs:Sep B0 w0 Z w L)(hz:∀w,(zeroValue T).run P w=.ok zv w)(hn:Nat.blt d n=true)(K:∀b w',Sep B0 w0 Z w' (a7K b T zv.cells.toList []::L)->WL P false n ops Q rest (D5 f d (.pointer (some ⟨b,0,none⟩))) w') :
  WL P false n ops Q (⟨some d,.alloc T,ty,pos,after,none⟩::rest) f w:=
 c2u hz hn fun b w' e h1 h2 ho=>K b w' (hs.add e ho b9b (fun x hx=>by simp_all) rfl)
def c9t(hs:Sep B0 w0 Z w L)(hn:Nat.blt d n=true)(K:∀b w',Sep B0 w0 Z w' (a7K b T (ev f x).cells.toList []::L)->WL P false n ops Q rest (D5 f d (.pointer (some ⟨b,0,none⟩))) w') :
  WL P false n ops Q (⟨some d,.box T x,ty,pos,after,none⟩::rest) f w:=
 d0x hn fun b w' e h1 h2 ho=>K b w' (hs.add e ho b9b (fun x hx=>by simp_all) rfl)
def c2R{o mm:Nat}{cs c:List Value}(hs:Sep B0 w0 Z w L)(j:Nat)(hj:L[j]?=some (a7K b E cs O))(hz:∀w,(sizeOf T).run P w=.ok mm w)(hx:ev f x=.pointer (some ⟨b,o,none⟩))(hc:(ev f y).cells.toList=c)(hm:c.length=mm)(hl:o+mm<=cs.length)(hp:c.all D7=true)
  (K:∀w',Sep B0 w0 Z w' (L.set j (a7K b E (E7 cs o c) O))->WL P false n ops Q rest f w') :
  WL P false n ops Q (⟨none,.store T x y,ty,pos,after,none⟩::rest) f w:=
 c2Q hz hx hc hm (hs.at j hj) hl hp fun w' e h1 ho=>K w' (hs.D5 j hj e ho b9b (fun x hx=>⟨.inl hx,by have:=hs.lt j hj x hx;omega⟩) rfl)
def b9g{xs al:List α}{info:TypeInfo}(hs:Sep B0 w0 Z w L)(j:Nat)(hj:L[j]?=some (iAc r (ev f x) al bs O))(hx:Src r Z w (ev f y) xs)
  (hT:∀w,(underlying T).run P w=.ok (.slice E) w) (hI:∀w,(typeInfo E).run P w=.ok info w) (hE:∀w,(sizeOf E).run P w=.ok r.sz w) (hz:∀w,(zeroValue E).run P w=.ok zv w) (hzs:zv.cells.size=r.sz)
  (hb:(al.length+xs.length)*info.bytes<=140737488355328) (hb1:1<=info.bytes) (hn:Nat.blt d n=true)
  (K:∀A cap bs' w',Sep B0 w0 Z w' (L.set j (iAc r (.slice A (al++xs).length cap) (al++xs) bs' O))->WL P false n ops Q rest (D5 f d (.slice A (al++xs).length cap)) w') :
  WL P false n ops Q (⟨some d,.call ⟨.builtin .append,#[x,y],#[T,T]⟩,T,pos,after,none⟩::rest) f w:=
 a6g rfl rfl hn fun w1 hw=>by obtain⟨v',w2,w',hr,hs',bs',h1,h2,h3⟩:=b48 hT hI hE hz hzs (hs.at j hj) hx (hs.nz j hj) hb hb1 w1 hw;obtain⟨A,cap,rfl⟩:=h1.val;refine⟨_,w2,w',?_,hs',K A cap bs' w' (hs.D5 j hj h2 h1 sAc (fun b hb=>⟨h3 b hb,h1.lt b hb⟩) rfl)⟩;simp only[execOp,resolve,invoke,builtin,d4X,d5O,d4V];simp_all
def b14{len:Nat}{ps:Array (Nat×Operand)}{vs:List (Nat×Value)}{css:List (List Value)}{al:List α}(hs:Sep B0 w0 Z w L)(hT:∀w,(underlying T).run P w=.ok (.slice E) w)(hE:∀w,(sizeOf E).run P w=.ok sz w)(hz:∀w,(zeroValue E).run P w=.ok zv w)
  (hv:ps.toList.map (fun p=>(p.1,ev f p.2))=vs) (hlen:vs.length=len) (hord:a0o 0 vs=true) (hsz:vs.all (fun p=>Nat.beq p.2.cells.size sz)=true) (hcs:(vs.flatMap fun p=>p.2.cells.toList)=css.flatten) (hsmall:Nat.ble (len*sz) 16777216=true) (hal:al.length=len) (hr:O0 r Z w css al) (hn:Nat.blt d n=true)
  (K:∀b w',Sep B0 w0 Z w' (iAc r (.slice (some ⟨b,0,none⟩) len len) al [b] []::L)->WL P false n ops Q rest (D5 f d (.slice (some ⟨b,0,none⟩) len len)) w') :
  WL P false n ops Q (⟨some d,.buildSlice T len ps,ty,pos,after,none⟩::rest) f w:=
 a4m hT hE hz hv hlen hord hsz hcs hsmall hn fun b w' e h1 h2 ho=>by
  have all:∀{cs:List (List Value)}{xs:List α},O0 r Z w cs xs->O0 r Z w' cs xs:=by
   intro cs
   induction cs with
   |nil=>intro xs h;cases xs <;> exact h
   |cons c cs ih=>intro xs h;cases xs with
    |nil=>exact h
    |cons x xs=>exact⟨r.ext h.1 e,ih h.2⟩
  have ha:=Ac.lit ho rfl (all hr);rw[hal]at ha;exact K b w' (hs.add e ha sAc (fun x hx=>by simp_all) rfl)
def b2d{c:List Value}{k sz:Nat}(h:c.length=sz)(hp:0<sz):(List.replicate k c).flatten=(List.range (k*sz)).map (fun i=>c.getD (i%sz) default):=by
 apply d8a;intro i;have hsz:∀x∈List.replicate k c,x.length=sz:=fun x hx=>by simp_all
 by_cases hi:i<k*sz
 . have e:=O4 hsz (i / sz) (i%sz) (d8l _ hp);rw[d7q (i / sz),d7K]at e;have hq:i / sz<k:=d7n (by grind);have hm:i%sz<c.length:=by rw[h];exact d8l _ hp
   simp_all
 simp_all
def b1O{a:Int}{info:TypeInfo}{zc:List Value}{zx:α}(hs:Sep B0 w0 Z w L)(hT:∀w,(underlying T).run P w=.ok (.slice E) w)(hI:∀w,(typeInfo E).run P w=.ok info w)(hE:∀w,(sizeOf E).run P w=.ok sz w)(hz:∀w,(zeroValue E).run P w=.ok zv w)
  (hzc:zv.cells=zc.toArray) (hsz:r.sz=sz) (hpos:0<sz) (hzr:∀Z w,r.rd Z w zc zx)
  (hx:ev f x=.int .i64 a) (hy:ev f y=.int .i64 a) (h0:0<=a) (h1:info.bytes*a<=140737488355328) (h2:a<=9223372036854775807) (hn:Nat.blt d n=true)
  (K:∀b w',Sep B0 w0 Z w' (iAc r (.slice (some ⟨b,0,none⟩) a.toNat a.toNat) (List.replicate a.toNat zx) [b] []::L)->WL P false n ops Q rest (D5 f d (.slice (some ⟨b,0,none⟩) a.toNat a.toNat)) w') :
  WL P false n ops Q (⟨some d,.makeSlice T x y,ty,pos,after,none⟩::rest) f w:=by
 have hzl:zc.length=sz:=by have:=r.len (hzr Z w);omega
 refine b6F (mk:=fun b=>.slice (some ⟨b,0,none⟩) a.toNat a.toNat) (e:=E) (cs:=(List.replicate a.toNat zc).flatten.toArray) rfl rfl hn (fun w1=>?_) (fun b w' e h1 h2 ho=>?_)
 . have hw:IntKind.i64.wrap a=a:=a0S ⟨by omega,h2⟩;have hpow:(2:Int) ^ 48=281474976710656:=by decide
   have hroom:∀m (w:World),(askRoom m).run P w=.ok () w:=fun m w=>by simp_all
   simp only[execOp,Instr.makeSlice,hx,hy,asInt,asIntOf,d4X,d5O,hT,hI,d4V,hw];rw[if_neg (by grind)];simp only[d4X,hroom,d4V,hE];by_cases hz0:a.toNat=0
   . simp only[hz0,Nat.zero_mul,if_true,d4X,d5O,d4V,newRow,newObj,Sem.run];grind
   . have hne:¬a.toNat*sz=0:=by
       intro h;rcases Nat.mul_eq_zero.1 h with h|h <;> omega
     simp only[hne,if_false,d4X,d5O,hz,d4V,newRow,newObj,Sem.run];have:(Array.range (a.toNat*sz)).map (fun i=>zv.cells[i%zv.cells.size]!)=(List.replicate a.toNat zc).flatten.toArray:=by rw[hzc,b2d hzl hpos];apply d7t;simp only[Array.toList_map,Array.toList_range,d7Y,hzl];apply List.map_congr_left;intro i _;simp[d5Z]
     rw[this]
 . have ho':Q5 w' b E (List.replicate a.toNat zc).flatten:=by simpa using ho
   have ha:=Ac.lit ho' rfl (O0.rep (hzr Z w') a.toNat);rw[d6c]at ha;exact K b w' (hs.add e ha sAc (fun x hx=>by simp_all) rfl)
def Ac.put{o:Nat}{al:List α}{c:List Value}{e:α}{w1:World}(h:Ac r Z w (.slice A nn cap) al bs)(hi:0<=i/\i<nn)(hcs:∀c0,r.rd Z w c0 (al.getD i.toNat e)->c0.length=r.sz->o+c.length<=r.sz/\r.rd Z w (E7 c0 o c) e)(hp:c.all D7=true)(hnz:∀b∈bs,¬Z b) :
  ∃b T C,A=some ⟨b,0,none⟩/\bs=[b]/\V2 w b T C/\i.toNat*r.sz+o+c.length<=C.length/\∀w',Ext [b] w w'->V2 w' b T (E7 C (i.toNat*r.sz+o) c)->Ac r Z w' (.slice A nn cap) (al.set i.toNat e) bs:=by
 rcases h with⟨h1,rfl,rfl⟩|⟨b,cap',C,T,hv,rfl,ho,hC,hle,hc⟩
 . grind
 . simp at hv;obtain⟨rfl,rfl,rfl⟩:=hv;have hil:i.toNat<al.length:=by omega
   obtain⟨c0,g1,g2,g3⟩:=hc i.toNat hil;obtain⟨k1,k2⟩:=hcs c0 (by simp_all) g1;have hroom:i.toNat*r.sz+o+c.length<=C.length:=by have:(i.toNat+1)*r.sz<=cap*r.sz:=d5s _ (by omega);rw[d6k]at this;omega
   refine⟨b,T,C,rfl,rfl,ho,hroom,fun w' e' ho'=>.inr ⟨b,cap,_,T,by simp,rfl,ho',by rw[L5,hC],by simp_all,fun j hj=>?_⟩⟩;have hget:=fun q=>a1y c C (i.toNat*r.sz+o) q hroom;by_cases hji:j=i.toNat
   . subst hji;refine⟨E7 c0 o c,by rw[L5,g1],fun q hq=>?_,?_⟩
     . rw[hget,a1y c c0 o q (by omega)];grind
     . rw[List.getElem_set_self];exact r.mono k2 e' (fun x hx hz=>absurd hz (hnz x hx)) (fun x hx _=>hx)
   . have hj':j<al.length:=by simpa using hj
     obtain⟨c1,f1,f2,f3⟩:=hc j hj';refine⟨c1,f1,fun q hq=>?_,?_⟩
     . rw[hget,if_neg]
       . exact f2 q hq
       . rintro⟨a1,a2⟩;rcases Nat.lt_or_gt_of_ne hji with h|h
         . have:(j+1)*r.sz<=i.toNat*r.sz:=d5s _ h;grind
         . have:(i.toNat+1)*r.sz<=j*r.sz:=d5s _ h;grind
     . rw[List.getElem_set_ne (d6l hji)];exact r.mono f3 e' (fun x hx hz=>absurd hz (hnz x hx)) (fun x hx _=>hx)
def b8p{o mm:Nat}{al:List α}{c:List Value}{e:α}(hs:Sep B0 w0 Z w L)(j:Nat)(hj:L[j]?=some (iAc r (.slice A nn cap) al bs O))(hz:∀w,(sizeOf T).run P w=.ok mm w)(hx:ev f x=.pointer (some (eA A q)))(hsz:r.sz=sz)(hq:q=i.toNat*sz+o)
  (hc:(ev f y).cells.toList=c) (hm:c.length=mm) (h0:0<=i) (h1:i<nn) (hcs:∀c0,r.rd Z w c0 (al.getD i.toNat e)->c0.length=r.sz->o+c.length<=r.sz/\r.rd Z w (E7 c0 o c) e) (hp:c.all D7=true)
  (K:∀w',Sep B0 w0 Z w' (L.set j (iAc r (.slice A nn cap) (al.set i.toNat e) bs O))->WL P false n ops Q rest f w') :
  WL P false n ops Q (⟨none,.store T x y,ty,pos,after,none⟩::rest) f w:=by
 subst hsz;subst hq;obtain⟨b,T1,C,rfl,rfl,ho,hroom,hk⟩:=Ac.put (w1:=w) (hs.at j hj) ⟨h0,h1⟩ hcs hp (hs.nz j hj);refine c1x hz (o:=i.toNat*r.sz+o) (by rw[hx];simp[eA]) hc hm ho (by omega) hp fun w' e' _ ho'=>K w' (hs.D5 j hj e' (hk w' e' ho') sAc (fun x hx=>⟨.inl hx,by have:=hs.lt j hj x hx;omega⟩) rfl)
def a6A{a:Addr}(hx:ev f x=.pointer (some a))(hn:Nat.blt d n=true)(K:WL P m n ops Q rest (D5 f d (.pointer (some a))) w):WL P m n ops Q (⟨some d,.nilCheck x,ty,pos,after,none⟩::rest) f w:=
 o9 rfl rfl hn (v:=.pointer (some a)) (fun _ _=>by simp[execOp,hx,go_sem]) K
def b27{e:TypeId}(hT:∀w,(underlying T).run P w=.ok (.pointer e) w){a:Addr}(w:World):(Op.equal T (.pointer (some a)) (.pointer none)).run P w=.ok false w:=by
 have h:∀d,(Op.equalIn (d+1) T (.pointer (some a)) (.pointer none)).run P w=.ok false w:=fun d=>by unfold Op.equalIn;rw[d4X,hT,d4V];rfl
 exact h 9999
def b1q{e:TypeId}(hT:∀w,(underlying T).run P w=.ok (.pointer e) w)(w:World):(Op.equal T (.pointer none) (.pointer none)).run P w=.ok true w:=by
 have h:∀d,(Op.equalIn (d+1) T (.pointer none) (.pointer none)).run P w=.ok true w:=fun d=>by unfold Op.equalIn;rw[d4X,hT,d4V];rfl
 exact h 9999
end
end Go.Wl
section
namespace Go.Wl
open Go Go.Wk
def a2E(D:Nat->Bool)(i:Nat):Nat->Bool:=fun j=>bif Nat.beq j i then true else D j
def a05(V:Nat->Value)(i:Nat)(v:Value):Nat->Value:=fun j=>bif Nat.beq j i then v else V j
def a2T{D:Nat->Bool}{i:Nat}:a2E D i i=true:=by unfold a2E;rw[d7h];rfl
def Q7{D:Nat->Bool}{i j:Nat}(h:j≠i):a2E D i j=D j:=by unfold a2E;rw[a02 h];rfl
def Z3{V:Nat->Value}{i:Nat}{v:Value}:a05 V i v i=v:=by unfold a05;rw[d7h];rfl
def a2Y{V:Nat->Value}{i j:Nat}{v:Value}(h:j≠i):a05 V i v j=V j:=by unfold a05;rw[a02 h];rfl
abbrev JP:=(Nat->Bool)->(Nat->Value)->World->Prop
section
variable{P:Program}{n:Nat}{l:List Oper}{Q:Exit->Fr->World->Prop}{f0:Fr}
def b8L(P:Program)(n:Nat)(l:List Oper)(ms:List Nat)(J:JP)(f0:Fr)(i:Nat)(o:Oper):Prop:=
 ∀D V g w,J D V w->D i=false->(∀j,(ms.getD i 0).testBit j=true->D j=true)->(∀j,(ms.getD j 0).testBit i=true->D j=false)->(∀j t,D j=true->q8 l j=some t->g t=V j)->(∀t,a09 ms i t l 0=true->g t=f0 t) ->
  WL P false n l (fun e g' w'=>e=.normal/\∃v,g'=R7 g o.dst v/\J (a2E D i) (a05 V i v) w') [o] g w
inductive a3y(P:Program)(n:Nat)(l:List Oper)(ms:List Nat)(J:JP)(f0:Fr):Nat->List Oper->Prop
 |nil {i:Nat}:a3y P n l ms J f0 i []
 |cons {i:Nat} {o:Oper} {r:List Oper}:b8L P n l ms J f0 i o->a3y P n l ms J f0 (i+1) r->a3y P n l ms J f0 i (o::r)
def a3y.get{ms:List Nat}{J:JP}{k:Nat}{r:List Oper}(h:a3y P n l ms J f0 k r):∀x o,r[x]?=some o->b8L P n l ms J f0 (k+x) o:=by
 induction h with
 |nil=>intro x o h;simp at h
 | @cons i o r h _ ih=>intro x o' ho;cases x with
  |zero=>simp at ho;subst ho;exact h
  |succ x =>
   have:=ih x o' (by simpa using ho)
   rwa [show i+1+x=i+(x+1) by omega]at this
structure c2U(l:List Oper)(J:JP)(f0:Fr)(L:Array Bool)(V:Nat->Value)(g:Fr)(w:World):Prop where
 size:L.size=l.length
 inv:J (fun j=>L.getD j false) V w
 done:∀j t,L[j]?=some true->q8 l j=some t->g t=V j
 kept:∀t,(∀j,L[j]?=some true->q8 l j≠some t)->g t=f0 t
 closed:∀(j:Nat)(o:Oper),L[j]?=some true->l[j]?=some o->∀e∈o.after,Region.binds .any e=true->L[e.on]?=some true
def c2U.old{J:JP}{L:Array Bool}{V:Nat->Value}{g:Fr}{w:World}(h:c2U l J f0 L V g w):Inv l (fun _=>True) (fun _ _ _=>True) f0 L g w:=
 ⟨h.size,trivial,fun _ _ _ _=>trivial,h.kept,h.closed⟩
def a2S{L:Array Bool}{j:Nat}(h:L.getD j false=true):L[j]?=some true:=by
 rw[d5U]at h;cases hL:L[j]? with
 |none=>rw[hL]at h;cases h
 |some b=>rw[hL]at h;simp at h;rw[h]
def b58{id:Nat}{w:World}(J:JP)(S:List Nat)(hm:P.follows .mixedOrders=true)(ha:(R2 l && a8g l [] && a99 S n l)=true)
  (ms:List Nat) (hms:a9I l=ms) (h0:∀V,J (fun _=>false) V w) (step:a3y P n l ms J f0 0 l)
  (fin:∀D V g w',(∀j,Nat.blt j l.length=true->D j=true)->J D V w'->(∀j t,Nat.blt j l.length=true->q8 l j=some t->g t=V j)->(∀t,S.elem t=false->g t=f0 t)->∃L,Live g L/\∀g',Q .normal (a5i g' L) w') :
  W P n (.region id l.toArray true) Q f0 w:=by
 subst hms;rw[d4U,d4U]at ha;obtain⟨⟨ha,hu⟩,hin⟩:=ha;obtain⟨_,huniq⟩:=b7j hu;have hlt:=b8x hin;have main:∀(ro:Option Nat)(ds:List Deferred)(fuel:Nat)(L:Array Bool)(a:Act)(V:Nat->Value)(g:Fr)(w' w1:World),count L=fuel->Is a g n->a.defers=ds->F8 w' w1->c2U l J f0 L V g w'->wpAnyIn (P6 ro) 0 P .any l.toArray (lift n ds Q) fuel L a w1:=by
  intro ro ds;have finish:∀(L:Array Bool)(a:Act)(V:Nat->Value)(g:Fr)(w' w1:World),Is a g n->a.defers=ds->F8 w' w1->c2U l J f0 L V g w'->(∀i,i<l.length->L[i]?=some true)->lift n ds Q .normal a w1:=by intro L a V g w' w1 hg hds hs hinv hall;have⟨L',h1,h2⟩:=fin _ V g w' (fun j hj=>by rw[d5U,hall j (G4 hj)];rfl) hinv.inv (fun j t hj hjt=>hinv.done j t (hall j (G4 hj)) hjt) (fun t ht=>hinv.kept t fun j _ hj=>by have:=(hlt j t hj).1;rw[this]at ht;cases ht);have h3:=h2 g;rw[h1.eq]at h3;exact⟨g,w',hg,hds,hs,h3⟩
  intro fuel
  induction fuel with
  |zero =>
   intro L a V g w' w1 hc hg hds hs hinv;have hall:∀i,i<l.length->L[i]?=some true:=by
    intro i hi;cases hL:L[i]? with
    |none=>rw[d8B,hinv.size]at hL;omega
    |some b=>cases b with
     |true=>rfl
     |false=>have:=count_set hL;omega
   refine⟨?_,finish L a V g w' w1 hg hds hs hinv hall⟩;cases hr:Region.ready .any l.toArray L with
   |nil=>rfl
   |cons i r =>
    have hm:i∈Region.ready .any l.toArray L:=by rw[hr];simp
    obtain⟨o,ho,h1,_⟩:=T8.1 hm;have hlt:i<l.length:=by
     rcases d5B i l.length with h|h
     . exact h
     . rw[d6V h]at ho;cases ho
    simp[hall i hlt]at h1
  |succ fuel ih =>
   intro L a V g w' w1 hc hg hds hs hinv;refine⟨fun hr=>finish L a V g w' w1 hg hds hs hinv (a3P ha hinv.size hr),fun i hi=>?_⟩;obtain⟨o,ho,h1,h2⟩:=T8.1 hi;have hil:i<l.length:=by
    rcases d5B i l.length with h|h
    . exact h
    . rw[d6V h]at ho;cases ho
   have hiL:i<L.size:=by rw[hinv.size];exact hil
   have hLi:L[i]?=some false:=by simp[hiL]at h1 ⊢;exact h1
   have hdeps:∀e∈o.after,Region.binds .any e=true->L[e.on]?=some true:=fun e he hb=>by
    have:=h2 e he hb;cases hx:L[e.on]? with
    |none=>simp[hx]at this
    |some b=>simp[hx]at this;rw[this]
   have hone:=step.get i o ho;rw[d6I]at hone;have hone:=hone (fun j=>L.getD j false) V g w' hinv.inv (by rw[d5U,hLi];rfl)
    (fun j hb=>by
     have:=(a0U i j hb).listed hinv.old fun o' ho'=>by rw[ho]at ho';cases ho';exact hdeps
     rw[d5U,this];rfl)
    (fun j hb=>by
     cases hx:L.getD j false with
     |false=>rfl
     |true =>
      exfalso;have hj:=a2S hx;have:=(a0U j i hb).listed hinv.old fun o' ho' e he hbe=>hinv.closed j o' hj ho' e he hbe;rw[hLi]at this;cases this)
    (fun j t hj hjt=>hinv.done j t (a2S hj) hjt)
    (fun t hk=>hinv.kept t fun j hj hjt=>by
     rcases b3b (l:=l) (k:=0) (by simp) hk j (d6B _) hjt with e|hb
     . subst e;rw[hLi]at hj;cases hj
     . have:=(a0U j i hb).listed hinv.old fun o' ho' e he hbe=>hinv.closed j o' hj ho' e he hbe;rw[hLi]at this;cases this)
   refine b5C ho hg hds hs (S:=fun g' w2=>∃v,g'=R7 g o.dst v/\J (a2E (fun j=>L.getD j false) i) (a05 V i v) w2) hone ?_;rintro g' w2 a' w3 ⟨v,rfl,hv⟩ hg' hds' hs';have hdo:q8 l i=o.dst:=O9 ho;have hget:∀j,(L.setIfInBounds i true)[j]?=some true->j=i∨L[j]?=some true:=by
    intro j hj;by_cases hji:j=i
    . exact .inl hji
    . rw[d6x (d6l hji)]at hj;exact .inr hj
   have hgo:∀t,o.dst≠some t->R7 g o.dst v t=g t:=by
    intro t ht;unfold R7;cases hdd:o.dst with
    |none=>rfl
    |some u=>simp only;rw[W8,if_neg (fun e=>ht (by rw[hdd,e]))]
   have hDD:a2E (fun j=>L.getD j false) i=fun j=>(L.setIfInBounds i true).getD j false:=by
    funext j;by_cases hji:j=i
    . subst hji;rw[a2T,d5U,d6R hiL];rfl
    . rw[Q7 hji,d5U,d5U,d6x (d6l hji)]
   rw[hDD]at hv;refine ih _ a' (a05 V i v) (R7 g o.dst v) w2 w3 (by have:=count_set hLi;omega) hg' hds' hs' ⟨by simp[hinv.size],hv,fun j t hj hjt=>?_,fun t ht=>?_,fun j p hj hp e he hb=>?_⟩
   . rcases hget j hj with e|hj'
     . rw[e]at hjt ⊢;rw[Z3];rw[hdo]at hjt;unfold R7;simp only[hjt];rw[W8,if_pos rfl]
     . have hji:j≠i:=fun e=>by rw[e,hLi]at hj';cases hj'
       have hne:o.dst≠some t:=fun e=>hji (huniq j i t hjt (hdo.trans e));rw[hgo t hne,a2Y hji];exact hinv.done j t hj' hjt
   . have hne:o.dst≠some t:=fun e=>ht i (by rw[d6R hiL]) (hdo.trans e);rw[hgo t hne];refine hinv.kept t fun j hj=>ht j ?_;by_cases hji:j=i
     . subst hji;rw[hLi]at hj;cases hj
     . rw[d6x (d6l hji)];exact hj
   . have mark:L[e.on]?=some true->(L.setIfInBounds i true)[e.on]?=some true:=fun h=>by
       by_cases hei:e.on=i
       . rw[hei,d6R hiL]
       . rw[d6x (d6l hei)];exact h
     rcases hget j hj with rfl|hj'
     . rw[ho]at hp;cases hp;exact mark (hdeps e he hb)
     . exact mark (hinv.closed j p hj' hp e he hb)
 intro a w1 hf hs ro;have hrep:∀j,(Array.replicate l.toArray.size false)[j]?≠some true:=fun j h=>by rw[Array.getElem?_replicate]at h;split at h <;> cases h
 refine wpIn_region_any hm (main ro a.defers _ _ a (fun _=>undef) f0 w _ ?_ hf rfl (hs.trans (F8.drawn _ _)) ⟨by simp,?_,fun j t hj=>absurd hj (hrep j),fun _ _=>rfl,fun j o hj=>absurd hj (hrep j)⟩)
 . simp[count]
 . have:(fun j=>(Array.replicate l.toArray.size false).getD j false)=fun _=>false:=by
     funext j;cases h:(Array.replicate l.toArray.size false).getD j false with
     |false=>rfl
     |true=>exact absurd (a2S h) (hrep j)
   rw[this];exact h0 _
end
end Go.Wl
namespace Go.Wl
open Go Go.Wk
section
variable{α β:Type}{r:Rd α}{s:Rd β}{Z:Nat->Prop}{w:World}{A:Option Addr}{nn cap:Nat}{l:List α}{bs:List Nat}
def c3J[Inhabited α]{o q sz:Nat}{i:Int}{g:α->β}(h:Ac r Z w (.slice A nn cap) l bs)(sub:Sub r o s g)(hsz:r.sz=sz)(hq:q=i.toNat*sz+o)(h0:0<=i)(h1:i<nn) :
  ∃c,b0K w (eA A q) c/\s.rd Z w c (g (ix l i)):=by
 subst hsz;subst hq;rcases h with⟨e,rfl,rfl⟩|⟨b,cap',C,T,hv,rfl,ho,hC,hle,hc⟩
 . simp at e;omega
 . simp at hv;obtain⟨rfl,rfl,rfl⟩:=hv;have hi:i.toNat<l.length:=by omega
   obtain⟨c,g1,g2,g3⟩:=hc i.toNat hi;have hs:=sub.1;obtain⟨z,_,ho⟩:=ho;refine⟨(c.drop o).take s.sz,⟨rfl,_,_,_,ho,fun j hj=>?_⟩,by rw[s8 hi];exact sub.2 g3⟩;simp only[d5n,d6N]at hj;have:=g2 (o+j) (by omega);rw[List.getElem?_take,if_pos (by omega),List.getElem?_drop,<- this];show C.toArray[0+(i.toNat*r.sz+o)+j]?=_
   simp only[d6m];congr 1;omega
def Ac.len(h:Ac r Z w (.slice A nn cap) l bs):l.length=nn:=by obtain⟨A',cap',e⟩:=h.val;simp at e;exact e.2.1.symm
section
variable{P:Program}{m:Bool}{n:Nat}{ops:List Oper}{Q:Exit->Fr->World->Prop}{rest:List Oper}{f:Fr}{d sz:Nat}{ty T E:TypeId}{pos:String}{after:Array Edge}{x y:Operand}{k:IntKind}{i:Int}
def b8i(h:Ac r Z w (.slice A nn cap) l bs)(hT:∀w,(underlying T).run P w=.ok (.slice E) w)(hE:∀w,(sizeOf E).run P w=.ok sz w)(hx:ev f x=.slice A nn cap)(hy:ev f y=.int k i)
  (h0:0<=i) (h1:i<nn) (hn:Nat.blt d n=true) (K:WL P m n ops Q rest (D5 f d (.pointer (some (eA A (i.toNat*sz))))) w) :
  WL P m n ops Q (⟨some d,.indexAddr T x y,ty,pos,after,none⟩::rest) f w:=by
 rcases h with⟨e,rfl,rfl⟩|⟨b,cap',C,T,hv,rfl,ho,hC,hle,hc⟩
 . simp at e;omega
 . simp at hv;obtain⟨rfl,rfl,rfl⟩:=hv;refine o9 rfl rfl hn (v:=.pointer (some ⟨b,0+i.toNat*sz,none⟩)) (fun w1 hs=>?_) K;simp only[execOp,hx,hy,d4X,a0G hT hE h0 h1];rfl
end
end
def b4j(w w':World)(F F':List Nat):Prop:=Ext F w w'/\∀b∈F',b∈F∨w.heap.size<=b
def Sep.made{B0:List Nat}{w0 w w':World}{Z:Nat->Prop}{l:List It}{α:Type}{o:Ob α}{x:α}{F:List Nat}(hs:Sep B0 w0 Z w l)(e:Ext [] w w')(h:o.is Z w' x F)(hF:∀b∈F,w.heap.size<=b) :
  Sep B0 w0 Z w' (iOb o x F []::l):=hs.add e h sOb (fun b hb=>⟨hF b hb,o.lt h b hb⟩) rfl
def b5E{P:Program}{n:Nat}{c:Code}{Q:Exit->Fr->World->Prop}{f:Fr}{w:World}(I:Nat->Fr->World->Prop)(h0:∃m,I m f w)
  (round:∀m f w,I m f w->W P n c (b6S (fun f' w'=>∃m',m'<m/\I m' f' w') Q) f w):W P n (.loop c) Q f w:=by
 obtain⟨m,h0⟩:=h0;exact c8F I m h0 round
end Go.Wl
end
namespace Go.Rx
open Go Go.Wk Go.Wl
section
variable{P:Program}{n:Nat}{l:List Oper}{Q:Exit->Fr->World->Prop}{f0:Fr}
def a9X{id:Nat}{w:World}(hm:P.follows .mixedOrders=true)(ha:R2 l=true)(G:(Nat->Bool)->Fr->World->Prop)(h0:G (fun _=>false) f0 w)
  (step:∀D g w',G D g w'->∀i o,l[i]?=some o->D i=false->(∀e∈o.after,Region.binds .any e=true->D e.on=true)->WL P false n l (fun e g2 w2=>e=.normal/\G (a2E D i) g2 w2) [o] g w')
  (fin:∀D g w',G D g w'->(∀j,j<l.length->D j=true)->Q .normal g w'):W P n (.region id l.toArray true) Q f0 w:=by
 have main:∀(ro:Option Nat)(ds:List Deferred)(fuel:Nat)(L:Array Bool)(a:Act)(g:Fr)(w' w1:World),count L=fuel->Is a g n->a.defers=ds->F8 w' w1->L.size=l.length->G (fun j=>L.getD j false) g w'->wpAnyIn (P6 ro) 0 P .any l.toArray (lift n ds Q) fuel L a w1:=by
  intro ro ds;have finish:∀(L:Array Bool)(a:Act)(g:Fr)(w' w1:World),Is a g n->a.defers=ds->F8 w' w1->G (fun j=>L.getD j false) g w'->(∀i,i<l.length->L[i]?=some true)->lift n ds Q .normal a w1:=fun L a g w' w1 hg hds hs hG hall =>
   ⟨g,w',hg,hds,hs,fin _ g w' hG fun j hj=>by simp_all⟩
  intro fuel
  induction fuel with
  |zero =>
   intro L a g w' w1 hc hg hds hs hsz hG;have hall:∀i,i<l.length->L[i]?=some true:=by
    intro i hi;cases hL:L[i]? with
    |none=>simp_all
    |some b=>cases b with
     |true=>rfl
     |false=>have:=count_set hL;omega
   refine⟨?_,finish L a g w' w1 hg hds hs hG hall⟩;cases hr:Region.ready .any l.toArray L with
   |nil=>rfl
   |cons i r =>
    have hm:i∈Region.ready .any l.toArray L:=by rw[hr];simp
    obtain⟨o,ho,h1,_⟩:=T8.1 hm;have hlt:i<l.length:=by
     rcases d5B i l.length with h|h
     . exact h
     . simp_all
    simp_all
  |succ fuel ih =>
   intro L a g w' w1 hc hg hds hs hsz hG;refine⟨fun hr=>finish L a g w' w1 hg hds hs hG (a3P ha hsz hr),fun i hi=>?_⟩;obtain⟨o,ho,h1,h2⟩:=T8.1 hi;have hil:i<l.length:=by
    rcases d5B i l.length with h|h
    . exact h
    . simp_all
   have hiL:i<L.size:=by rw[hsz];exact hil
   have hLi:L[i]?=some false:=by simp[hiL]at h1 ⊢;exact h1
   refine b5C ho hg hds hs (S:=fun g' w2=>G (a2E (fun j=>L.getD j false) i) g' w2) (step _ g w' hG i o ho (by simp_all) h2) ?_;intro g' w2 a' w3 hv hg' hds' hs';have hDD:a2E (fun j=>L.getD j false) i=fun j=>(L.setIfInBounds i true).getD j false:=by
    funext j;by_cases hji:j=i
    . subst hji;rw[a2T,d5U,d6R hiL];rfl
    . rw[Q7 hji,d5U,d5U,d6x (d6l hji)]
   rw[hDD]at hv;exact ih _ a' g' w2 w3 (by have:=count_set hLi;omega) hg' hds' hs' (by simp[hsz]) hv
 intro a w1 hf hs ro;refine wpIn_region_any hm (main ro a.defers _ _ a f0 w _ ?_ hf rfl (hs.trans (F8.drawn _ _)) (by simp) ?_)
 . simp[count]
 . have:(fun j=>(Array.replicate l.toArray.size false).getD j false)=fun _=>false:=by
     funext j;cases h:(Array.replicate l.toArray.size false).getD j false with
     |false=>rfl
     |true =>
      exfalso;have h:=a2S h;grind
   simp_all
end
end Go.Rx
namespace Go.Wl
open Go Go.Wk
section
variable{P:Program}{m:Bool}{n:Nat}{ops:List Oper}{Q:Exit->Fr->World->Prop}{rest:List Oper}{f:Fr}{w w0:World}{d:Nat}{Z D:Nat->Prop}{B0:List Nat}{L:List It}
variable{ty T T' T2 E Kt:TypeId}{pos:String}{after:Array Edge}{x y z:Operand}{k:IntKind}{v zv:Value}{i:Int}{p:Bool}
variable{α β κ:Type}{r:Rd α}{A:Option Addr}{nn cap q sz b it:Nat}{O bs:List Nat}{s t:z6}{c:UInt8}{ky:Key κ}{enc:α->Value}{am:List (κ×α)}{key:κ}
def c8z(hT:∀w,(underlying T).run P w=.ok .string w)(hx:ev f x=sv s)(hn:Nat.blt d n=true)(K:WL P m n ops Q rest (D5 f d (.int .i64 s.length)) w) :
  WL P m n ops Q (⟨some d,.call ⟨.builtin .len,#[x],#[T]⟩,ty,pos,after,none⟩::rest) f w:=
 c89 hT hx hn (by rw[a0p];exact K)
def b9o(hT:∀w,(underlying T).run P w=.ok .string w)(hx:ev f x=sv s)(hy:ev f y=.int k i)(h0:0<=i)(h1:i<s.length)(hn:Nat.blt d n=true)(K:WL P m n ops Q rest (D5 f d (bv (ix s i))) w) :
  WL P m n ops Q (⟨some d,.index T x y,ty,pos,after,none⟩::rest) f w:=
 o9 rfl rfl hn (v:=bv (ix s i)) (fun _ _=>by
  have hi:i.toNat<s.length:=by omega
  have e:(⟨s.toArray⟩:ByteArray)[i.toNat]?=some (ix s i):=by
   rw[s8 hi];have h':i.toNat<(⟨s.toArray⟩:ByteArray).size:=by rw[a0p];exact hi
   rw[getElem?_pos (⟨s.toArray⟩:ByteArray) i.toNat h'];rfl
  simp[execOp,hx,hy,sv,Instr.index,asIntOf,hT,go_sem,h0,e,bv]) K
def b3Z{s:z6}{a b:Nat}(h:a<=b)(h2:b<=s.length):(⟨s.toArray⟩:ByteArray).extract a b=⟨((s.take b).drop a).toArray⟩:=by apply d8e;apply d7t;simp[ByteArray.data_extract,List.drop_take]
def b8R{lo hi:Option Operand}{a e:Int}(hT:∀w,(underlying T).run P w=.ok .string w)(hx:ev f x=sv s)(hlo:match lo with|some o=>ev f o=.int .i64 a|none=>a=0)(hhi:match hi with|some o=>ev f o=.int .i64 e|none=>e=s.length)(h0:0<=a/\a<=e/\e<=s.length)(hn:Nat.blt d n=true)
  (K:WL P m n ops Q rest (D5 f d (sv ((s.take e.toNat).drop a.toNat))) w):WL P m n ops Q (⟨some d,.slice T x lo hi none,ty,pos,after,none⟩::rest) f w:=
 o9 rfl rfl hn (v:=sv ((s.take e.toNat).drop a.toNat)) (fun _ _=>by
  have hx':=b3Z (s:=s) (a:=a.toNat) (b:=e.toNat) (by omega) (by omega);have hz:=a0p s;cases lo with
  |none =>
   simp only at hlo;subst hlo;cases hi with
   |none =>
    simp only at hhi;subst hhi;simp only[sv]at hx ⊢;simp[execOp,hx,Instr.sliceAt,Instr.slice,Instr.sliceBounds,hT,go_sem]at hx' ⊢
    try exact hx'
   |some o2 =>
    simp only at hhi;simp only[sv]at hx ⊢;simp[execOp,hx,hhi,Instr.sliceAt,Instr.slice,Instr.sliceBounds,Instr.sliceBound,asIntOf,hT,go_sem,h0]at hx' ⊢
    try exact hx'
  |some o1 =>
   simp only at hlo;cases hi with
   |none =>
    simp only at hhi;subst hhi;simp only[sv]at hx ⊢;simp[execOp,hx,hlo,Instr.sliceAt,Instr.slice,Instr.sliceBounds,Instr.sliceBound,asIntOf,hT,go_sem,h0]at hx' ⊢
    try exact hx'
   |some o2 =>
    simp only at hhi;simp only[sv]at hx ⊢;simp[execOp,hx,hlo,hhi,Instr.sliceAt,Instr.slice,Instr.sliceBounds,Instr.sliceBound,asIntOf,hT,go_sem,h0,show e<=(s.length:Int)from h0.2.2,show 0<=e by omega,Int.toNat_of_nonneg (show 0<=e by omega)]at hx' ⊢
    try exact hx') K
end
def Ac.n{α:Type}{r:Rd α}{Z:Nat->Prop}{w:World}{A:Option Addr}{nn cap:Nat}{l:List α}{bs:List Nat}(h:Ac r Z w (.slice A nn cap) l bs):l.length=nn:=by obtain⟨A',cap',e⟩:=h.val;simp_all
def b80{P:Program}(s:z6):∀(acc:ByteArray)(w:World),(forIn (m:=Sem) (s.map bv) acc (fun(c:Value)(t:ByteArray)=>match c with|.int .u8 n=>pure (ForInStep.yield (t.push (UInt8.ofNat n.toNat)))|_=>do stuck "bytesToString: byte expected"; pure (ForInStep.yield t))).run P w=.ok (acc++⟨s.toArray⟩) w:=by
 induction s with
 |nil =>
  intro acc w;have:acc++(⟨#[]⟩:ByteArray)=acc:=by apply d8e;simp
  simp_all
 |cons c r ih =>
  intro acc w;simp only[d6f,List.forIn_cons,d4X];have e:UInt8.ofNat ((c.toNat:Int).toNat)=c:=by simp
  have h1:((match bv c with|.int .u8 n=>pure (ForInStep.yield (acc.push (UInt8.ofNat n.toNat)))|_=>do stuck "bytesToString: byte expected"; pure (ForInStep.yield acc):Sem (ForInStep ByteArray))).run P w=.ok (.yield (acc.push c)) w:=by simp only[bv,e];rfl
  rw[h1,d4V];refine(ih (acc.push c) w).trans ?_;congr 1;apply d8e;simp
section
variable{P:Program}{m:Bool}{n:Nat}{ops:List Oper}{Q:Exit->Fr->World->Prop}{rest:List Oper}{f:Fr}{w w0:World}{d:Nat}{Z D:Nat->Prop}{B0:List Nat}{L:List It}
variable{ty T T' T2 E S:TypeId}{pos:String}{after:Array Edge}{x y z:Operand}{k:IntKind}{v zv:Value}{i:Int}{p:Bool}
variable{A:Option Addr}{nn cap q sz b:Nat}{O bs:List Nat}{s t:z6}{c:UInt8}
def a8c{U:TypeId}(hS:∀w,(underlying S).run P w=.ok (.slice E) w)(hT:∀w,(underlying T).run P w=.ok .string w)(hE:∀w,(underlying E).run P w=.ok (.int .u8) w)(h:Src U7 Z w (ev f x) s)(hn:Nat.blt d n=true)(K:WL P m n ops Q rest (D5 f d (sv s)) w) :
  WL P m n ops Q (⟨some d,.convert S T x,U,pos,after,none⟩::rest) f w:=
 o9 rfl rfl hn (v:=sv s) (fun w1 hs=>by
  obtain⟨A,cap,hv,cs,hcl,hcr,hrow⟩:=h;have hflat:cs.flatten=s.map bv:=by
   apply d8a;intro j;have hsz:∀c∈cs,c.length=1:=fun c hc=>by obtain⟨i,hi,rfl⟩:=d5w hc;exact U7.len (hcr i (by omega) hi)
   have e:=O4 hsz j 0 (by omega);simp only[d8w,d6r]at e;rw[e,d6F];by_cases hj:j<s.length
   . have hr:cs[j]'(by omega)=[bv s[j]]:=hcr j hj (by omega);simp_all
   . simp_all
  simp only[execOp,hv,convert,d4X,hS,hT,hE,d4V];have hfold:=b80 (P:=P) s ByteArray.empty w1;rcases A with _|a
  . rcases hrow with h0|⟨b,o,h0,_⟩
    . subst h0;simp[Conv.bytesToString,go_sem,sv];rfl
    . cases h0
  . rcases hrow with h0|⟨b,o,h0,hc⟩
    . subst h0;simp[Conv.bytesToString,go_sem,sv,loadCells,loadCellsFrom];rfl
    . simp at h0;subst h0;have hload:=a3o (P:=P) (hc.sim hs);rw[hflat,d6h]at hload;simp only[Conv.bytesToString,d4X,hload,d4V];have h2:Sem.run P (forIn (List.map bv s).toArray ByteArray.empty fun c __s=>match c with|Value.int IntKind.u8 n=>pure (ForInStep.yield (__s.push (UInt8.ofNat n.toNat)))|x=>do{ stuck "bytesToString: byte expected"; pure (ForInStep.yield __s) }) w1=.ok (ByteArray.empty++⟨s.toArray⟩) w1:=by
       rw[List.forIn_toArray];exact hfold
      refine Eq.trans (congrArg (fun r=>(Result.andThen r fun a w'=>Sem.run P (pure (Value.string a)) w').andThen fun a w'=>Sem.run P (pure (Next.value a)) w') h2) ?_;have:ByteArray.empty++(⟨s.toArray⟩:ByteArray)=⟨s.toArray⟩:=by apply d8e;simp
      simp[go_sem,sv,this]) K
def b0U{U:TypeId}{k2:IntKind}{a:Int}{dk:TypeDesc}(hS:∀w,(underlying S).run P w=.ok dk w)(hT:∀w,(underlying T).run P w=.ok (.int k2) w)(hx:ev f x=.int k a)(hn:Nat.blt d n=true)(K:WL P m n ops Q rest (D5 f d (.int k2 (k2.wrap a))) w) :
  WL P m n ops Q (⟨some d,.convert S T x,U,pos,after,none⟩::rest) f w:=
 o9 rfl rfl hn (v:=.int k2 (k2.wrap a)) (fun _ _=>by simp[execOp,hx,convert,hS,hT,Conv.intToInt,go_sem]) K
def b5H(a:Int):Value.int .u8 (IntKind.u8.wrap a)=bv (UInt8.ofInt a):=by
 unfold bv;congr 1;have h1:IntKind.u8.wrap a=a%256:=by simp[IntKind.wrap,IntKind.bits,IntKind.signed]
 rw[h1];have h2:(UInt8.ofInt a).toNat=(a%256).toNat:=by simp[UInt8.ofInt,d8y];omega
 omega
def c3D{U:TypeId}{a:Int}{dk:TypeDesc}(hS:∀w,(underlying S).run P w=.ok dk w)(hT:∀w,(underlying T).run P w=.ok (.int .u8) w)(hx:ev f x=.int k a)(hn:Nat.blt d n=true)(K:WL P m n ops Q rest (D5 f d (bv (UInt8.ofInt a))) w) :
  WL P m n ops Q (⟨some d,.convert S T x,U,pos,after,none⟩::rest) f w:=
 b0U hS hT hx hn (by rw[b5H];exact K)
end
def srt(l:List Int):List Int:=l.mergeSort fun x y=>decide (x<=y)
def a2M(l:List Int):(srt l).length=l.length:=(d6v l _).length_eq
def c3n{l:List Int}{x:Int}:x∈srt l↔x∈l:=(d6v l _).mem_iff
def c8m(l:List Int):(srt l).Pairwise (· <= ·):=by have h:=d7W (le:=fun x y:Int=>decide (x<=y)) (fun a b c h1 h2=>by simp at *;omega) (fun a b=>by simp;omega) l;exact h.imp fun h=>by simpa using h
def c4i{P:Program}{K:FuncId}(hN:∀(p:Option Addr)(cap:Nat)(w:World),Calls P K #[.slice p 0 cap] w fun e w'=>e=.returned (.tuple #[])/\w'=w)
  (hS:∀(blk off cap:Nat)(zs:List Int)(w:World),Sort.Holds (Value.int .i64) w blk off zs.toArray->blk<w.heap.size->zs.length<4611686018427387904 ->
   Calls P K #[.slice (some ⟨blk,off,none⟩) zs.length cap] w fun e w'=>e=.returned (.tuple #[])/\∃n os,w'=Sort.grow (Sort.putRow (Value.int .i64) (Sort.ahead w n) blk off (zs.mergeSort fun x y=>decide (x<=y)).toArray) os)
  {Z:Nat->Prop} {bs:List Nat} {w:World} {v:Value} {l:List Int} (h:Ac E8 Z w v l bs) (hl:l.length<4611686018427387904) :
  G2 P K [v] w fun _ w'=>Ac E8 Z w' v (srt l) bs/\Ext bs w w':=by
 intro w1 hs;obtain⟨k,rfl⟩:=hs;rcases h with⟨rfl,rfl,rfl⟩|⟨b,cap,C,T,rfl,rfl,ho,hC,hle,hc⟩
 . refine d6d (hN none 0 _) ?_;rintro e w2 ⟨rfl,rfl⟩;exact⟨_,w,rfl,⟨k,rfl⟩,.inl ⟨rfl,by simp[srt],rfl⟩,Ext.refl _ _⟩
 . have hlt:=ho.lt;obtain⟨z,hz,ho⟩:=ho;have hsz:C.length=cap:=by simpa[E8]using hC
   have hget:∀i (h:i<l.length),C[i]?=some (.int .i64 l[i])/\InI l[i]:=by intro i hi;obtain⟨c,h1,h2,h3⟩:=hc i hi;have:=h2 0 (by simp[E8]);simp only[E8,d8w,d6r]at this h3;rw[this,h3.1];exact⟨rfl,h3.2⟩
   refine d6d (hS b 0 cap l { w with drawn:=k } (fun j hj=>?_) hlt hl) ?_
   . have hj':j<l.length:=by simpa using hj
     constructor
     . simp only[World.cell?,show({ w with drawn:=k }:World).heap[b]?=_ from ho];simp[(hget j hj').1,hj']
     . rcases hz with rfl|hz
       . simp[World.frozen?,show({ w with drawn:=k }:World).heap[b]?=_ from ho]
       . simp[World.frozen?,show({ w with drawn:=k }:World).heap[b]?=_ from ho];omega
   . rintro e w2 ⟨rfl,n,os,rfl⟩;have hh:(Sort.grow (Sort.putRow (Value.int .i64) (Sort.ahead w n) b 0 (srt l).toArray) os).heap[b]?=some (.cells (Sort.putCells (Value.int .i64) 0 (srt l).toArray C.toArray) T z):=by
      rw[d7O _ _ (by simpa using hlt)];simp only[Sort.putRow,Sort.mapBlock,Sort.ahead,d6n,if_true];rw[show w.heap[b]?=_ from ho];rfl
     have ho':V2 (Sort.grow (Sort.putRow (Value.int .i64) (Sort.ahead w n) b 0 (srt l).toArray) os) b T (Sort.putCells (Value.int .i64) 0 (srt l).toArray C.toArray).toList:=by refine⟨z,?_,by rw[hh]⟩;simpa[Sort.putCells]using hz
     refine⟨_,Sort.grow (Sort.putRow (Value.int .i64) (Sort.ahead w n) b 0 (srt l).toArray) os,rfl,⟨k+n,rfl⟩,.inr ⟨b,cap,_,T,by rw[a2M],rfl,ho',?_,by rw[a2M];exact hle,?_⟩,⟨rfl,rfl,rfl,?_,?_⟩⟩
     . simp[Sort.putCells,E8,hsz]
     . intro i hi;have hi':i<l.length:=by rw[<- a2M];exact hi
       refine⟨[.int .i64 (srt l)[i]],rfl,fun j hj=>?_,rfl,?_⟩
       . have:j=0:=by simp[E8]at hj;omega
         subst this;have hci:i<C.length:=by omega
         simp[Sort.putCells,E8,d8h,hci,hi]
       . obtain⟨j,hj,e⟩:=d5w (c3n.1 (d6j hi));rw[<- e];exact(hget j hj).2
     . simp[Sort.ahead]
     . intro x hx hn;have hne:x≠b:=by simpa using hn
       rw[d7O _ _ (by simpa using hx)];simp only[Sort.putRow,Sort.mapBlock,Sort.ahead,d6n];rw[if_neg (d6l hne)]
def Ac.nd{α:Type}{r:Rd α}{Z:Nat->Prop}{w:World}{v:Value}{l:List α}{bs:List Nat}(h:Ac r Z w v l bs):bs.Nodup:=by rcases h with⟨_,_,rfl⟩|⟨b,_,_,_,_,rfl,_⟩ <;> simp
section
variable{P:Program}{m:Bool}{n:Nat}{ops:List Oper}{Q:Exit->Fr->World->Prop}{rest:List Oper}{f:Fr}{w:World}{d:Nat}{ty T T':TypeId}{pos:String}{after:Array Edge}{x y:Operand}{a b:UInt8}
def c8t(a b:UInt8):Value.int .u8 (IntKind.u8.wrap ((a.toNat:Int)+(b.toNat:Int)))=bv (a+b):=by rw[b5H];congr 1;apply d8V.1;simp[UInt8.ofInt,d8y,UInt8.toNat_add];omega
def c7l(hx:ev f x=bv a)(hy:ev f y=bv b)(hn:Nat.blt d n=true)(K:WL P m n ops Q rest (D5 f d (bv (a+b))) w) :
  WL P m n ops Q (⟨some d,.binOp .add T x y T',ty,pos,after,none⟩::rest) f w:=
 c0Y hx hy hn (by rw[c8t];exact K)
end
open Go.ChangeShapes Go.RowKit Go.WideShapes
def a7b{α:Type}(P:Program)(t:TypeId)(r:Rd α):Prop:=
 ∀{H:Type}{enc:TypeId×Value->H}{fuel:Nat}{w:World}{sp:Nat->Bool}{cs:List Value}{x:DataW H×List MemPlace},DataW.trod enc P w 0 sp true fuel t cs=some x->∃y,r.rd (fun _=>True) w cs y
section
variable{P:Program}{t e:TypeId}
def w7(ht:P.underlying t=some (.int .i64)):a7b P t E8:=fun h=>by obtain⟨n,rfl,_,hw⟩:=DataW.trod_int ht h;exact⟨n,rfl,c8D hw⟩
def a5z(ht:P.underlying t=some .bool):a7b P t a2B:=fun h=>by obtain⟨b,rfl,_⟩:=DataW.trod_bool ht h;exact⟨b,rfl⟩
def b4g(ht:P.underlying t=some .string):a7b P t a0b:=fun h=>by obtain⟨y,e⟩:=b7d ht h;exact⟨y,e⟩
def b4a{α:Type}{r:Rd α}(ho:a7b P t r){H:Type}{enc:TypeId×Value->H}{w:World}{sp:Nat->Bool}{v:Value}{d:DataW H}{ps:List MemPlace}(hv:v.cells.toList=[v])(h:DataW.Trod enc P w 0 sp true t v d ps):∃y,r.rd (fun _=>True) w [v] y:=by obtain⟨n,h⟩:=h;rw[hv]at h;exact ho h
end
def c1I{Z:Nat->Prop}{w:World}{s:z6}{b cap:Nat}{E:TypeId}(hc:s.length<=cap)(h:w.heap[b]?=some (.cells (bytesRow ⟨s.toArray⟩ cap) E ((bytesRow ⟨s.toArray⟩ cap).size,(bytesRow ⟨s.toArray⟩ cap).size+1))):Ac U7 Z w (.slice (some ⟨b,0,none⟩) s.length cap) s [b]:=by
 refine .inr ⟨b,cap,(bytesRow ⟨s.toArray⟩ cap).toList,E,rfl,rfl,⟨((bytesRow ⟨s.toArray⟩ cap).size,(bytesRow ⟨s.toArray⟩ cap).size+1),.inr (by simp),by simpa using h⟩,?_,hc,fun i hi=>⟨[bv s[i]],rfl,fun j hj=>?_,rfl⟩⟩
 . have:(bytesRow ⟨s.toArray⟩ cap).size=cap:=by
     unfold bytesRow;rw[Array.size_append,Array.size_map,Array.size_replicate];have:(⟨s.toArray⟩:ByteArray).data.size=s.length:=by simp
     have e2:(⟨s.toArray⟩:ByteArray).size=s.length:=by simp[ByteArray.size]
     omega
   simp[U7,this]
 . have hj0:j=0:=by simp[U7]at hj;omega
   subst hj0;have:=bytesRow_at ⟨s.toArray⟩ cap i (by simpa using hi);simp only[U7,d8w,d6r];rw[d8i,this];simp[bv]
section
variable{P:Program}{n:Nat}{ops:List Oper}{Q:Exit->Fr->World->Prop}{rest:List Oper}{f:Fr}{w w0:World}{d:Nat}{Z:Nat->Prop}{B0:List Nat}{L:List It}
variable{ty T E S:TypeId}{pos:String}{after:Array Edge}{x:Operand}{s:z6}
def c3u(hs:Sep B0 w0 Z w L)(hS:P.underlying S=some .string)(hT:P.underlying T=some (.slice E))(hE:P.underlying E=some (.int .u8))(hx:ev f x=sv s)(hn:Nat.blt d n=true)
  (K:∀b cap w',Sep B0 w0 Z w' (iAc U7 (.slice (some ⟨b,0,none⟩) s.length cap) s [b] []::L)->WL P false n ops Q rest (D5 f d (.slice (some ⟨b,0,none⟩) s.length cap)) w') :
  WL P false n ops Q (⟨some d,.convert S T x,ty,pos,after,none⟩::rest) f w:=
 a6g rfl rfl hn fun w1 hsim=>by
  obtain⟨k,rfl⟩:=hsim;have hr:=run_bytes_of_string (P:=P) { w with drawn:=k } S T E ⟨s.toArray⟩ hS hT hE;have hge:=grownCap_ge { w with drawn:=k } (⟨s.toArray⟩:ByteArray).size 0 E;have e2:(⟨s.toArray⟩:ByteArray).size=s.length:=by simp[ByteArray.size]
  generalize grownCap { w with drawn:=k } (⟨s.toArray⟩:ByteArray).size 0 E=cap at hr hge;rw[e2]at hr hge;refine⟨_,_,{ w with heap:=w.heap.push (.cells (bytesRow ⟨s.toArray⟩ cap) E ((bytesRow ⟨s.toArray⟩ cap).size,(bytesRow ⟨s.toArray⟩ cap).size+1)) },?_,⟨k+1,rfl⟩,K w.heap.size cap _ ?_⟩
  . simp only[execOp,hx,sv,d4X];rw[hr];rfl
  . exact hs.add (Ext.push w _) (c1I (E:=E) hge (by simp)) sAc (fun y hy=>by simp at hy;subst hy;simp) rfl
end
def a5X(sz:Nat)(w:World)(v:Value)(n:Nat)(F:List Value)(bs:List Nat):Prop:=
 (v=.slice none 0 0/\n=0/\F=[]/\bs=[])∨∃b cap T R,v=.slice (some ⟨b,0,none⟩) n cap/\bs=[b]/\V2 w b T (F++R)/\(F++R).length=cap*sz/\n<=cap/\F.length=n*sz
section
variable{sz n:Nat}{w w':World}{v:Value}{F:List Value}{bs:List Nat}{Z:Nat->Prop}{A:Option Addr}{cap:Nat}
def a5X.lt(h:a5X sz w v n F bs):∀b∈bs,b<w.heap.size:=by
 rcases h with⟨_,_,_,rfl⟩|⟨b,cap,T,R,_,rfl,ho,_⟩
 . intro b hb;cases hb
 . intro b hb;obtain rfl:=d5a.1 hb;exact ho.lt
def a5X.ext{B:List Nat}(h:a5X sz w v n F bs)(e:Ext B w w')(hB:∀b∈B,b∈bs->w.heap.size<=b):a5X sz w' v n F bs:=by
 rcases h with h|⟨b,cap,T,R,hv,rfl,ho,r⟩
 . exact .inl h
 . exact .inr ⟨b,cap,T,R,hv,rfl,ho.ext e (fun hm=>by have:=hB b hm (d5a.2 rfl);have:=ho.lt;omega),r⟩
def a5X.cells(h:a5X sz w (.slice A n cap) n F bs)(hn:0<n):∃b,A=some ⟨b,0,none⟩/\bs=[b]/\Cells w b 0 F:=by
 rcases h with⟨_,h,_⟩|⟨b,cap',T,R,hv,rfl,ho,_⟩
 . omega
 . simp only[d6G]at hv;refine⟨b,hv.1,rfl,ho.a6i fun j hj=>?_⟩;rw[d6I,d5l hj]
def a5X.take{k:Nat}(h:a5X sz w (.slice A n cap) n F bs)(hk:k<=n):a5X sz w (.slice A k cap) k (F.take (k*sz)) bs:=by
 have hm:k*sz<=n*sz:=d5s _ hk;rcases h with⟨e,h,rfl,rfl⟩|⟨b,cap',T,R,hv,rfl,ho,hC,hn,hF⟩
 . simp only[d6G]at e;obtain⟨rfl,_,rfl⟩:=e;have:k=0:=by omega
   subst this;exact .inl ⟨rfl,rfl,by simp,rfl⟩
 . simp only[d6G]at hv;obtain⟨rfl,_,rfl⟩:=hv;have e:F.take (k*sz)++(F.drop (k*sz)++R)=F++R:=by rw[<- d5x,d7j]
   exact .inr ⟨b,cap,T,F.drop (k*sz)++R,rfl,rfl,by rw[e];exact ho,by rw[e];exact hC,by omega,by rw[d5n];omega⟩
end
abbrev iRw(sz:Nat)(v:Value)(n:Nat)(F:List Value)(bs O:List Nat):It:=⟨bs,O,fun _ w=>a5X sz w v n F bs⟩
def sRw{sz n:Nat}{v:Value}{F:List Value}{bs O:List Nat}:(iRw sz v n F bs O).W9:=fun Z Z' B w w' h e hB _=>h.ext e (fun b hb hm=>hB b hb (.inl hm))
section
variable{P:Program}{n:Nat}{ops:List Oper}{Q:Exit->Fr->World->Prop}{rest:List Oper}{f:Fr}{w w0:World}{d:Nat}{Z:Nat->Prop}{B0:List Nat}{L:List It}
variable{ty T E S:TypeId}{pos:String}{after:Array Edge}{x y:Operand}{k:IntKind}{i:Int}{sz m cap:Nat}{A:Option Addr}{F:List Value}{bs O:List Nat}
def b74{len:Nat}{ps:Array (Nat×Operand)}{vs:List (Nat×Value)}{zv:Value}{cs:List Value}(hs:Sep B0 w0 Z w L)(hT:∀w,(underlying T).run P w=.ok (.slice E) w)(hE:∀w,(sizeOf E).run P w=.ok sz w)(hz:∀w,(zeroValue E).run P w=.ok zv w)
  (hv:ps.toList.map (fun p=>(p.1,ev f p.2))=vs) (hlen:vs.length=len) (hord:a0o 0 vs=true) (hsz:vs.all (fun p=>Nat.beq p.2.cells.size sz)=true) (hcs:(vs.flatMap fun p=>p.2.cells.toList)=cs) (hcl:cs.length=len*sz) (hsmall:Nat.ble (len*sz) 16777216=true) (hn:Nat.blt d n=true)
  (K:∀b w',Sep B0 w0 Z w' (iRw sz (.slice (some ⟨b,0,none⟩) len len) len cs [b] []::L)->WL P false n ops Q rest (D5 f d (.slice (some ⟨b,0,none⟩) len len)) w') :
  WL P false n ops Q (⟨some d,.buildSlice T len ps,ty,pos,after,none⟩::rest) f w:=
 a4m hT hE hz hv hlen hord hsz hcs hsmall hn fun b w' e h1 h2 ho=>K b w' (hs.add e (.inr ⟨b,len,E,[],rfl,rfl,by rw[d5C];exact ho.z,by rw[d5C];exact hcl,d5m _,hcl⟩) sRw (fun x hx=>by simp at hx;subst hx;omega) rfl)
end
end Go.Wl
section
namespace Go.Rx
open Go Go.Wk Go.Wl
structure Ty1 where
 α:Type
 r:Rd α
 i:Inhabited α
structure Ob1 where
 β:Type
 ob:Nat->Ob β
structure B8 where
 tb:Nat->Ty1
 oj:Nat->Ob1
abbrev B8.U(N:B8)(t:Nat):Type:=(N.tb t).α
abbrev B8.O(N:B8)(k:Nat):Type:=(N.oj k).β
instance B8.inh (N:B8) (t:Nat):Inhabited (N.U t):=(N.tb t).i
inductive o6
 |nil
 |no (n:Int)
 |fault (a n:Int)
 |w (t:Nat) (s:z6) (e:o6)
 |p (t:Nat) (s:z6) (n:Int)
 deriving DecidableEq,Inhabited
def o6.n0:o6->Int
 |.no n=>n
 |_=>0
inductive SV(N:B8):Type
 |un
 |undef
 |int (k:IntKind) (x:Int)
 |byte (c:UInt8)
 |tt
 |ff
 |bl (p:Prop) (d:Decidable p)
 |str (s:z6)
 |M5 (v:Value)
 |M9
 |sl (t:Nat) (l:List (N.U t))
 |ref (id off:Nat)
 |acc (id:Nat)
 |el (id t:Nat) (i:Int) (off:Nat)
 |fel (t:Nat) (l:List (N.U t)) (i:Int) (off:Nat)
 |sub (id t:Nat) (lo n:Int)
 |agg (vs:List (SV N))
 |F5 (vs:List (SV N))
 |err (e:o6)
 |ifc (t:Nat) (v:SV N)
 |fn (K:Nat)
 |clo (K:Nat) (vs:List (SV N))
 |yld (id:Nat)
 |mp (id:Nat)
inductive Item(N:B8):Type
 |own (T:Nat) (cells:List (SV N))
 |ac (t:Nat) (l:List (N.U t))
 |fz (t:Nat) (l:List (N.U t))
 |ob (k fid:Nat) (x:N.O k)
 |rw (t n:Nat) (cells:List (SV N))
abbrev n5(N:B8):=List (Nat×SV N)
abbrev c7(N:B8):=List (Nat×Item N)
structure St(N:B8) where
 slots:n5 N
 gs:List (Nat×Nat×Bool×SV N)
 items:c7 N
 nx:Nat
section
variable{β:Type}
def lk:List (Nat×β)->Nat->Option β
 |[],_=>none
 |p::r,j=>bif Nat.beq p.1 j then some p.2 else lk r j
def rmv:List (Nat×β)->Nat->List (Nat×β)
 |[],_=>[]
 |p::r,j=>bif Nat.beq p.1 j then r else p::rmv r j
def a3I:List (Nat×β)->Nat->β->List (Nat×β)
 |[],_,_=>[]
 |p::r,j,x=>bif Nat.beq p.1 j then(p.1,x)::r else p::a3I r j x
end
def cj:List Prop->Prop->Prop
 |[],r=>r
 |p::ps,r=>p/\cj ps r
def im:List Prop->Prop->Prop
 |[],r=>r
 |p::ps,r=>p->im ps r
variable{N:B8}
def leaves:SV N->List (SV N)
 |.agg vs=>vs
 |v=>[v]
def c3z:Value->SV N
 |.int k n=>match k with|.u8=>.byte (UInt8.ofNat n.toNat)|k=>.int k n
 |.bool b=>match b with|true=>.tt|false=>.ff
 |.string b=>.str b.data.toList
 |.slice none 0 0=>.M9
 |.nilIface=>.err .nil
 |v=>.M5 v
def okc:Value->Bool
 |.int k n=>match k with|.i64=>decide (-9223372036854775808<=n) && decide (n<=9223372036854775807)|.u8=>decide (0<=n) && decide (n<256)|_=>true
 |.string b=>Nat.ble b.data.toList.length 9223372036854775807
 |.agg _=>false
 |.tuple _=>false
 |_=>true
def c8b(v:Value):SV N:=bif okc v then c3z v else .un
def cst:Value->SV N
 |.agg cs=>bif cs.toList.all okc then .agg (cs.toList.map c3z)else .un
 |v=>c8b v
structure Q1(N:B8) where
 ob:List Prop
 hy:List Prop
 v:SV N
def q0(v:SV N):Option (Q1 N):=some ⟨[],[],v⟩
abbrev c6(x:Int):Prop:=-9223372036854775808<=x/\x<=9223372036854775807
def W7(p:Prop)[d:Decidable p]:Option (Q1 N):=some ⟨[],[],.bl p d⟩
def H7(op:BinOp)(k:IntKind)(a b:Int):Option (Q1 N):=
 match op with
 |.add=>match k with|.i64=>some ⟨[c6 (a+b)],[],.int .i64 (a+b)⟩|k=>q0 (.int k (k.wrap (a+b)))
 |.sub=>match k with|.i64=>some ⟨[c6 (a-b)],[],.int .i64 (a-b)⟩|k=>q0 (.int k (k.wrap (a-b)))
 |.mul=>match k with|.i64=>some ⟨[c6 (a*b)],[],.int .i64 (a*b)⟩|k=>q0 (.int k (k.wrap (a*b)))
 |.quo=>match k with|.i64=>some ⟨[b≠0,c6 (a.tdiv b)],[],.int .i64 (a.tdiv b)⟩|k=>some ⟨[b≠0],[],.int k (k.wrap (a.tdiv b))⟩
 |.rem=>some ⟨[b≠0],[],.int k (a.tmod b)⟩
 |.shr=>some ⟨[0<=b],[],.int k (a.fdiv (2 ^ min b.toNat k.bits))⟩
 |.shl=>some ⟨[0<=b],[],.int k (k.wrap (a*2 ^ min b.toNat k.bits))⟩
 |.and=>q0 (.int k (k.wrap (BitVec.ofInt k.bits a &&& BitVec.ofInt k.bits b).toNat))
 |.or=>q0 (.int k (k.wrap (BitVec.ofInt k.bits a ||| BitVec.ofInt k.bits b).toNat))
 |.xor=>q0 (.int k (k.wrap (BitVec.ofInt k.bits a ^^^ BitVec.ofInt k.bits b).toNat))
 |.eql=>W7 (a=b)
 |.neq=>W7 (a≠b)
 |.lss=>W7 (a<b)
 |.leq=>W7 (a<=b)
 |.gtr=>W7 (b<a)
 |.geq=>W7 (b<=a)
 |.andNot=>none
def O7(op:BinOp)(a b:UInt8):Option (Q1 N):=
 match op with
 |.add=>q0 (.byte (a+b))
 |.sub=>q0 (.byte (a-b))
 |.and=>q0 (.byte (a &&& b))
 |.eql=>W7 (a=b)
 |.neq=>W7 (a≠b)
 |.lss=>W7 (a<b)
 |.leq=>W7 (a<=b)
 |.gtr=>W7 (b<a)
 |.geq=>W7 (b<=a)
 |_=>none
def a2x(op:BinOp)(a b:z6):Option (Q1 N):=
 match op with
 |.add=>some ⟨[a.length+b.length<=9223372036854775807],[],.str (a++b)⟩
 |.eql=>W7 (a=b)
 |.neq=>W7 (a≠b)
 |.lss=>W7 (Op.bytesLess a b=true)
 |.gtr=>W7 (¬(Op.bytesLess a b=true∨a=b))
 |_=>none
def prop:SV N->Option ((p:Prop) ×' Decidable p)
 |.tt=>some ⟨True,.isTrue trivial⟩
 |.ff=>some ⟨False,.isFalse id⟩
 |.bl p d=>some ⟨p,d⟩
 |_=>none
def a9Y:BinOp->Bool
 |.shl=>true
 |.shr=>true
 |_=>false
def b5a(op:BinOp)(k k':IntKind)(a b:Int):Option (Q1 N):=bif a9Y op then H7 op k a b else(if k=k' then H7 op k a b else none)
def b08(op:BinOp)(a:o6):Option (Q1 N):=
 match op with
 |.eql=>W7 (a=.nil)
 |.neq=>W7 (a≠.nil)
 |_=>none
def a1U(op:BinOp)(z:Bool):Option (Q1 N):=
 match op with
 |.eql=>q0 (bif z then .tt else .ff)
 |.neq=>q0 (bif z then .ff else .tt)
 |_=>none
def a48(op:BinOp)(p q:Prop)(_:Decidable p)(_:Decidable q):Option (Q1 N):=
 match op with
 |.eql=>W7 (p↔q)
 |.neq=>W7 (¬(p↔q))
 |_=>none
inductive VK
 |int (k:IntKind)
 |byte
 |bool
 |str
 |err
 |sl (t:Nat)
 |acc (t:Nat)
 |val (t:Nat)
 |a0n
inductive TK
 |v (k:VK)
 |to (j:Nat)
 |a0n
 |any
inductive TP
 |own (s:Option Nat) (T:Nat) (ks:List TK)
 |ob (s:Option Nat) (k:Nat)
def TP.kept:TP->Option Nat
 |.own s _ _=>s
 |.ob s _=>s
inductive LV
 |slot (s:Nat) (k:VK)
 |own (s:Nat) (ks:List VK)
 |ob (s:Nat) (k:Nat)
 |cont (s t:Nat)
 |tree (ss:List (Nat×Nat)) (ps:List TP)
 |unr (n:Nat)
end Go.Rx
end
namespace Go.Rx
open Go Go.Wk Go.Wl
structure Loc where
 b:Nat
 A:Option Addr
 n:Nat
 cap:Nat
 bs:List Nat
abbrev p4:=Nat->Option Loc
structure N6 where
 no:Nat
 fp:Nat
 fs:Nat
 wr:Nat->Option Nat
 wp:Nat->Option Nat:=fun _=>none
 wk:Nat->Bool:=fun _=>false
def pc(T:N6)(S:Nat)(n:Int):Value:=bif T.wk S then .int .i64 n else .iface T.no (.int .i64 n)
def d3p(T:N6)(k:Nat)(s:z6)(n:Int):Value:=match k with
 |0=>.agg #[sv s,.int .i64 n]
 |1=>.agg #[.int .i64 n]
 |2=>.agg #[.iface T.no (.int .i64 n)]
 |_=>.agg #[]
inductive a5d(T:N6)(Z:Nat->Prop)(w:World):Value->o6->Prop
 |nil:a5d T Z w .nilIface .nil
 |no {n:Int} (h:InI n):a5d T Z w (.iface T.no (.int .i64 n)) (.no n)
 |fault {b:Nat} {a n:Int} (hz:Z b) (ho:Q5 w b T.fs [.int .i64 a,.int .i64 n]) (ha:InI a) (hn:InI n) (h0:T.fp≠0):a5d T Z w (.iface T.fp (.pointer (some ⟨b,0,none⟩))) (.fault a n)
 |w {t k:Nat} {s:z6} {n:Int} (ht:T.wr t=some k) (hn:InI n) (hk:3<=k->n=(k:Int)-3):a5d T Z w (.iface t (d3p T k s n)) (.w t s (.no n))
 |p {t S b:Nat} {s:z6} {n:Int} (ht:T.wp t=some S) (hz:Z b) (ho:Q5 w b S [sv s,pc T S n]) (hn:InI n):a5d T Z w (.iface t (.pointer (some ⟨b,0,none⟩))) (.p t s n)
inductive e7(N:B8)(T:N6)(ρ:p4)(Z:Nat->Prop)(w:World):Value->SV N->Prop
 |un {v:Value}:e7 N T ρ Z w v .un
 |undef:e7 N T ρ Z w Go.undef .undef
 |int {k:IntKind} {x:Int} (h:k=.i64->InI x):e7 N T ρ Z w (.int k x) (.int k x)
 |byte {c:UInt8}:e7 N T ρ Z w (bv c) (.byte c)
 |tt:e7 N T ρ Z w (.bool true) .tt
 |ff:e7 N T ρ Z w (.bool false) .ff
 |bl {p:Prop} {d:Decidable p}:e7 N T ρ Z w (.bool (@decide p d)) (.bl p d)
 |str {s:z6} (h:s.length<=9223372036854775807):e7 N T ρ Z w (sv s) (.str s)
 |M5 {v:Value} (h:D7 v=true):e7 N T ρ Z w v (.M5 v)
 |M9:e7 N T ρ Z w (.slice none 0 0) .M9
 |sl {v:Value} {t:Nat} {l:List (N.U t)} (h:(p7 (N.tb t).r).rd Z w [v] l):e7 N T ρ Z w v (.sl t l)
 |ref {id off:Nat} {L:Loc} (h:ρ id=some L):e7 N T ρ Z w (.pointer (some ⟨L.b,off,none⟩)) (.ref id off)
 |acc {id:Nat} {L:Loc} (h:ρ id=some L):e7 N T ρ Z w (.slice L.A L.n L.cap) (.acc id)
 |el {id t off:Nat} {i:Int} {L:Loc} (h:ρ id=some L) (h0:0<=i) (h1:i<L.n):e7 N T ρ Z w (.pointer (some (eA L.A (i.toNat*(N.tb t).r.sz+off)))) (.el id t i off)
 |fel {t off:Nat} {l:List (N.U t)} {i:Int} {A:Option Addr} {cap:Nat} (h:(p7 (N.tb t).r).rd Z w [.slice A l.length cap] l) (h0:0<=i) (h1:i<l.length):e7 N T ρ Z w (.pointer (some (eA A (i.toNat*(N.tb t).r.sz+off)))) (.fel t l i off)
 |a3d {id t c:Nat} {lo n:Int} {A:Option Addr} {L:Loc} (h:ρ id=some L) (h0:0<=lo) (h1:0<=n) (h2:lo+n<=L.n) (hc:c=L.cap-lo.toNat) (hA:A=if L.cap=lo.toNat then L.A else L.A.map (·.add (lo.toNat*(N.tb t).r.sz))):e7 N T ρ Z w (.slice A n.toNat c) (.sub id t lo n)
 |a1P:e7 N T ρ Z w (.agg #[]) (.agg [])
 |R8 {v:Value} {cs:List Value} {s:SV N} {ss:List (SV N)} (h:e7 N T ρ Z w v s) (hp:D7 v=true) (r:e7 N T ρ Z w (.agg cs.toArray) (.agg ss)):e7 N T ρ Z w (.agg (v::cs).toArray) (.agg (s::ss))
 |M0:e7 N T ρ Z w (.tuple #[]) (.F5 [])
 |I8 {v:Value} {cs:List Value} {s:SV N} {ss:List (SV N)} (h:e7 N T ρ Z w v s) (r:e7 N T ρ Z w (.tuple cs.toArray) (.F5 ss)):e7 N T ρ Z w (.tuple (v::cs).toArray) (.F5 (s::ss))
 |err {v:Value} {e:o6} (h:a5d T Z w v e):e7 N T ρ Z w v (.err e)
 |ifc {t:Nat} {v:Value} {s:SV N} (h:e7 N T ρ Z w v s):e7 N T ρ Z w (.iface t v) (.ifc t s)
 |fn {K:Nat}:e7 N T ρ Z w (.func (.func K) #[] #[]) (.fn K)
 |clo {K:Nat} {cs:List Value} {ss:List (SV N)} (r:e7 N T ρ Z w (.agg cs.toArray) (.agg ss)):e7 N T ρ Z w (.func (.func K) #[] cs.toArray) (.clo K ss)
 |yld {id:Nat} {L:Loc} (h:ρ id=some L):e7 N T ρ Z w (.func (.yield L.b) #[] #[]) (.yld id)
 |mp {id:Nat} {L:Loc} (h:ρ id=some L):e7 N T ρ Z w (.map (some L.b)) (.mp id)
def e8(N:B8)(T:N6)(ρ:p4)(Z:Nat->Prop)(w:World)(cs:List Value)(ss:List (SV N)):Prop:=e7 N T ρ Z w (.agg cs.toArray) (.agg ss)
section
variable{N:B8}{T:N6}{ρ ρ':p4}{Z Z':Nat->Prop}{w w':World}{v:Value}{s:SV N}{cs:List Value}{ss:List (SV N)}
def e8.nil:e8 N T ρ Z w [] []:=e7.a1P
def toArray_inj{α:Type}{a b:List α}(h:a.toArray=b.toArray):a=b:=by simpa using h
def e8.cons_inv(h:e8 N T ρ Z w cs (s::ss)):∃v r,cs=v::r/\e7 N T ρ Z w v s/\D7 v=true/\e8 N T ρ Z w r ss:=by
 unfold e8 at h;generalize e:Value.agg cs.toArray=a at h;cases h with
 |R8 h hp r=>exact⟨_,_,toArray_inj (by simpa using e),h,hp,r⟩
def e8.A1(h:e8 N T ρ Z w cs []):cs=[]:=by
 unfold e8 at h;generalize e:Value.agg cs.toArray=a at h;cases h with
 |a1P=>simp_all
def e7.E5(h:e7 N T ρ Z w v (.agg ss)):∃cs:List Value,v=.agg cs.toArray/\e8 N T ρ Z w cs ss:=by
 cases h with
 |a1P=>exact⟨[],rfl,e7.a1P⟩
 |R8 h hp r=>exact⟨_,rfl,e7.R8 h hp r⟩
def e7.a2I{ss:List (SV N)}(h:e7 N T ρ Z w v (.F5 ss)):∃cs:List Value,v=.tuple cs.toArray:=by
 cases h with
 |M0=>simp_all
 |I8 h r=>simp_all
def e7.w4{cs:List Value}(h:e7 N T ρ Z w (.tuple cs.toArray) (.F5 (s::ss))):∃v r,cs=v::r/\e7 N T ρ Z w v s/\e7 N T ρ Z w (.tuple r.toArray) (.F5 ss):=by
 generalize e:Value.tuple cs.toArray=a at h;cases h with
 |I8 h r=>grind
def e8.len(h:e8 N T ρ Z w cs ss):cs.length=ss.length:=by
 induction ss generalizing cs with
 |nil=>rw[e8.A1 h];rfl
 |cons s ss ih=>obtain⟨v,r,rfl,_,_,h⟩:=e8.cons_inv h;simp[ih h]
def e8.get(h:e8 N T ρ Z w cs ss):∀(i:Nat)(s:SV N),ss[i]?=some s->∃v,cs[i]?=some v/\e7 N T ρ Z w v s/\D7 v=true:=by
 induction ss generalizing cs with
 |nil=>simp_all
 |cons s ss ih =>
  obtain⟨v,r,rfl,h1,hp,h⟩:=e8.cons_inv h;grind
def e8.plain(h:e8 N T ρ Z w cs ss):cs.all D7=true:=by
 induction ss generalizing cs with
 |nil=>rw[e8.A1 h];rfl
 |cons s ss ih=>obtain⟨v,r,rfl,_,hp,h⟩:=e8.cons_inv h;grind
def a5d.I3{e:o6}(h:a5d T Z w v e){B:List Nat}(x:Ext B w w')(hB:∀b∈B,Z b->w.heap.size<=b)(hZ:∀b,Z b->b<w.heap.size->Z' b):a5d T Z' w' v e:=by
 cases h with
 |nil=>exact .nil
 |no h=>exact .no h
 |fault hz ho ha hn h0=>exact .fault (hZ _ hz ho.lt) (ho.ext x (fun hm=>by have:=hB _ hm hz;have:=ho.lt;omega)) ha hn h0
 |w h1 h2 h3=>exact .w h1 h2 h3
 |p ht hz ho hn=>exact .p ht (hZ _ hz ho.lt) (ho.ext x (fun hm=>by have:=hB _ hm hz;have:=ho.lt;omega)) hn
def e7.I3(h:e7 N T ρ Z w v s){B:List Nat}(x:Ext B w w')(hB:∀b∈B,Z b->w.heap.size<=b)(hZ:∀b,Z b->b<w.heap.size->Z' b)(hρ:∀i L,ρ i=some L->ρ' i=some L):e7 N T ρ' Z' w' v s:=by
 induction h with
 |un=>exact .un
 |undef=>exact .undef
 |int h=>exact .int h
 |byte=>exact .byte
 |tt=>exact .tt
 |ff=>exact .ff
 |bl=>exact .bl
 |str h=>exact .str h
 |M5 h=>exact .M5 h
 |M9=>exact .M9
 |sl h=>exact .sl (Rd.mono _ h x hB hZ)
 |ref h=>exact .ref (hρ _ _ h)
 |acc h=>exact .acc (hρ _ _ h)
 |el h h0 h1=>exact .el (hρ _ _ h) h0 h1
 |fel h h0 h1=>exact .fel (Rd.mono _ h x hB hZ) h0 h1
 |a3d h a b c d e=>exact .a3d (hρ _ _ h) a b c d e
 |a1P=>exact .a1P
 |R8 h hp r ih1 ih2=>exact .R8 ih1 hp ih2
 |M0=>exact .M0
 |I8 h r ih1 ih2=>exact .I8 ih1 ih2
 |err h=>exact .err (h.I3 x hB hZ)
 |ifc h ih=>exact .ifc ih
 |fn=>exact .fn
 |clo r ih=>exact .clo ih
 |yld h=>exact .yld (hρ _ _ h)
 |mp h=>exact .mp (hρ _ _ h)
def e7.sub(h:e7 N T ρ Z w v s)(hρ:∀i L,ρ i=some L->ρ' i=some L):e7 N T ρ' Z w v s:=h.I3 (Ext.refl [] w) (fun _ hb=>by cases hb) (fun _ h _=>h) hρ
def e7.a3O(h:e7 N T ρ Z w v s)(hZ:∀b,Z b->Z' b):e7 N T ρ Z' w v s:=h.I3 (Ext.refl [] w) (fun _ hb=>by cases hb) (fun b h _=>hZ b h) (fun _ _ h=>h)
def e7.lower{ρ0:p4}{Z0:Nat->Prop}{w0:World}{v0:Value}(h:e7 N T ρ Z w v s)(h0:e7 N T ρ0 Z0 w0 v0 s)(hρ:∀i L,ρ0 i=some L->ρ i=some L):e7 N T ρ0 Z w v s:=by
 induction h generalizing v0 with
 |un=>exact .un
 |undef=>exact .undef
 |int h=>exact .int h
 |byte=>exact .byte
 |tt=>exact .tt
 |ff=>exact .ff
 |bl=>exact .bl
 |str h=>exact .str h
 |M5 h=>exact .M5 h
 |M9=>exact .M9
 |sl h=>exact .sl h
 |ref h=>cases h0 with|ref h'=>have:=hρ _ _ h';rw[h]at this;cases this;exact .ref h'
 |acc h=>cases h0 with|acc h'=>have:=hρ _ _ h';rw[h]at this;cases this;exact .acc h'
 |el h a b=>cases h0 with|el h' _ _=>have:=hρ _ _ h';rw[h]at this;cases this;exact .el h' a b
 |fel h a b=>exact .fel h a b
 |a3d h a b c d e=>cases h0 with|a3d h' _ _ _ _ _=>have:=hρ _ _ h';rw[h]at this;cases this;exact .a3d h' a b c d e
 |a1P=>exact .a1P
 |R8 h hp r ih1 ih2=>cases h0 with|R8 h' _ r'=>exact .R8 (ih1 h') hp (ih2 r')
 |M0=>exact .M0
 |I8 h r ih1 ih2=>cases h0 with|I8 h' r'=>exact .I8 (ih1 h') (ih2 r')
 |err h=>exact .err h
 |ifc h ih=>cases h0 with|ifc h'=>exact .ifc (ih h')
 |fn=>exact .fn
 |clo r ih=>cases h0 with|clo r'=>exact .clo (ih r')
 |yld h=>cases h0 with|yld h'=>have:=hρ _ _ h';rw[h]at this;cases this;exact .yld h'
 |mp h=>cases h0 with|mp h'=>have:=hρ _ _ h';rw[h]at this;cases this;exact .mp h'
end
structure TyI(N:B8)(T:N6)(t:Nat) where
 sv:N.U t->SV N
 bk:SV N->Option (N.U t)
 sv_ok:∀{ρ:p4}{Z:Nat->Prop}{w:World}{cs:List Value}{x:N.U t},(N.tb t).r.rd Z w cs x->e8 N T ρ Z w cs (leaves (sv x))
 bk_ok:∀{ρ:p4}{Z:Nat->Prop}{w:World}{cs:List Value}{s:SV N}{x:N.U t},e8 N T ρ Z w cs (leaves s)->bk s=some x->(N.tb t).r.rd Z w cs x
 hy:N.U t->List Prop:=fun _=>[]
 hy_ok:∀{Z:Nat->Prop}{w:World}{cs:List Value}{x:N.U t},(N.tb t).r.rd Z w cs x->∀p∈hy x,p:=by intros;contradiction
 by8:Option (PLift (N.tb t=⟨UInt8,U7,⟨0⟩⟩)):=none
section
variable{N:B8}
def a9R(f:Nat->Option Nat):SV N->Option (SV N)
 |.ref id off=>(f id).map fun j=>.ref j off
 |.acc id=>(f id).map fun j=>.acc j
 |.el id t i off=>(f id).map fun j=>.el j t i off
 |.sub id t lo n=>(f id).map fun j=>.sub j t lo n
 |.ifc _ _=>none
 |.agg _=>none
 |.F5 _=>none
 |.clo _ _=>none
 |.yld id=>(f id).map fun j=>.yld j
 |.mp id=>(f id).map fun j=>.mp j
 |v=>some v
def a5j(f:Nat->Option Nat):List (SV N)->Option (List (SV N))
 |[]=>some []
 |v::r=>match a9R f v,a5j f r with|some v',some r'=>some (v'::r')|_,_=>none
def c4q(f:Nat->Option Nat):SV N->Option (SV N)
 |.agg vs=>(a5j f vs).map fun vs=>.agg vs
 |.clo K vs=>(a5j f vs).map fun vs=>.clo K vs
 |v=>a9R f v
def a81(f:Nat->Option Nat):List (SV N)->Option (List (SV N))
 |[]=>some []
 |v::r=>match c4q f v,a81 f r with|some v',some r'=>some (v'::r')|_,_=>none
def c1o(f:Nat->Option Nat):SV N->Option (SV N)
 |.F5 vs=>(a81 f vs).map fun vs=>.F5 vs
 |v=>c4q f v
def b7m(f:Nat->Option Nat):Item N->Option (Item N)
 |.own T cells=>(a5j f cells).map fun vs=>.own T vs
 |.ac t l=>some (.ac t l)
 |.fz t l=>some (.fz t l)
 |.ob k fid x=>(f fid).map fun j=>.ob k j x
 |.rw t n cells=>(a5j f cells).map fun vs=>.rw t n vs
def a9n(f:Nat->Option Nat):c7 N->Option (c7 N)
 |[]=>some []
 |p::r=>match f p.1,b7m f p.2,a9n f r with|some i,some it,some r'=>some ((i,it)::r')|_,_,_=>none
def b9k:SV N->List Nat
 |.ref id _=>[id]
 |.acc id=>[id]
 |.el id _ _ _=>[id]
 |.sub id _ _ _=>[id]
 |.yld id=>[id]
 |.mp id=>[id]
 |_=>[]
def a6U:SV N->List Nat
 |.agg vs=>vs.flatMap b9k
 |.clo _ vs=>vs.flatMap b9k
 |v=>b9k v
def d3Q:Item N->List Nat
 |.own _ cells=>cells.flatMap b9k
 |.rw _ _ cells=>cells.flatMap b9k
 |_=>[]
def reach(its:c7 N):Nat->List Nat->List Nat->List Nat
 |0,_,d=>d
 |_+1,[],d=>d
 |n+1,i::r,d=>bif d.elem i then reach its n r d else reach its n ((match lk its i with|some it=>d3Q it|none=>[])++r) (d++[i])
def c5D(its:c7 N)(i:Nat):Option Nat:=match lk its i with|some (.ob _ f _)=>some f|_=>none
def G0(its:c7 N)(ids:List Nat):List (Option Nat):=ids.map some++ids.map (c5D its)
def a1u:List (Option Nat)->Nat->Nat->Option Nat
 |[],_,_=>none
 |o::r,n,i=>match o with|some j=>bif Nat.beq j i then some n else a1u r (n+1) i|none=>a1u r (n+1) i
def a5A(nm:List (Option Nat))(nx:Nat)(j:Nat):Option Nat:=match nm[j]? with|some o=>o|none=>some (nx+(j-nm.length))
def b7R(its:c7 N)(f:Nat->Option Nat):Nat->List Nat->Option (c7 N)
 |_,[]=>some []
 |p,i::r=>match lk its i with
  |some it=>(match b7m f it,b7R its f (p+1) r with|some it',some l=>some ((p,it')::l)|_,_=>none)
  |none=>none
abbrev PT(N:B8):=(SV N->c7 N->Nat->Prop)->Prop
abbrev GC(N:B8):=List (SV N)->c7 N->Option (PT N)
end
structure FR(N:B8) where
 ob:List Prop
 hy:List Prop
 v:SV N
 its:c7 N
 n:Nat
structure FC(N:B8) where
 fz:List Nat
 ss:List (List LV)
 C:List (SV N)->c7 N->Option (FR N)
end Go.Rx
section
namespace Go.Rx
open Go Go.Wk Go.Wl
structure CR(N:B8) where
 ob:List Prop
 hy:List Prop
 r:SV N
 its:List (Item N)
def u4(N:B8)(ρ:p4)(id:Nat):Item N->List Nat
 |.fz _ _=>[]
 |.ob _ fid _=>(match ρ fid with|some L=>L.bs|none=>[])
 |_=>match ρ id with|some L=>L.bs|none=>[]
def holds(N:B8)(T:N6)(ρ:p4)(id:Nat)(Z:Nat->Prop)(w:World):Item N->Prop
 |.own Ty cells=>∃L cs,ρ id=some L/\L.bs=[L.b]/\Q5 w L.b Ty cs/\e8 N T ρ Z w cs cells
 |.ac t l=>∃L,ρ id=some L/\L.n=l.length/\l.length<=9223372036854775807/\Ac (N.tb t).r Z w (.slice L.A L.n L.cap) l L.bs
 |.fz t l=>∃L,ρ id=some L/\L.n=l.length/\(p7 (N.tb t).r).rd Z w [.slice L.A L.n L.cap] l
 |.ob k fid x=>∃L Lf,ρ id=some L/\ρ fid=some Lf/\((N.oj k).ob L.b).is Z w x Lf.bs
 |.rw t n cells=>∃L F,ρ id=some L/\L.n=n/\n<=1000000/\(0<n->L.A=some ⟨L.b,0,none⟩)/\a5X (N.tb t).r.sz w (.slice L.A n L.cap) n F L.bs/\e8 N T ρ Z w F cells
def C9(N:B8)(T:N6)(ρ:p4)(B0:List Nat)(id:Nat)(i:Item N):It:=⟨u4 N ρ id i,B0,fun Z w=>holds N T ρ id Z w i⟩
def u7(N:B8)(T:N6)(ρ:p4)(B0:List Nat)(l:c7 N):List It:=l.map fun p=>C9 N T ρ B0 p.1 p.2
def number{β:Type}:Nat->List β->List (Nat×β)
 |_,[]=>[]
 |n,x::r=>(n,x)::number (n+1) r
def q9:List Prop->Prop
 |[]=>True
 |p::ps=>p/\q9 ps
structure a1s where
 is:(Nat->Prop)->World->Prop
 I3:∀{Z Z':Nat->Prop}{B:List Nat}{w w':World},is Z w->Ext B w w'->(∀b∈B,Z b->w.heap.size<=b)->(∀b,Z b->b<w.heap.size->Z' b)->is Z' w'
structure P8(P:Program)(N:B8)(T:N6)(G:a1s)(K:Nat)(args:List (SV N))(nx:Nat)(c:CR N):Prop where
 run:∀(ρ:p4)(Z:Nat->Prop)(w:World)(vs:List Value),(∀i,nx<=i->ρ i=none)->(∀b,Z b->b<w.heap.size)->G.is Z w->e7 N T ρ Z w (.tuple vs.toArray) (.F5 args) ->
  G2 P K vs w (fun v w'=>∃(ρ':p4)(Z':Nat->Prop),(∀i L,ρ i=some L->ρ' i=some L)/\(∀i,nx+c.its.length<=i->ρ' i=none)/\(∀b,Z b->Z' b)/\(∀b,Z' b->Z b∨w.heap.size<=b)/\e7 N T ρ' Z' w' v c.r/\Sep [] w Z' w' (u7 N T ρ' [] (number nx c.its))/\q9 c.hy)
structure OR(N:B8)(k:Nat) where
 ob:List Prop
 hy:List Prop
 r:SV N
 x:N.O k
structure OC(N:B8) where
 k:Nat
 C:N.O k->List (SV N)->Option (OR N k)
structure WR(N:B8) where
 ob:List Prop
 hy:List Prop
 r:SV N
 x:Int
structure WC(N:B8) where
 T:Nat
 S:Nat
 C:SV N->Int->Option (WR N)
structure MO(P:Program)(N:B8)(T:N6)(t:Nat) where
 k:Nat
 emp:N.O k
 get:N.O k->SV N->Option (SV N)
 put:N.O k->SV N->SV N->Option (N.O k)
 new:∀(Z:Nat->Prop)(w:World)(b:Nat),w.heap[b]?=some (.map #[] 0)->((N.oj k).ob b).is Z w emp [b]
 look:∀{ρ:p4}{Z:Nat->Prop}{w:World}{b:Nat}{x:N.O k}{F:List Nat}{vk:Value}{sk v':SV N},((N.oj k).ob b).is Z w x F->e7 N T ρ Z w vk sk->get x sk=some v'->∃v,e7 N T ρ Z w v v'/\∀w1,F8 w w1->(Instr.lookup t (.map (some b)) vk false).run P w1=.ok v w1
 D5:∀{ρ:p4}{Z:Nat->Prop}{w:World}{b:Nat}{x x':N.O k}{F:List Nat}{vk v:Value}{sk s:SV N},((N.oj k).ob b).is Z w x F->e7 N T ρ Z w vk sk->e7 N T ρ Z w v s->put x sk s=some x'->∃w' F',b4j w w' F F'/\((N.oj k).ob b).is Z w' x' F'/\∀w1,F8 w w1->∃w2,(Instr.mapUpdate t (.map (some b)) vk v).run P w1=.ok () w2/\F8 w' w2
structure Env where
 P:Program
 N:B8
 T:N6
 ty:∀t,Option (TyI N T t)
 zob:Nat->Option ((k:Nat)×N.O k)
 M5:Nat->Option (List (SV N)->Nat->Option (CR N))
 U0:Nat->Bool
 obc:Nat->Option (OC N)
 inl:Nat->Option Func
 G:a1s
 wrc:Nat->Option (WC N)
 rws:Nat->Bool:=fun _=>false
 fnc:Nat->Option (FC N):=fun _=>none
 roc:Nat->Option (List (SV N)->c7 N->Option (Q1 N)):=fun _=>none
 yl:Option (OC N):=none
 mp:∀t,Option (MO P N T t):=fun _=>none
variable(E:Env)
abbrev Env.SV(E:Env):=Go.Rx.SV E.N
abbrev Env.St(E:Env):=Go.Rx.St E.N
def Env.G1(t:Nat):Option Nat:=match E.P.underlying t with|some (.slice e)=>some e|_=>none
def Env.isStr(t:Nat):Bool:=match E.P.underlying t with|some .string=>true|_=>false
def Env.isBool(t:Nat):Bool:=match E.P.underlying t with|some .bool=>true|_=>false
def Env.a89(t:Nat):Bool:=match E.P.underlying t with|some (.pointer _)=>true|_=>false
def Env.isIface(t:Nat):Bool:=match E.P.underlying t with|some (.interface _)=>true|_=>false
def Env.intOf(t:Nat):Option IntKind:=match E.P.underlying t with|some (.int k)=>some k|_=>none
def Env.a7v(t:Nat):Option Bool:=match E.P.underlying t with|some (.struct _)=>some true|some (.array _ _)=>some true|some _=>some false|none=>none
def Env.size(t:Nat):Option Nat:=(E.P.info? t).map (·.size)
def Env.bytes(t:Nat):Option Nat:=(E.P.info? t).map (·.bytes)
def Env.a8I(e t:Nat):Bool:=match E.size e with|some s=>Nat.beq s (E.N.tb t).r.sz|none=>false
def Env.fld(t i:Nat):Option (Nat×Nat):=match E.P.underlying t with|some (.struct fs)=>(match fs[i]? with|some f=>(match E.size f.type with|some s=>some (f.offset,s)|none=>none)|none=>none)|_=>none
def Env.c97(t:Nat):Option (List (Nat×Nat)):=match E.P.underlying t with|some (.struct fs)=>fs.toList.mapM (fun f=>(E.size f.type).map fun s=>(f.offset,s))|_=>none
def Env.zeroV(t:Nat):Option Value:=(E.P.info? t).bind (·.zero)
def Env.zero(t:Nat):Option E.SV:=(E.zeroV t).map cst
variable{E:Env}
def U9{N:B8}{t t':Nat}(h:t=t')(l:List (N.U t)):List (N.U t'):=h ▸ l
def bytesOf(E:Env)(t:Nat)(l:List (E.N.U t)):Option z6:=match E.ty t with
 |some y=>match y.by8 with|some h=>some (cast (by rw[B8.U,h.down]) l)|none=>none
 |none=>none
def ofBytes(E:Env)(t:Nat)(s:z6):Option (List (E.N.U t)):=match E.ty t with
 |some y=>match y.by8 with|some h=>some (cast (by rw[B8.U,h.down]) s)|none=>none
 |none=>none
def asL(E:Env)(t:Nat):E.SV->Option (List (E.N.U t))
 |.M9=>some []
 |.sl t' l=>if h:t'=t then some (U9 h l)else none
 |_=>none
def nrm(its:c7 E.N):E.SV->E.SV
 |.acc id=>match lk its id with|some (.fz t l)=>.sl t l|_=>.acc id
 |v=>v
def part(E:Env)(ls:List E.SV)(off T:Nat):Option E.SV:=match E.a7v T with
 |some true=>(match E.size T with|some n=>bif Nat.ble (off+n) ls.length then some (.agg ((ls.drop off).take n))else none|none=>none)
 |some false=>ls[off]?
 |none=>none
def b8w(its:c7 E.N):E.SV->Option Int
 |.sl _ l=>some l.length
 |.M9=>some 0
 |.acc id=>match lk its id with|some (.ac _ l)=>some l.length|some (.rw _ n _)=>some (n:Int)|_=>none
 |.sub id _ _ n=>match lk its id with|some (.ac _ _)=>some n|_=>none
 |_=>none
def lenOf(its:c7 E.N)(T:Nat)(v:E.SV):Option Int:=bif E.isStr T then(match v with|.str s=>some s.length|_=>none)else bif (E.G1 T).isSome then b8w its v else none
def flat:E.SV->Bool
 |.un=>false
 |.undef=>false
 |.F5 _=>false
 |_=>true
def J5(E:Env):List E.SV->Nat->List E.SV->List E.SV
 |ls,_,[]=>ls
 |ls,o,v::r=>J5 E (ls.set o v) (o+1) r
def b0E(E:Env)(fs:List (Nat×Nat))(f:Operand->E.SV):List (Nat×Operand)->List E.SV->Option (List E.SV)
 |[],ls=>some ls
 |p::r,ls=>match fs[p.1]? with
  |some (o,n)=>bif flat (f p.2) && Nat.beq (leaves (f p.2)).length n && Nat.ble (o+n) ls.length then b0E E fs f r (J5 E ls o (leaves (f p.2)))else none
  |none=>none
def isC:Operand->Bool
 |.const _=>true
 |_=>false
def a7w(E:Env)(t:Nat)(a b:E.SV):Option ((p:Prop) ×' Decidable p):=match a with
 |.int k x=>(match b with|.int k' y=>(match E.intOf t with|some _=>if k=k' then some ⟨x=y,inferInstance⟩else none|none=>none)|_=>none)
 |.str s=>(match b with|.str u=>bif E.isStr t then some ⟨s=u,inferInstance⟩else none|_=>none)
 |_=>none
def c6w(E:Env)(op:BinOp)(T:Nat)(ls ms:List E.SV):Option (Q1 E.N):=match E.P.underlying T with
 |some (.struct fs)=>(match fs.toList,ls,ms with
  |[f0,f1],[a0,a1],[b0,b1]=>bif !E.P.stoodInHeld T && !E.P.eqGuardType E.P.depth T && f0.name != "_" && f1.name != "_" && Nat.beq f0.offset 0 && Nat.beq f1.offset 1 then(match a7w E f0.type a0 b0,a7w E f1.type a1 b1 with
   |some ⟨p,_⟩,some ⟨q,_⟩=>(match op with|.eql=>W7 (p/\q)|.neq=>W7 (¬(p/\q))|_=>none)
   |_,_=>none)else none
  |_,_,_=>none)
 |_=>none
abbrev PD:=(p:Prop) ×' Decidable p
def b3G(E:Env)(t:Nat)(a b:E.SV):Option PD:=match a7w E t a b with
 |some r=>some r
 |none=>bif E.isBool t then(match prop a,prop b with|some ⟨p,_⟩,some ⟨q,_⟩=>some ⟨p↔q,inferInstance⟩|_,_=>none)else none
def c2I(E:Env)(rec:Nat->E.SV->E.SV->Option PD)(ls ms:List E.SV):List Field->Option PD
 |[]=>some ⟨True,inferInstance⟩
 |f::r=>bif f.name != "_" then(match part E ls f.offset f.type,part E ms f.offset f.type with
  |some a,some b=>(match rec f.type a b,c2I E rec ls ms r with
   |some ⟨p,_⟩,some ⟨q,_⟩=>some ⟨p/\q,inferInstance⟩
   |_,_=>none)
  |_,_=>none)else none
def b2D(E:Env):Nat->Nat->E.SV->E.SV->Option PD
 |0,_,_,_=>none
 |n+1,T,a,b=>(match a,b with
  |.agg ls,.agg ms=>(match E.P.underlying T with
   |some (.struct fs)=>bif E.P.stoodInHeld T then none else c2I E (b2D E n) ls ms fs.toList
   |_=>none)
  |a,b=>b3G E T a b)
def c7C(E:Env)(op:BinOp)(T:Nat)(ls ms:List E.SV):Option (Q1 E.N):=match c6w E op T ls ms with
 |some q=>some q
 |none=>bif E.P.eqGuardType E.P.depth T then none else(match b2D E 4 T (.agg ls) (.agg ms)with
  |some ⟨p,_⟩=>(match op with|.eql=>W7 p|.neq=>W7 (¬p)|_=>none)
  |none=>none)
def a0q(op:BinOp)(ob:List Prop)(z:Bool):Option (Q1 E.N):=
 match op with
 |.eql=>some ⟨ob,[],bif z then .tt else .ff⟩
 |.neq=>some ⟨ob,[],bif z then .ff else .tt⟩
 |_=>none
def c6r(E:Env)(op:BinOp)(T:Nat)(cy:Bool)(x y:E.SV):Option (Q1 E.N):=
 match x with
 |.int k a=>(match y with|.int k' b=>b5a op k k' a b|_=>none)
 |.byte a=>(match y with|.byte b=>O7 op a b|_=>none)
 |.str a=>(match y with|.str b=>a2x op a b|_=>none)
 |.err a=>(match y with|.err b=>(match b with|.nil=>bif cy && E.isIface T then b08 op a else none|_=>none)|_=>none)
 |.ref _ _=>(match y with|.M5 v=>(match v with|.pointer a=>(match a with|none=>bif E.a89 T then a1U op false else none|_=>none)|_=>none)|_=>none)
 |.M5 u=>(match y with|.M5 v=>(match u,v with|.pointer a,.pointer b=>(match a,b with|none,none=>bif E.a89 T then a1U op true else none|_,_=>none)|_,_=>none)|_=>none)
 |.agg ls=>(match y with|.agg ms=>c7C E op T ls ms|_=>none)
 |.M9=>(match y with|.M9=>bif (E.G1 T).isSome then a0q op [] true else none|_=>none)
 |.sl _ l=>(match y with|.M9=>bif (E.G1 T).isSome then a0q op [l≠[]] false else none|_=>none)
 |x=>bif E.isBool T then(match prop x,prop y with
  |some ⟨p,d⟩,some ⟨q,e⟩=>a48 op p q d e
  |_,_=>none)else none
def qUn(op:UnOp):E.SV->Option (Q1 E.N)
 |.tt=>match op with|.not=>q0 .ff|_=>none
 |.ff=>match op with|.not=>q0 .tt|_=>none
 |.bl p _=>match op with|.not=>W7 (¬p)|_=>none
 |.int k a=>match op,k with|.neg,.i64=>some ⟨[c6 (0-a)],[],.int .i64 (0-a)⟩|.xor,k=>q0 (.int k (k.wrap (BitVec.ofInt k.bits (if k.signed then -1 else k.max) ^^^ BitVec.ofInt k.bits a).toNat))|_,_=>none
 |_=>none
def a88(i:Nat):E.SV->Option (Q1 E.N)
 |.F5 vs=>match vs[i]? with|some v=>q0 v|none=>none
 |_=>none
def b5c(E:Env)(T fi:Nat):E.SV->Option (Q1 E.N)
 |.agg ls=>match E.P.underlying T with
  |some (.struct fs)=>(match fs[fi]? with|some fd=>(match part E ls fd.offset fd.type with|some v=>q0 v|none=>none)|none=>none)
  |_=>none
 |_=>none
def a3V(E:Env)(its:c7 E.N)(T:Nat)(i x:E.SV):Option (Q1 E.N):=match E.G1 T with
 |some e=>(match x with
  |.sl t l=>(match i with|.int _ a=>bif E.a8I e t then some ⟨[0<=a,a<l.length],[],.fel t l a 0⟩else none|_=>none)
  |.acc id=>(match i,lk its id with|.int _ a,some (.ac t l)=>bif E.a8I e t then some ⟨[0<=a,a<l.length],[],.el id t a 0⟩else none|.int _ a,some (.rw t n _)=>bif E.a8I e t then some ⟨[0<=a,a<(n:Int)],[],.ref id (a.toNat*(E.N.tb t).r.sz)⟩else none|_,_=>none)
  |.sub id t lo n=>(match i,lk its id with|.int _ a,some (.ac _ _)=>bif E.a8I e t then some ⟨[0<=a,a<n],[],.el id t (lo+a) 0⟩else none|_,_=>none)
  |_=>none)
 |none=>none
def a3T(o:Nat):E.SV->Option (Q1 E.N)
 |.ref id off=>q0 (.ref id (off+o))
 |.fel t l i off=>q0 (.fel t l i (off+o))
 |.el id t i off=>q0 (.el id t i (off+o))
 |_=>none
def qEl(E:Env)(t:Nat)(l:List (E.N.U t))(i:Int)(off T:Nat):Option (Q1 E.N):=match E.ty t with
 |some y=>match part E (leaves (y.sv (ix l i))) off T with|some v=>some ⟨[],y.hy (ix l i),v⟩|none=>none
 |none=>none
def b5J(its:c7 E.N)(T:Nat):E.SV->Option (Q1 E.N)
 |.ref id off=>match lk its id with
  |some (.own _ cells)=>match part E cells off T with|some v=>q0 v|none=>none
  |some (.rw _ n cells)=>bif Nat.blt 0 n then(match part E cells off T with|some v=>q0 v|none=>none)else none
  |_=>none
 |.fel t l i off=>qEl E t l i off T
 |.el id t' i off=>match lk its id with
  |some (.ac t l)=>bif Nat.beq t t' then qEl E t l i off T else none
  |_=>none
 |_=>none
def c6O:E.SV->Option (Q1 E.N)
 |.ref id off=>q0 (.ref id off)
 |.fel t l i off=>q0 (.fel t l i off)
 |_=>none
def b3P(E:Env)(T:Nat)(i:E.SV):E.SV->Option (Q1 E.N)
 |.str s=>match i with|.int _ a=>bif E.isStr T then some ⟨[0<=a,a<s.length],[],.byte (ix s a)⟩else none|_=>none
 |_=>none
def c4e(n:Int):Option Int->Option Int->List Prop
 |none,none=>[]
 |some a,none=>[0<=a,a<=n]
 |none,some b=>[0<=b,b<=n]
 |some a,some b=>[0<=a,a<=b,b<=n]
def b4Q{α:Type}(l:List α):Option Int->Option Int->List α
 |none,none=>l
 |some a,none=>l.drop a.toNat
 |none,some b=>l.take b.toNat
 |some a,some b=>(l.take b.toNat).drop a.toNat
def asI:E.SV->Option Int
 |.int k a=>match k with|.i64=>some a|_=>none
 |_=>none
def b4s(e:Operand->E.SV):Option Operand->Option (Option Int)
 |none=>some none
 |some o=>(asI (e o)).map some
def b4D(E:Env)(its:c7 E.N)(T:Nat)(lo hi:Option Int):E.SV->Option (Q1 E.N)
 |.str s=>bif E.isStr T then some ⟨c4e s.length lo hi,[],.str (b4Q s lo hi)⟩else none
 |.sl t l=>(match E.G1 T with|some e=>bif E.a8I e t then some ⟨c4e l.length lo hi,[],.sl t (b4Q l lo hi)⟩else none|none=>none)
 |.acc id=>(match E.G1 T,lk its id with|some e,some (.ac t l)=>bif E.a8I e t then some ⟨c4e l.length lo hi,[],.sub id t (lo.getD 0) (hi.getD l.length-lo.getD 0)⟩else none|_,_=>none)
 |_=>none
def c0m(E:Env)(T:Nat)(vs:List E.SV):Option o6:=match E.T.wr T with
 |none=>none
 |some k=>match k,vs with
  |0,[.str s,.int .i64 n]=>some (.w T s (.no n))
  |1,[.int .i64 n]=>some (.w T [] (.no n))
  |2,[.err (.no n)]=>some (.w T [] (.no n))
  |k+3,[]=>if k<1000 then some (.w T [] (.no k))else none
  |_,_=>none
def a7a(E:Env)(T:Nat):E.SV->Option (Q1 E.N)
 |.agg vs=>(match E.a7v T with
  |some true=>(match c0m E T vs with|some e=>q0 (.err e)|none=>none)
  |_=>none)
 |.int k a=>match k with|.i64=>bif Nat.beq T E.T.no && (E.intOf T).isSome then q0 (.err (.no a))else none|_=>none
 |.ref id off=>bif E.a89 T && (!Nat.beq T E.T.fp && (E.T.wp T).isNone)then q0 (.ifc T (.ref id off))else none
 |_=>none
def b3Q(E:Env)(e:Operand->E.SV)(T:Nat)(ps:List (Nat×Operand)):Option (Q1 E.N):=match E.zero T,E.c97 T with
 |some (.agg ls),some fs=>match b0E E fs e ps ls with|some ls=>q0 (.agg ls)|none=>none
 |_,_=>none
def a84(E:Env)(S:Nat)(t:Nat)(l:List (E.N.U t)):Option (Q1 E.N):=match E.G1 S with
 |some e=>(match E.intOf e with
  |some .u8=>(match bytesOf E t l with|some s=>q0 (.str s)|none=>none)
  |_=>none)
 |none=>none
def a0f(E:Env)(its:c7 E.N)(S D:Nat):E.SV->Option (Q1 E.N)
 |.byte c=>(match E.intOf S,E.intOf D with|some _,some k=>(match k with|.u8=>q0 (.byte c)|.i8=>none|k=>q0 (.int k c.toNat))|_,_=>none)
 |.int _ a=>(match E.intOf S,E.intOf D with|some _,some k=>(match k with|.u8=>q0 (.byte (UInt8.ofInt a))|k=>q0 (.int k (k.wrap a)))|_,_=>none)
 |.sl t l=>bif E.isStr D then a84 E S t l else none
 |.acc id=>match lk its id with
  |some (.ac t l)=>bif E.isStr D then a84 E S t l else none
  |_=>none
 |.sub id t2 lo n=>match lk its id with
  |some (.ac t l)=>bif Nat.beq t2 t && E.isStr D then a84 E S t ((l.take (lo.toNat+n.toNat)).drop lo.toNat)else none
  |_=>none
 |_=>none
def qMM(mx:Bool)(x y:E.SV):Option (Q1 E.N):=match x,y with
 |.int k a,.int k' b=>if k=k' then q0 (.int k (bif mx then max a b else min a b))else none
 |_,_=>none
def b2y(E:Env)(its:c7 E.N)(e:Operand->E.SV)(b:Builtin)(xs:List Operand)(Ts:List Nat):Option (Q1 E.N):=
 match b with
 |.len=>match xs,Ts with|[x],[T]=>(match lenOf its T (e x)with|some n=>q0 (.int .i64 n)|none=>none)|_,_=>none
 |.min=>match xs with|[x,y]=>qMM false (e x) (e y)|_=>none
 |.max=>match xs with|[x,y]=>qMM true (e x) (e y)|_=>none
 |_=>none
def c1B(E:Env)(its:c7 E.N)(e:Operand->E.SV)(c:Call):Option (Q1 E.N):=match c.callee with
 |.builtin b=>b2y E its e b c.args.toList c.argTypes.toList
 |_=>none
def c5w(e:Operand->E.SV)(a b:Operand):E.SV->Option (Q1 E.N)
 |.tt=>q0 (e a)
 |.ff=>q0 (e b)
 |_=>none
def isRef:E.SV->Bool
 |.ref _ _=>true
 |_=>false
def c1C(E:Env)(its:c7 E.N)(T:Nat)(key:E.SV):E.SV->Option (Q1 E.N)
 |.mp id=>(match lk its id,E.mp T with
  |some (.ob k _ x),some o=>if h:k=o.k then(match o.get (h ▸ x) key with|some v=>q0 v|none=>none)else none
  |_,_=>none)
 |_=>none
def b9f(E:Env)(its:c7 E.N)(e:Operand->E.SV)(op:Op):Option (Q1 E.N):=match op with
 |.move x=>q0 (e x)
 |.assign x=>q0 (e x)
 |.pick c a b=>c5w e a b (e c)
 |.binOp op T x y _=>c6r E op T (isC y) (e x) (e y)
 |.unOp op _ x=>qUn op (e x)
 |.extract x i=>a88 i (e x)
 |.indexAddr T x i=>a3V E its T (e i) (e x)
 |.fieldAddr T x fi=>(match E.fld T fi with|some (o,n)=>bif Nat.blt 0 n then a3T o (e x)else none|none=>none)
 |.field T x fi=>b5c E T fi (e x)
 |.load T x=>b5J its T (e x)
 |.nilCheck x=>c6O (e x)
 |.index T x i=>b3P E T (e i) (e x)
 |.slice T x lo hi m=>(match m,b4s e lo,b4s e hi with|none,some a,some b=>b4D E its T a b (e x)|_,_,_=>none)
 |.makeInterface T x=>a7a E T (e x)
 |.build T ps=>b3Q E e T ps.toList
 |.convert S D x=>a0f E its S D (e x)
 |.makeFunc f first caps=>(match f with|.func K=>bif Nat.beq first.size 0 && (caps.toList.map e).all isRef then q0 (.clo K (caps.toList.map e))else none|_=>none)
 |.call c=>c1B E its e c
 |.lookup T x i c=>bif c then none else c1C E its T (e i) (e x)
 |_=>none
structure S1(N:B8) where
 ob:List Prop
 hy:List Prop
 v:SV N
 items:c7 N
 nx:Nat
def a4O(its:c7 E.N):List E.SV->Option (List E.SV×c7 E.N)
 |[]=>some ([],its)
 |v::r=>match v with
  |.acc id=>match lk its id with
   |some (.ac t l)=>match a4O (a3I its id (.fz t l)) r with|some (r',its')=>some (.sl t l::r',its')|none=>none
   |some (.fz t l)=>match a4O its r with|some (r',its')=>some (.sl t l::r',its')|none=>none
   |_=>none
  |.ref _ _=>none
  |.el _ _ _ _=>none
  |.sub _ _ _ _=>none
  |.clo _ _=>none
  |.yld _=>none
  |.mp _=>none
  |.agg _=>none
  |.F5 _=>none
  |v=>match a4O its r with|some (r',its')=>some (v::r',its')|none=>none
def b4V(its:c7 E.N)(v:E.SV):Option (E.SV×c7 E.N):=match v with
 |.agg vs=>match a4O its vs with|some (vs',its')=>some (.agg vs',its')|none=>none
 |v=>match a4O its [v]with|some ([v'],its')=>some (v',its')|_=>none
def frz(its:c7 E.N):List E.SV->Option (List E.SV×c7 E.N)
 |[]=>some ([],its)
 |v::r=>match b4V its v with
  |some (v',its1)=>(match frz its1 r with|some (r',its2)=>some (v'::r',its2)|none=>none)
  |none=>none
def c7r(E:Env)(its:c7 E.N)(t:Nat):E.SV->Option (List (E.N.U t))
 |.acc id=>match lk its id with|some (.ac t' l)=>if h:t'=t then some (U9 h l)else none|_=>none
 |v=>asL E t v
def c1V(E:Env){t:Nat}(y:TyI E.N E.T t)(f:Operand->E.SV):c7 E.N->List (Nat×Operand)->Option (List (E.N.U t)×c7 E.N)
 |its,[]=>some ([],its)
 |its,p::r=>match b4V its (f p.2)with
  |some (v,its1)=>bif flat v then(match y.bk v,c1V E y f its1 r with
   |some x,some (xs,its2)=>some (x::xs,its2)
   |_,_=>none)else none
  |none=>none
def b4c(its:c7 E.N)(nx T:Nat):Option (S1 E.N):=match E.zob T with
 |some ⟨k,x⟩=>some ⟨[],[],.ref nx 0,(nx,.ob k nx x)::its,nx+1⟩
 |none=>(match E.zero T with|some z=>bif flat z then some ⟨[],[],.ref nx 0,(nx,.own T (leaves z))::its,nx+1⟩else none|none=>none)
def b5k(its:c7 E.N)(nx T:Nat):E.SV->Option (S1 E.N)
 |.ref id off=>match lk its id with
  |some (.own S cells)=>(match E.T.wp T with
   |some S'=>bif Nat.beq off 0 && Nat.beq S S' && E.a89 T then(bif E.T.wk S then(match cells with|[.str s,.int .i64 n]=>some ⟨[],[],.err (.p T s n),rmv its id,nx⟩|_=>none)else(match cells with|[.str s,.err e]=>some ⟨[e=.no e.n0],[],.err (.p T s e.n0),rmv its id,nx⟩|_=>none))else none
   |none=>bif Nat.beq off 0 && Nat.beq T E.T.fp && Nat.beq S E.T.fs && (E.a89 T && !Nat.beq T 0)then(match cells with|[.int .i64 a,.int .i64 n]=>some ⟨[],[],.err (.fault a n),rmv its id,nx⟩|_=>none)else none)
  |_=>none
 |_=>none
def c4R:List E.SV->E.SV
 |[x]=>x
 |xs=>.agg xs
def a7s(its:c7 E.N)(nx T id t:Nat)(i:Int)(off:Nat)(x:E.SV):Option (S1 E.N):=match b4V its x with
 |some (v,its')=>(match lk its' id with
  |some (.ac t' l)=>if h:t'=t then(match E.ty t with
   |some y=>bif Nat.ble (off+(E.size T).getD 0) (leaves (y.sv (ix (U9 h l) i))).length && flat v && (E.size T).isSome && Nat.beq (leaves v).length ((E.size T).getD 0) && E.a8I t t then
     (match y.bk (c4R (J5 E (leaves (y.sv (ix (U9 h l) i))) off (leaves v)))with
     |some x'=>some ⟨[],[],.un,a3I its' id (.ac t ((U9 h l).set i.toNat x')),nx⟩
     |none=>none)else none
   |none=>none)else none
  |_=>none)
 |none=>none
def c0C(its:c7 E.N)(nx T:Nat)(x:E.SV):E.SV->Option (S1 E.N)
 |.ref id off=>match lk its id with
  |some (.own S cells)=>bif Nat.ble (off+(E.size T).getD 0) cells.length && flat x && (E.size T).isSome && Nat.beq (leaves x).length ((E.size T).getD 0)then some ⟨[],[],.un,a3I its id (.own S (J5 E cells off (leaves x))),nx⟩else none
  |_=>none
 |.el id t i off=>a7s its nx T id t i off x
 |_=>none
def a8H(E:Env)(t:Nat):Bool:=E.a8I t t && Nat.blt 0 (E.N.tb t).r.sz && (match E.bytes t with|some b=>Nat.blt 0 b|none=>false) && (match E.zeroV t with|some z=>Nat.beq z.cells.size (E.N.tb t).r.sz|none=>false)
def a4G(E:Env)(its:c7 E.N)(nx t:Nat)(xs:List (E.N.U t)):E.SV->Option (S1 E.N)
 |.M9=>bif a8H E t then some ⟨[xs.length*(E.bytes t).getD 0<=140737488355328],[],.acc nx,(nx,.ac t xs)::its,nx+1⟩else none
 |.acc id=>match lk its id with
  |some (.ac t' l)=>if h:t'=t then(bif a8H E t then some ⟨[(l.length+xs.length)*(E.bytes t).getD 0<=140737488355328],[],.acc nx,(nx,.ac t (U9 h l++xs))::rmv its id,nx+1⟩else none)else none
  |_=>none
 |_=>none
def d4N(E:Env)(its:c7 E.N)(nx t:Nat)(sx:E.SV):E.SV->Option (S1 E.N)
 |.str s=>match ofBytes E t s with|some xs=>a4G E its nx t xs sx|none=>none
 |_=>none
def b4k(E:Env)(its:c7 E.N)(nx T:Nat):E.SV->Option (S1 E.N)
 |.sub id t lo n=>(match lk its id with
  |some (.ac t' l)=>if h:t'=t then(bif a8H E t then(match E.G1 T,E.ty t,E.zero t with
   |some e,some y,some z=>bif Nat.beq e t && flat z then(match y.bk z with
    |some x=>some ⟨[],[],.un,a3I its id (.ac t ((U9 h l).take lo.toNat++List.replicate n.toNat x++(U9 h l).drop (lo.toNat+n.toNat))),nx⟩
    |none=>none)else none
   |_,_,_=>none)else none)else none
  |_=>none)
 |_=>none
def d2o(c:Call):Option (Operand×Nat):=match c.callee with
 |.builtin b=>(match b with
  |.clear=>(match c.args.toList,c.argTypes.toList with
   |[x],[T]=>some (x,T)
   |_,_=>none)
  |_=>none)
 |_=>none
def b9n(E:Env)(its:c7 E.N)(nx:Nat)(e:Operand->E.SV)(c:Call)(ty:Nat):Option (S1 E.N):=match c.callee with
 |.builtin b=>(match b with
  |.append=>(match c.args.toList,c.argTypes.toList with
   |[x,y],[S,S']=>bif Nat.beq S S' && Nat.beq S ty then(match E.G1 S with
    |some t=>(match c7r E its t (e y)with|some xs=>a4G E its nx t xs (e x)|none=>none)
    |none=>none)else none
   |_,_=>none)
  |_=>none)
 |_=>none
def b1D{α:Type}:Nat->List (Nat×α)->Bool
 |_,[]=>true
 |i,p::r=>Nat.beq p.1 i && b1D (i+1) r
def c2K(E:Env)(its:c7 E.N)(nx:Nat)(e:Operand->E.SV)(T len:Nat)(ps:List (Nat×Operand)):Option (S1 E.N):=match E.G1 T with
 |some t=>(match E.ty t with
  |some y=>bif a8H E t && b1D 0 ps && Nat.beq ps.length len && Nat.ble (len*(E.N.tb t).r.sz) 16777216 then(match c1V E y e its ps with
   |some (xs,its')=>some ⟨[],[],.acc nx,(nx,.ac t xs)::its',nx+1⟩
   |none=>none)else none
  |none=>none)
 |none=>none
def c0y(E:Env)(its:c7 E.N)(nx T:Nat)(x y:E.SV):Option (S1 E.N):=match E.G1 T,asI x,asI y with
 |some t,some a,some b=>(match E.ty t with
  |some y=>bif a8H E t then(match(E.zero t).bind (fun z=>bif flat z then y.bk z else none)with
   |some z=>some ⟨[0<=a,a=b,(E.bytes t).getD 0*a<=140737488355328],[],.acc nx,(nx,.ac t (List.replicate a.toNat z))::its,nx+1⟩
   |none=>none)else none
  |none=>none)
 |_,_,_=>none
def b52(E:Env)(its:c7 E.N)(nx S D:Nat):E.SV->Option (S1 E.N)
 |.str s=>(match E.G1 D with
  |some e=>bif E.isStr S then(match E.intOf e with
   |some .u8=>(match ofBytes E e s with|some l=>some ⟨[],[],.acc nx,(nx,.ac e l)::its,nx+1⟩|none=>none)
   |_=>none)else none
  |none=>none)
 |_=>none
def c3h(e:Operand->E.SV)(sz:Nat):List (Nat×Operand)->Option (List E.SV)
 |[]=>some []
 |p::r=>bif flat (e p.2) && Nat.beq (leaves (e p.2)).length sz then(match c3h e sz r with|some ls=>some (leaves (e p.2)++ls)|none=>none)else none
def b3f(E:Env)(its:c7 E.N)(nx:Nat)(e:Operand->E.SV)(T len:Nat)(ps:List (Nat×Operand)):Option (S1 E.N):=match E.G1 T with
 |some t=>bif E.rws t && a8H E t && b1D 0 ps && Nat.beq ps.length len && Nat.ble (len*(E.N.tb t).r.sz) 16777216 && Nat.ble len 1000000 && Nat.blt 0 len then(match c3h e (E.N.tb t).r.sz ps with
  |some ls=>some ⟨[],[],.acc nx,(nx,.rw t len ls)::its,nx+1⟩
  |none=>none)else none
 |none=>none
def c88(E:Env)(its:c7 E.N)(nx T:Nat):Option (S1 E.N):=match E.mp T with
 |some o=>some ⟨[],[],.mp nx,(nx,.ob o.k nx o.emp)::its,nx+1⟩
 |none=>none
def b91(E:Env)(its:c7 E.N)(nx T:Nat)(key v:E.SV):E.SV->Option (S1 E.N)
 |.mp id=>(match lk its id,E.mp T with
  |some (.ob k _ x),some o=>if h:k=o.k then(match o.put (h ▸ x) key v with|some x'=>some ⟨[],[],.un,a3I its id (.ob o.k nx x'),nx+1⟩|none=>none)else none
  |_,_=>none)
 |_=>none
def b62(E:Env)(its:c7 E.N)(nx:Nat)(e:Operand->E.SV)(op:Op)(ty:Nat):Option (S1 E.N):=match op with
 |.alloc T=>b4c its nx T
 |.box T x=>bif flat (e x)then some ⟨[],[],.ref nx 0,(nx,.own T (leaves (e x)))::its,nx+1⟩else none
 |.makeInterface T x=>b5k its nx T (e x)
 |.store T a x=>c0C its nx T (e x) (e a)
 |.call c=>b9n E its nx e c ty
 |.buildSlice T n ps=>(match b3f E its nx e T n ps.toList with|some s=>some s|none=>c2K E its nx e T n ps.toList)
 |.makeSlice T x y=>c0y E its nx T (e x) (e y)
 |.convert S D x=>b52 E its nx S D (e x)
 |.makeMap T r=>(match r with|none=>c88 E its nx T|some _=>none)
 |.mapUpdate T m k v=>b91 E its nx T (e k) (e v) (e m)
 |_=>none
end Go.Rx
end
